/-
  Bodies: Tick.
-/
import Derived.Test.YtbhahonkhiiilaaGreatMc
import Derived.Test.YtbhahonkhiiilaaGreatMac
import Derived.Test.YtbhahonkhiiilaaGreatBdB
set_option linter.unusedSimpArgs false
set_option linter.unusedVariables false
set_option maxHeartbeats 24000000
namespace Go.Proofs.YtbhahonkhiiilaaGreat
open Go.RowKit PM Dt
set_option maxRecDepth 100000 in
theorem C3 (X:cG) (lo b:Nat) (c t:Nat->Int) (w:World) (ho:gh lo b w X) (hQ:∀i,i<4->bu (X.Q i)) (hI:SI X.h X.f) (ht:aE t 1048576=true) (hQ2:∀i,i<4->bu ((bJ X.Q (cO X c)) i)):Calls Tryz.prog 26 #[.pointer (some ⟨b,0,none⟩),.agg (aj c),.agg (ah t)] w fun e w'=>e=.returned (.tuple #[.agg (ah (bif fG (dS X.T (cM (bJ X.Q (cO X c)) t))then(cM (bJ X.Q (cO X c)) t)else fun _=>0)),.int .i64 0])/\gh lo b w' ⟨(bJ X.Q (cO X c)),(bif fG (dS X.T (cM (bJ X.Q (cO X c)) t))then(dS X.T (cM (bJ X.Q (cO X c)) t))else X.T),fX X c,X.f⟩/\co lo b w w':=by
 obtain⟨s,hl,hu,hg,hs⟩:=ho
 have NN:=aa (fun w' (hb:Below w.heap.size w w')=>gt X.Q X.T s b w' (hg.below hb hg.lt))
 have HT:=aa (fun k hk=>(cR _ _).1 ((bp t _).1 ht k hk))
 have ST:=aa (fun w1 (hb:af w1 s (cy (X.h,X.f)) 126)=>Ag X.h X.f s c w1 hb hI)
 have MO:=aa (fun w1 (h1:af w1 b (iZ (X.Q,X.T,s)) 74) (h2:af w1 s (cy (fX X c,X.f)) 126)=>uV ⟨X.Q,X.T,fX X c,X.f⟩ lo b w1 ⟨s,hl,hu,h1,h2⟩ hQ (hI.step c))
 rw[show aX ⟨X.Q,X.T,fX X c,X.f⟩=cO X c from rfl]at MO
 obtain⟨z,hz⟩:∃z,zV (cO X c)=z:=⟨_,rfl⟩
 have EQ:=tE (cO X c)
 simp only[hz]at EQ
 have HL:=pZ X.Q X.T (fX X c)
 have m0:IntKind.i64.wrap (2*cO X c 0)=aJ 2 (cO X c) 0:=by have:=HL 0 oa;rw[wI];unfold aJ cO;omega
 have m1:IntKind.i64.wrap (2*cO X c 1)=aJ 2 (cO X c) 1:=by have:=HL 1 oa;rw[wI];unfold aJ cO;omega
 have m2:IntKind.i64.wrap (2*cO X c 2)=aJ 2 (cO X c) 2:=by have:=HL 2 oa;rw[wI];unfold aJ cO;omega
 have TU:=aa (fun w=>uI X.Q (aJ 2 (cO X c)) w hQ (J2 X.Q X.T (fX X c) (k:=2) oa))
 obtain⟨Q2,hq⟩:∃Q2,Q2=bJ X.Q (cO X c):=⟨_,rfl⟩
 rw[<-hq]at hQ2|-
 have hqz:Hid (z=true/\Q2=X.Q\/z=false/\aR X.Q (aJ 2 (cO X c))=Q2):=by
  rw[hq];unfold bJ;rw[hz];unfold Hid;cases z<;>simp
 have RO:=aa (fun w=>DF Q2 t w hQ2)
 have AD:=aa (fun w=>Ee X.T (cM Q2 t) w)
 have AL:=aa (fun w=>fa (dS X.T (cM Q2 t)) w)
 obtain⟨al,ha⟩:∃al,fG (dS X.T (cM Q2 t))=al:=⟨_,rfl⟩
 rw[ha]at AL|-
 clear hQ hI ht hz HL hQ2 ha hq
 go_enter Tryz.func26,Tryz.ntmps26
 go_upto_region 1 with(fail)
 simp only[aQ]
 have cv:af (((w.alloc (.cells (aj c) 22)).alloc (.cells (ah t) 25)).alloc (.cells (ah fun _=>0) 25)) w.heap.size (aj c) 22:=((af.new _ _ _).alloc _).alloc _
 have tv:af (((w.alloc (.cells (aj c) 22)).alloc (.cells (ah t) 25)).alloc (.cells (ah fun _=>0) 25)) (w.heap.size+1) (ah t) 25:=(af.new' sd).alloc _
 have r:af (((w.alloc (.cells (aj c) 22)).alloc (.cells (ah t) 25)).alloc (.cells (ah fun _=>0) 25)) (w.heap.size+2) (ah fun _=>0) 25:=af.new' sd
 have hB:Below w.heap.size w (((w.alloc (.cells (aj c) 22)).alloc (.cells (ah t) 25)).alloc (.cells (ah fun _=>0) 25)):=by go_grown
 generalize(((w.alloc (.cells (aj c) 22)).alloc (.cells (ah t) 25)).alloc (.cells (ah fun _=>0) 25))=w0 at *
 have g:af w0 b (iZ (X.Q,X.T,s)) 74:=hg.below hB hg.lt
 have sv:af w0 s (cy (X.h,X.f)) 126:=hs.below hB hs.lt
 have gl:=hg.lt
 have sl:=hs.lt
 clear hg hs
 have ne_g_sv:b≠s:=oa
 have ne_cv_g:w.heap.size≠b:=oa
 have ne_cv_sv:w.heap.size≠s:=oa
 have ne_tv_g:(w.heap.size+1)≠b:=oa
 have ne_tv_sv:(w.heap.size+1)≠s:=oa
 have ne_r_g:(w.heap.size+2)≠b:=oa
 have ne_r_sv:(w.heap.size+2)≠s:=oa
 go_upto_region 3 with(first
  |(go_at_call 27;with_reducible refine(NN.out _ hB).mono ?_;rintro e w9 ⟨rfl,rfl⟩))
 go_wp2_with (first
  |(refine ac ?hw _ _ rfl _ rfl _ _ _ _ tv yc rfl ?hi ?_;(case hw=>exact rW);(case hi=>exact rI)))
 clear NN
 go_loopg [19] 3 (fun g_ iv wr=>∃k:Nat,g_+k=3/\iv=.int .i64 k/\af wr w.heap.size (aj c) 22/\af wr (w.heap.size+1) (ah t) 25/\af wr (w.heap.size+2) (ah fun _=>0) 25/\af wr b (iZ (X.Q,X.T,s)) 74/\af wr s (cy (X.h,X.f)) 126/\Below w.heap.size w wr)
 case atStart=>exact⟨0,rfl,rfl,cv,tv,r,g,sv,hB⟩
 case round=>
  clear hB cv tv r g sv
  obtain⟨k,hk,rfl,cv,tv,r,g,sv,hB⟩:=hrel
  by_cases hkn:k<3
  ·have hdk:decide ((k:Int)<3)=true:=dT oa
   have hdk':decide (k<3)=true:=dT oa
   have hw3:IntKind.i64.wrap ((k:Int)+1)=((k+1:Nat):Int):=by rw[wI];omega
   have hix:Hid (∀w,(Instr.index 25 (.agg (ah t)) (.int .i64 k)).run Tryz.prog w=.ok (.int .i64 (t k)) w):=fun w=>yp t hkn w
   have HK:=HT.out k hkn
   have d1:decide (t k< -1048576)=false:=dF oa
   have d2:decide (1048576<t k)=false:=dF oa
   clear HK
   go_wp2_with ((refine aZ ?hw _ _ _ rfl _ rfl k _ rfl rfl _ hix.out ?_;(case hw=>exact rW)))
   go_roundg (3-(k+1))
   case rel=>exact⟨k+1,oa,rfl,cv,tv,r,g,sv,hB⟩
   case measure=>omega
  ·obtain rfl:k=3:=oa
   clear HT
   replace hB:co lo b w wr:=co.of hB
   go_upto_region 9 with(fail)
   have lt_cv:=cv.lt
   have lt_tv:=tv.lt
   have lt_r:=r.lt
   have lt_g:=g.lt
   have lt_sv:=sv.lt
   have hW0:w.heap.size<=wr.heap.size:=by simpa using hB.size
   apply a_ 6 [0,1,3,7,0,31] [] [_,_,_,_,_,_] (fun p L w'=>wr.heap.size<=w'.heap.size/\co lo b w w'/\af w' w.heap.size (aj c) 22/\af w' (w.heap.size+1) (ah t) 25/\af w' (w.heap.size+2) (ah fun _=>0) 25/\af w' b (iZ (X.Q,X.T,s)) 74/\af w' s (bif L 5 then(cy (fX X c,X.f))else(cy (X.h,X.f))) 126) _ [(0,30),(1,31),(2,32),(3,33),(4,34),(5,35)] [0,1,2,3,4,5]
   case hn|hm|hB|hds|hA=>exact rA
   case h0=>exact rH
   case hmore=>exact fun p L w1 w2 ⟨hsz,hB,cv,tv,r,g,sv⟩ hm=>⟨Nat.le_trans hsz hm.size,hB.trans (hm.mono (Nat.le_trans hW0 hsz)),cv.below hm cv.lt,tv.below hm tv.lt,r.below hm r.lt,g.below hm g.lt,sv.below hm sv.lt⟩
   case hs=>
    intro more
    refine aH ?_
    refine aH ?_
    refine aH ?_
    refine cm ?_ ?_
    ·rintro p L w1 ⟨hsz,hB,cv,tv,r,g,sv⟩ hk
     have hc:w1.cell? ⟨b,7,none⟩=some (.pointer (some ⟨s,0,none⟩)):=g.cellIs rfl
     go_simp
     exact⟨rfl,rfl⟩
    refine cm ?_ ?_
    ·rintro p L w1 ⟨hsz,hB,cv,tv,r,g,sv⟩ hk
     first|exact br _ _ rfl _ rfl _ _ cv _ ya rfl rI rfl|(have hc:=cv.cellIs (aD _ (show 0<4 by omega));go_simp;exact⟨rfl,rfl⟩)
    refine aw.cons ?_ ?_
    ·refine gw 5 rfl (fun p=>rfl) (fun _=>s) (fun p=>(cy (fX X c,X.f))) ?_ ?_
     ·rintro p L w1 ⟨hsz,hB,cv,tv,r,g,sv⟩ hk
      have L5:L 5=false:=hk.1
      rw[L5]at sv
      try simp only[cond_true,cond_false]at sv
      go_simp
      exact(ST.out _ sv).mono rC
     ·rintro p L w1 w2 ⟨hsz,hB,cv,tv,r,g,sv⟩ hk hm
      refine⟨nk hsz (by have:=hm.size;simpa using this),(hB.row (by first|exact .inr (nk hW0 hp.1)|exact .inr ge_sv|exact .inl ⟨ns _,ns _⟩|omega|(have:=hB.size;simp at this|-;omega)) _).trans (hm.mono (nk hW0 hsz)),(cv.rowOther ne_cv_sv _).below hm (by simpa using cv.lt),(tv.rowOther ne_tv_sv _).below hm (by simpa using tv.lt),(r.rowOther ne_r_sv _).below hm (by simpa using r.lt),(g.rowOther ne_g_sv _).below hm (by simpa using g.lt),?_⟩
      rw[show cD L 5 5=true from rfl]
      exact(sv.row _).below hm (by simpa using sv.lt)
    exact aw.nil
   case hV0=>exact fun p q=>aw.nil
   case he=>
   clear hB cv tv r g sv
   rintro p wrr ⟨hsz,hB,cv,tv,r,g,sv⟩
   replace sv:af wrr s (cy (fX X c,X.f)) 126:=sv
   clear lt_cv lt_tv lt_r lt_g lt_sv hsz hW0 ST
   go_upto_region 10 with(fail)
   have lt_cv:=cv.lt
   have lt_tv:=tv.lt
   have lt_r:=r.lt
   have lt_g:=g.lt
   have lt_sv:=sv.lt
   have hW0:w.heap.size<=wrr.heap.size:=by simpa using hB.size
   apply ay 4 [0,1,3,7] [2] [_,_,(fun p=>.pointer (some ⟨p 2,0,none⟩)),(fun _=>undef)] (fun p L w'=>wrr.heap.size<=w'.heap.size/\co lo b w w'/\af w' w.heap.size (aj c) 22/\af w' (w.heap.size+1) (ah t) 25/\af w' (w.heap.size+2) (ah fun _=>0) 25/\af w' b (iZ (X.Q,X.T,s)) 74/\af w' s (cy (fX X c,X.f)) 126/\(L 2=true->wrr.heap.size<=p 2/\af w' (p 2) (bif L 3 then(ah (cO X c))else(ah fun _=>0)) 25)) _ [(0,36),(1,37),(2,10)] [0,1,2,3]
   case hn|hB|hds|hA=>exact rA
   case h0=>exact rH
   case hmore=>exact fun p L w1 w2 ⟨hsz,hB,cv,tv,r,g,sv,h_l⟩ hm=>⟨Nat.le_trans hsz hm.size,hB.trans (hm.mono (Nat.le_trans hW0 hsz)),cv.below hm cv.lt,tv.below hm tv.lt,r.below hm r.lt,g.below hm g.lt,sv.below hm sv.lt,fun hl=>⟨(h_l hl).1,(h_l hl).2.below hm (h_l hl).2.lt⟩⟩
   case hs=>
    intro more
    refine aH ?_
    refine bS 1 rfl (fun p=>rfl) (fun _ _ _ h=>h) more ?_ ?_
    ·rintro p L w1 ⟨hsz,hB,cv,tv,r,g,sv,h_l⟩ hk
     go_simp
     exact(MO.out _ g sv).mono rC
    refine aw.cons ?_ ?_
    ·refine aP 2 rfl (fun p=>rfl) rfl (ah fun _=>0) 25 (fun p=>rfl) ?_ ?_
     ·exact rZ
     rintro p L w1 ⟨hsz,hB,cv,tv,r,g,sv,h_l⟩ hk
     have L3:L 3=false:=hk.2.2 3 rfl
     refine⟨nk hsz sd,hB.alloc (nk hW0 hsz) _,cv.alloc _,tv.alloc _,r.alloc _,g.alloc _,sv.alloc _,fun _=>⟨hsz,?_⟩⟩
     rw[show cD L 2 3=false from L3]
     exact af.new _ _ _
    refine aw.cons ?_ ?_
    ·refine aA 3 rfl (fun p=>rfl) (fun p=>rfl) _ _ _ rfl (fun p=>p 2) 0 (fun p=>rfl) (fun p=>(ah (cO X c))) (fun p=>rfl) (fun p=>(ah fun _=>0)) (fun p=>(ah (cO X c))) 25 (fun p=>dH _ _) (fun p=>by first|(rw[ad,ad];decide)|simp[ad,ad]) (fun p=>by rw[ad];kernel_rfl) (fun p=>aG _) ?_ ?_
     ·rintro p L w1 ⟨hsz,hB,cv,tv,r,g,sv,h_l⟩ hk
      exact cg (h_l (hk.2.1 2 rfl)).2 hk.1
     ·rintro p L w1 ⟨hsz,hB,cv,tv,r,g,sv,h_l⟩ hk
      have hp:=h_l (hk.2.1 2 rfl)
      refine⟨(by simpa using hsz),hB.row (by first|exact .inr (nk hW0 hp.1)|exact .inr ge_l|exact .inl ⟨ns _,ns _⟩|omega|(have:=hB.size;simp at this|-;omega)) _,cv.rowOther (nL lt_cv hp.1) _,tv.rowOther (nL lt_tv hp.1) _,r.rowOther (nL lt_r hp.1) _,g.rowOther (nL lt_g hp.1) _,sv.rowOther (nL lt_sv hp.1) _,fun _=>⟨hp.1,?_⟩⟩
      rw[show cD L 3 3=true from rfl]
      exact hp.2.row _
    exact aw.nil
   case hV0=>exact rV
   case he=>
   clear hB cv tv r g sv
   rintro p wrrr ⟨hsz,hB,cv,tv,r,g,sv,h_l⟩
   obtain⟨le_l,l⟩:=h_l rfl
   clear h_l
   replace l:af wrrr (p 2) (ah (cO X c)) 25:=l
   have ne_cv_l:w.heap.size≠p 2:=nN (nq lt_cv le_l)
   have ne_tv_l:(w.heap.size+1)≠p 2:=nN (nq lt_tv le_l)
   have ne_r_l:(w.heap.size+2)≠p 2:=nN (nq lt_r le_l)
   have ne_g_l:b≠p 2:=nN (nq lt_g le_l)
   have ne_sv_l:s≠p 2:=nN (nq lt_sv le_l)
   have ge_l:w.heap.size<=p 2:=nk hW0 le_l
   generalize p 2=l_b at *
   clear lt_cv lt_tv lt_r lt_g lt_sv hsz hW0 MO
   rcases hqz.out with⟨rfl,hq⟩|⟨rfl,hq⟩
   case' inl=>
    rw[<-hq]at g
    go_upto_region 13 with(first
     |(refine ac ?hw _ _ rfl _ rfl _ _ _ _ l yc rfl ?hi ?_;(case hw=>exact rW);(case hi=>exact rI)))
    clear EQ hq hqz
   case' inr=>
    rw[hq]at TU
    clear hq hqz
    go_upto_region 12 with(first
     |(refine ac ?hw _ _ rfl _ rfl _ _ _ _ l yc rfl ?hi ?_;(case hw=>exact rW);(case hi=>exact rI)))
    clear EQ
    have lt_cv:=cv.lt
    have lt_tv:=tv.lt
    have lt_r:=r.lt
    have lt_g:=g.lt
    have lt_sv:=sv.lt
    have lt_l:=l.lt
    have hW0:w.heap.size<=wrrr.heap.size:=by simpa using hB.size
    apply a_ 24 [0,0,2,6,14,30,0,64,192,0,512,1536,0,4096,12288,32704,65534,131070,262142,262142,524287,1572863,3670015,7864319] [] [_,_,_,_,_,_,_,_,_,_,_,_,_,_,_,_,_,_,_,_,_,_,_,(fun _=>undef)] (fun p L w'=>wrrr.heap.size<=w'.heap.size/\co lo b w w'/\af w' w.heap.size (aj c) 22/\af w' (w.heap.size+1) (ah t) 25/\af w' (w.heap.size+2) (ah fun _=>0) 25/\af w' b (bif L 23 then(iZ (Q2,X.T,s))else(iZ (X.Q,X.T,s))) 74/\af w' s (cy (fX X c,X.f)) 126/\af w' l_b (ah (cO X c)) 25) _ [(0,42),(1,43),(2,44),(3,45),(4,46),(5,47),(6,48),(7,49),(8,50),(9,51),(10,52),(11,53),(12,54),(13,55),(14,56),(15,57),(16,58),(17,41),(18,59),(19,60),(20,61),(21,62),(22,63)] [0,1,2,3,4,5,6,7,8,9,10,11,12,13,14,15,16,17,18,19,20,21,22,23]
    case hn|hm|hB|hds|hA=>exact rA
    case h0=>exact rH
    case hmore=>exact fun p L w1 w2 ⟨hsz,hB,cv,tv,r,g,sv,l⟩ hm=>⟨Nat.le_trans hsz hm.size,hB.trans (hm.mono (Nat.le_trans hW0 hsz)),cv.below hm cv.lt,tv.below hm tv.lt,r.below hm r.lt,g.below hm g.lt,sv.below hm sv.lt,l.below hm l.lt⟩
    case hs=>
     intro more
     refine aH ?_
     refine aH ?_
     refine aH ?_
     refine aH ?_
     refine aH ?_
     refine cm ?_ ?_
     ·rintro p L w1 ⟨hsz,hB,cv,tv,r,g,sv,l⟩ hk
      have L23:L 23=false:=hk.2.2 23 rfl
      rw[L23]at g
      try simp only[cond_true,cond_false]at g
      exact aO _ _ rfl _ 0 rfl _ _ g (aj X.Q) (DZ X.Q X.T s) _ yb rfl rI rfl
     refine aH ?_
     refine cm ?_ ?_
     ·rintro p L w1 ⟨hsz,hB,cv,tv,r,g,sv,l⟩ hk
      have hc:w1.cell? ⟨l_b,0,none⟩=some (.int .i64 (cO X c 0)):=l.cellIs (az _ oa)
      go_simp
      exact⟨rfl,rfl⟩
     refine aH ?_
     refine aH ?_
     refine cm ?_ ?_
     ·rintro p L w1 ⟨hsz,hB,cv,tv,r,g,sv,l⟩ hk
      have hc:w1.cell? ⟨l_b,1,none⟩=some (.int .i64 (cO X c 1)):=l.cellIs (az _ oa)
      go_simp
      exact⟨rfl,rfl⟩
     refine aH ?_
     refine aH ?_
     refine cm ?_ ?_
     ·rintro p L w1 ⟨hsz,hB,cv,tv,r,g,sv,l⟩ hk
      have hc:w1.cell? ⟨l_b,2,none⟩=some (.int .i64 (cO X c 2)):=l.cellIs (az _ oa)
      go_simp
      exact⟨rfl,rfl⟩
     refine aH ?_
     refine aw.cons ?_ ?_
     ·refine eK 15 rfl (fun p=>rfl) ?_ (fun _ _ _ h=>h)
      intros;go_simp;exact⟨congrArg Value.agg (sT (aJ 2 (cO X c))),rfl⟩
     refine bS 16 rfl (fun p=>rfl) (fun _ _ _ h=>h) more ?_ ?_
     ·rintro p L w1 ⟨hsz,hB,cv,tv,r,g,sv,l⟩ hk
      go_simp
      exact(TU.out _).mono rC
     refine aH ?_
     refine aH ?_
     refine aH ?_
     refine aH ?_
     refine aH ?_
     refine aH ?_
     refine aw.cons ?_ ?_
     ·refine aA 23 rfl (fun p=>rfl) (fun p=>rfl) _ _ _ rfl (fun _=>b) 0 (fun p=>rfl) (fun p=>(aj Q2)) (fun p=>rfl) (fun p=>(iZ (X.Q,X.T,s))) (fun p=>(iZ (Q2,X.T,s))) 74 (fun p=>FL _ _ _ _) (fun p=>by first|(rw[ak,l8];decide)|simp[ak,l8]) (fun p=>by rw[ak];kernel_rfl) (fun p=>bF _) ?_ ?_
      ·rintro p L w1 ⟨hsz,hB,cv,tv,r,g,sv,l⟩ hk
       exact cg g hk.1
      ·rintro p L w1 ⟨hsz,hB,cv,tv,r,g,sv,l⟩ hk
       refine⟨(by simpa using hsz),hB.row (by first|exact .inr (nk hW0 hp.1)|exact .inr ge_g|exact .inl ⟨ns _,ns _⟩|omega|(have:=hB.size;simp at this|-;omega)) _,cv.rowOther ne_cv_g _,tv.rowOther ne_tv_g _,r.rowOther ne_r_g _,?_,sv.rowOther (Ne.symm ne_g_sv) _,l.rowOther (Ne.symm ne_g_l) _⟩
       rw[show cD L 23 23=true from rfl]
       exact g.row _
     exact aw.nil
    case hV0=>exact fun p q=>aw.nil
    case' he=>
    clear hB cv tv r g sv l
    rintro p wrrr ⟨hsz,hB,cv,tv,r,g,sv,l⟩
    replace g:af wrrr b (iZ (Q2,X.T,s)) 74:=g
    clear lt_cv lt_tv lt_r lt_g lt_sv lt_l hsz hW0
    go_upto_region 13 with(fail)
   all_goals
    clear m0 m1 m2 TU
    have lt_cv:=cv.lt
    have lt_tv:=tv.lt
    have lt_r:=r.lt
    have lt_g:=g.lt
    have lt_sv:=sv.lt
    have lt_l:=l.lt
    have hW0:w.heap.size<=wrrr.heap.size:=by simpa using hB.size
    apply a_ 13 [0,1,3,7,15,0,63,127,255,255,0,1535,4095] [10] [_,_,_,_,_,_,_,_,_,_,(fun p=>.pointer (some ⟨p 10,0,none⟩)),(fun _=>undef),_] (fun p L w'=>wrrr.heap.size<=w'.heap.size/\co lo b w w'/\af w' w.heap.size (aj c) 22/\af w' (w.heap.size+1) (ah t) 25/\af w' (w.heap.size+2) (ah fun _=>0) 25/\af w' b (iZ (Q2,X.T,s)) 74/\af w' s (cy (fX X c,X.f)) 126/\af w' l_b (ah (cO X c)) 25/\(L 10=true->wrrr.heap.size<=p 10/\af w' (p 10) (bif L 11 then(ah (cM Q2 t))else(ah fun _=>0)) 25)) _ [(0,65),(1,66),(2,67),(3,68),(4,69),(5,70),(6,71),(7,64),(8,72),(9,73),(10,11),(12,12)] [0,1,2,3,4,5,6,7,8,9,10,11,12]
    case hn|hm|hB|hds|hA=>exact rA
    case h0=>exact rH
    case hmore=>exact fun p L w1 w2 ⟨hsz,hB,cv,tv,r,g,sv,l,h_ch⟩ hm=>⟨Nat.le_trans hsz hm.size,hB.trans (hm.mono (Nat.le_trans hW0 hsz)),cv.below hm cv.lt,tv.below hm tv.lt,r.below hm r.lt,g.below hm g.lt,sv.below hm sv.lt,l.below hm l.lt,fun hl=>⟨(h_ch hl).1,(h_ch hl).2.below hm (h_ch hl).2.lt⟩⟩
    case hs=>
     intro more
     refine aH ?_
     refine aH ?_
     refine aH ?_
     refine aH ?_
     refine cm ?_ ?_
     ·rintro p L w1 ⟨hsz,hB,cv,tv,r,g,sv,l,h_ch⟩ hk
      exact aO _ _ rfl _ 0 rfl _ _ g (aj Q2) (DZ Q2 X.T s) _ yb rfl rI rfl
     refine cm ?_ ?_
     ·rintro p L w1 ⟨hsz,hB,cv,tv,r,g,sv,l,h_ch⟩ hk
      first|exact br _ _ rfl _ rfl _ _ tv _ yc rfl rI rfl|(have hc:=tv.cellIs (az _ (show 0<3 by omega));go_simp;exact⟨rfl,rfl⟩)
     refine bS 6 rfl (fun p=>rfl) (fun _ _ _ h=>h) more ?_ ?_
     ·rintro p L w1 ⟨hsz,hB,cv,tv,r,g,sv,l,h_ch⟩ hk
      go_simp
      exact(RO.out _).mono rC
     refine aH ?_
     refine aH ?_
     refine aH ?_
     refine aw.cons ?_ ?_
     ·refine aP 10 rfl (fun p=>rfl) rfl (ah fun _=>0) 25 (fun p=>rfl) ?_ ?_
      ·exact rZ
      rintro p L w1 ⟨hsz,hB,cv,tv,r,g,sv,l,h_ch⟩ hk
      have L11:L 11=false:=hk.2.2 11 rfl
      refine⟨nk hsz sd,hB.alloc (nk hW0 hsz) _,cv.alloc _,tv.alloc _,r.alloc _,g.alloc _,sv.alloc _,l.alloc _,fun _=>⟨hsz,?_⟩⟩
      rw[show cD L 10 11=false from L11]
      exact af.new _ _ _
     refine aw.cons ?_ ?_
     ·refine aA 11 rfl (fun p=>rfl) (fun p=>rfl) _ _ _ rfl (fun p=>p 10) 0 (fun p=>rfl) (fun p=>(ah (cM Q2 t))) (fun p=>rfl) (fun p=>(ah fun _=>0)) (fun p=>(ah (cM Q2 t))) 25 (fun p=>dH _ _) (fun p=>by first|(rw[ad,ad];decide)|simp[ad,ad]) (fun p=>by rw[ad];kernel_rfl) (fun p=>aG _) ?_ ?_
      ·rintro p L w1 ⟨hsz,hB,cv,tv,r,g,sv,l,h_ch⟩ hk
       exact cg (h_ch (hk.2.1 10 rfl)).2 hk.1
      ·rintro p L w1 ⟨hsz,hB,cv,tv,r,g,sv,l,h_ch⟩ hk
       have hp:=h_ch (hk.2.1 10 rfl)
       refine⟨(by simpa using hsz),hB.row (by first|exact .inr (nk hW0 hp.1)|exact .inr ge_ch|exact .inl ⟨ns _,ns _⟩|omega|(have:=hB.size;simp at this|-;omega)) _,cv.rowOther (nL lt_cv hp.1) _,tv.rowOther (nL lt_tv hp.1) _,r.rowOther (nL lt_r hp.1) _,g.rowOther (nL lt_g hp.1) _,sv.rowOther (nL lt_sv hp.1) _,l.rowOther (nL lt_l hp.1) _,fun _=>⟨hp.1,?_⟩⟩
       rw[show cD L 11 11=true from rfl]
       exact hp.2.row _
     refine aH ?_
     exact aw.nil
    case hV0=>exact rV
    case he=>
    clear hB cv tv r g sv l
    rintro p wrrrrr ⟨hsz,hB,cv,tv,r,g,sv,l,h_ch⟩
    obtain⟨le_ch,ch⟩:=h_ch rfl
    clear h_ch
    replace ch:af wrrrrr (p 10) (ah (cM Q2 t)) 25:=ch
    have ne_cv_ch:w.heap.size≠p 10:=nN (nq lt_cv le_ch)
    have ne_tv_ch:(w.heap.size+1)≠p 10:=nN (nq lt_tv le_ch)
    have ne_r_ch:(w.heap.size+2)≠p 10:=nN (nq lt_r le_ch)
    have ne_g_ch:b≠p 10:=nN (nq lt_g le_ch)
    have ne_sv_ch:s≠p 10:=nN (nq lt_sv le_ch)
    have ne_l_ch:l_b≠p 10:=nN (nq lt_l le_ch)
    have ge_ch:w.heap.size<=p 10:=nk hW0 le_ch
    generalize p 10=ch_b at *
    clear lt_cv lt_tv lt_r lt_g lt_sv lt_l hsz hW0
    go_upto_region 14 with(fail)
    clear RO
    have lt_cv:=cv.lt
    have lt_tv:=tv.lt
    have lt_r:=r.lt
    have lt_g:=g.lt
    have lt_sv:=sv.lt
    have lt_l:=l.lt
    have lt_ch:=ch.lt
    have hW0:w.heap.size<=wrrrrr.heap.size:=by simpa using hB.size
    apply a_ 13 [0,1,3,7,15,0,63,127,255,255,0,1535,4095] [10] [_,_,_,_,_,_,_,_,_,_,(fun p=>.pointer (some ⟨p 10,0,none⟩)),(fun _=>undef),_] (fun p L w'=>wrrrrr.heap.size<=w'.heap.size/\co lo b w w'/\af w' w.heap.size (aj c) 22/\af w' (w.heap.size+1) (ah t) 25/\af w' (w.heap.size+2) (ah fun _=>0) 25/\af w' b (iZ (Q2,X.T,s)) 74/\af w' s (cy (fX X c,X.f)) 126/\af w' l_b (ah (cO X c)) 25/\af w' ch_b (ah (cM Q2 t)) 25/\(L 10=true->wrrrrr.heap.size<=p 10/\af w' (p 10) (bif L 11 then(ah (dS X.T (cM Q2 t)))else(ah fun _=>0)) 25)) _ [(0,75),(1,76),(2,77),(3,78),(4,79),(5,80),(6,81),(7,74),(8,82),(9,83),(10,13),(12,14)] [0,1,2,3,4,5,6,7,8,9,10,11,12]
    case hn|hm|hB|hds|hA=>exact rA
    case h0=>exact rH
    case hmore=>exact fun p L w1 w2 ⟨hsz,hB,cv,tv,r,g,sv,l,ch,h_su⟩ hm=>⟨Nat.le_trans hsz hm.size,hB.trans (hm.mono (Nat.le_trans hW0 hsz)),cv.below hm cv.lt,tv.below hm tv.lt,r.below hm r.lt,g.below hm g.lt,sv.below hm sv.lt,l.below hm l.lt,ch.below hm ch.lt,fun hl=>⟨(h_su hl).1,(h_su hl).2.below hm (h_su hl).2.lt⟩⟩
    case hs=>
     intro more
     refine aH ?_
     refine aH ?_
     refine aH ?_
     refine aH ?_
     refine cm ?_ ?_
     ·rintro p L w1 ⟨hsz,hB,cv,tv,r,g,sv,l,ch,h_su⟩ hk
      exact aO _ _ rfl _ 4 rfl _ _ g (ah X.T) (IG Q2 X.T s) _ yc rfl rI rfl
     refine cm ?_ ?_
     ·rintro p L w1 ⟨hsz,hB,cv,tv,r,g,sv,l,ch,h_su⟩ hk
      first|exact br _ _ rfl _ rfl _ _ ch _ yc rfl rI rfl|(have hc:=ch.cellIs (az _ (show 0<3 by omega));go_simp;exact⟨rfl,rfl⟩)
     refine bS 6 rfl (fun p=>rfl) (fun _ _ _ h=>h) more ?_ ?_
     ·rintro p L w1 ⟨hsz,hB,cv,tv,r,g,sv,l,ch,h_su⟩ hk
      go_simp
      exact(AD.out _).mono rC
     refine aH ?_
     refine aH ?_
     refine aH ?_
     refine aw.cons ?_ ?_
     ·refine aP 10 rfl (fun p=>rfl) rfl (ah fun _=>0) 25 (fun p=>rfl) ?_ ?_
      ·exact rZ
      rintro p L w1 ⟨hsz,hB,cv,tv,r,g,sv,l,ch,h_su⟩ hk
      have L11:L 11=false:=hk.2.2 11 rfl
      refine⟨nk hsz sd,hB.alloc (nk hW0 hsz) _,cv.alloc _,tv.alloc _,r.alloc _,g.alloc _,sv.alloc _,l.alloc _,ch.alloc _,fun _=>⟨hsz,?_⟩⟩
      rw[show cD L 10 11=false from L11]
      exact af.new _ _ _
     refine aw.cons ?_ ?_
     ·refine aA 11 rfl (fun p=>rfl) (fun p=>rfl) _ _ _ rfl (fun p=>p 10) 0 (fun p=>rfl) (fun p=>(ah (dS X.T (cM Q2 t)))) (fun p=>rfl) (fun p=>(ah fun _=>0)) (fun p=>(ah (dS X.T (cM Q2 t)))) 25 (fun p=>dH _ _) (fun p=>by first|(rw[ad,ad];decide)|simp[ad,ad]) (fun p=>by rw[ad];kernel_rfl) (fun p=>aG _) ?_ ?_
      ·rintro p L w1 ⟨hsz,hB,cv,tv,r,g,sv,l,ch,h_su⟩ hk
       exact cg (h_su (hk.2.1 10 rfl)).2 hk.1
      ·rintro p L w1 ⟨hsz,hB,cv,tv,r,g,sv,l,ch,h_su⟩ hk
       have hp:=h_su (hk.2.1 10 rfl)
       refine⟨(by simpa using hsz),hB.row (by first|exact .inr (nk hW0 hp.1)|exact .inr ge_su|exact .inl ⟨ns _,ns _⟩|omega|(have:=hB.size;simp at this|-;omega)) _,cv.rowOther (nL lt_cv hp.1) _,tv.rowOther (nL lt_tv hp.1) _,r.rowOther (nL lt_r hp.1) _,g.rowOther (nL lt_g hp.1) _,sv.rowOther (nL lt_sv hp.1) _,l.rowOther (nL lt_l hp.1) _,ch.rowOther (nL lt_ch hp.1) _,fun _=>⟨hp.1,?_⟩⟩
       rw[show cD L 11 11=true from rfl]
       exact hp.2.row _
     refine aH ?_
     exact aw.nil
    case hV0=>exact rV
    case he=>
    clear hB cv tv r g sv l ch
    rintro p wrrrrrr ⟨hsz,hB,cv,tv,r,g,sv,l,ch,h_su⟩
    obtain⟨le_su,su⟩:=h_su rfl
    clear h_su
    replace su:af wrrrrrr (p 10) (ah (dS X.T (cM Q2 t))) 25:=su
    have ne_cv_su:w.heap.size≠p 10:=nN (nq lt_cv le_su)
    have ne_tv_su:(w.heap.size+1)≠p 10:=nN (nq lt_tv le_su)
    have ne_r_su:(w.heap.size+2)≠p 10:=nN (nq lt_r le_su)
    have ne_g_su:b≠p 10:=nN (nq lt_g le_su)
    have ne_sv_su:s≠p 10:=nN (nq lt_sv le_su)
    have ne_l_su:l_b≠p 10:=nN (nq lt_l le_su)
    have ne_ch_su:ch_b≠p 10:=nN (nq lt_ch le_su)
    have ge_su:w.heap.size<=p 10:=nk hW0 le_su
    generalize p 10=su_b at *
    clear lt_cv lt_tv lt_r lt_g lt_sv lt_l lt_ch hsz hW0 AD
    cases al
    ·go_upto_region 16 with(first
      |(refine ac ?hw _ _ rfl _ rfl _ _ _ _ su yc rfl ?hi ?_;(case hw=>exact rW);(case hi=>exact rI))
      |(go_at_call 34;with_reducible refine(AL.out _).mono ?_;rintro e wal ⟨rfl,hb⟩;replace hB:=hB.trans (hb.mono hB.size);replace cv:=cv.below hb cv.lt;replace tv:=tv.below hb tv.lt;replace r:=r.below hb r.lt;replace g:=g.below hb g.lt;replace sv:=sv.below hb sv.lt;replace l:=l.below hb l.lt;replace ch:=ch.below hb ch.lt;replace su:=su.below hb su.lt;clear hb))
     have lt_cv:=cv.lt
     have lt_tv:=tv.lt
     have lt_r:=r.lt
     have lt_g:=g.lt
     have lt_sv:=sv.lt
     have lt_l:=l.lt
     have lt_ch:=ch.lt
     have lt_su:=su.lt
     have hW0:w.heap.size<=wal.heap.size:=by simpa using hB.size
     apply ay 3 [0,1,3] [] [_,(fun _=>undef),_] (fun p L w'=>wal.heap.size<=w'.heap.size/\co lo b w w'/\af w' w.heap.size (aj c) 22/\af w' (w.heap.size+1) (ah t) 25/\af w' (w.heap.size+2) (bif L 1 then(ah (fun _=>0))else(ah fun _=>0)) 25/\af w' b (iZ (Q2,X.T,s)) 74/\af w' s (cy (fX X c,X.f)) 126/\af w' l_b (ah (cO X c)) 25/\af w' ch_b (ah (cM Q2 t)) 25/\af w' su_b (ah (dS X.T (cM Q2 t))) 25) _ [(0,87),(2,7)] [0,1,2]
     case hn|hB|hds|hA=>exact rA
     case h0=>exact rH
     case hmore=>exact fun p L w1 w2 ⟨hsz,hB,cv,tv,r,g,sv,l,ch,su⟩ hm=>⟨Nat.le_trans hsz hm.size,hB.trans (hm.mono (Nat.le_trans hW0 hsz)),cv.below hm cv.lt,tv.below hm tv.lt,r.below hm r.lt,g.below hm g.lt,sv.below hm sv.lt,l.below hm l.lt,ch.below hm ch.lt,su.below hm su.lt⟩
     case hs=>
      intro more
      refine cm ?_ ?_
      ·intros;(try simp only[ah,aj]);go_simp;exact⟨rfl,rfl⟩
      refine aw.cons ?_ ?_
      ·refine aA 1 rfl (fun p=>rfl) (fun p=>rfl) _ _ _ rfl (fun _=>(w.heap.size+2)) 0 (fun p=>rfl) (fun p=>(ah (fun _=>0))) (fun p=>congrArg Value.agg aQ) (fun p=>(ah fun _=>0)) (fun p=>(ah (fun _=>0))) 25 (fun p=>dH _ _) (fun p=>by first|(rw[ad,ad];decide)|simp[ad,ad]) (fun p=>by rw[ad];kernel_rfl) (fun p=>aG _) ?_ ?_
       ·rintro p L w1 ⟨hsz,hB,cv,tv,r,g,sv,l,ch,su⟩ hk
        exact cg r hk.1
       ·rintro p L w1 ⟨hsz,hB,cv,tv,r,g,sv,l,ch,su⟩ hk
        refine⟨(by simpa using hsz),hB.row (by first|exact .inr (nk hW0 hp.1)|exact .inr ge_r|exact .inl ⟨ns _,ns _⟩|omega|(have:=hB.size;simp at this|-;omega)) _,cv.rowOther (by first|exact ne_cv_r|exact Ne.symm ne_r_cv|omega) _,tv.rowOther (by first|exact ne_tv_r|exact Ne.symm ne_r_tv|omega) _,?_,g.rowOther (Ne.symm ne_r_g) _,sv.rowOther (Ne.symm ne_r_sv) _,l.rowOther (Ne.symm ne_r_l) _,ch.rowOther (Ne.symm ne_r_ch) _,su.rowOther (Ne.symm ne_r_su) _⟩
        rw[show cD L 1 1=true from rfl]
        exact r.row _
      refine aH ?_
      exact aw.nil
     case hV0=>exact fun p q=>aw.nil
     case he=>
     clear hB cv tv r g sv l ch su
     rintro p walr ⟨hsz,hB,cv,tv,r,g,sv,l,ch,su⟩
     replace r:af walr (w.heap.size+2) (ah (fun _=>0)) 25:=r
     clear lt_cv lt_tv lt_r lt_g lt_sv lt_l lt_ch lt_su hsz hW0
     go_wp2_with (fail)
     refine bodyPost_ret (aq rfl _ _ _ _ _ _ _ rfl r yc rfl rI) rfl ?_
     exact⟨rfl,⟨s,hl,hu,g,sv⟩,hB⟩
    ·go_upto_region 17 with(first
      |(refine ac ?hw _ _ rfl _ rfl _ _ _ _ su yc rfl ?hi ?_;(case hw=>exact rW);(case hi=>exact rI))
      |(go_at_call 34;with_reducible refine(AL.out _).mono ?_;rintro e wal ⟨rfl,hb⟩;replace hB:=hB.trans (hb.mono hB.size);replace cv:=cv.below hb cv.lt;replace tv:=tv.below hb tv.lt;replace r:=r.below hb r.lt;replace g:=g.below hb g.lt;replace sv:=sv.below hb sv.lt;replace l:=l.below hb l.lt;replace ch:=ch.below hb ch.lt;replace su:=su.below hb su.lt;clear hb))
     have lt_cv:=cv.lt
     have lt_tv:=tv.lt
     have lt_r:=r.lt
     have lt_g:=g.lt
     have lt_sv:=sv.lt
     have lt_l:=l.lt
     have lt_ch:=ch.lt
     have lt_su:=su.lt
     have hW0:w.heap.size<=wal.heap.size:=by simpa using hB.size
     apply ay 6 [0,1,3,7,15,31] [] [_,_,_,_,_,(fun _=>undef)] (fun p L w'=>wal.heap.size<=w'.heap.size/\co lo b w w'/\af w' w.heap.size (aj c) 22/\af w' (w.heap.size+1) (ah t) 25/\af w' (w.heap.size+2) (ah fun _=>0) 25/\af w' b (bif L 5 then(iZ (Q2,(dS X.T (cM Q2 t)),s))else(iZ (Q2,X.T,s))) 74/\af w' s (cy (fX X c,X.f)) 126/\af w' l_b (ah (cO X c)) 25/\af w' ch_b (ah (cM Q2 t)) 25/\af w' su_b (ah (dS X.T (cM Q2 t))) 25) _ [(0,88),(1,89),(2,90),(3,91),(4,92)] [0,1,2,3,4,5]
     case hn|hB|hds|hA=>exact rA
     case h0=>exact rH
     case hmore=>exact fun p L w1 w2 ⟨hsz,hB,cv,tv,r,g,sv,l,ch,su⟩ hm=>⟨Nat.le_trans hsz hm.size,hB.trans (hm.mono (Nat.le_trans hW0 hsz)),cv.below hm cv.lt,tv.below hm tv.lt,r.below hm r.lt,g.below hm g.lt,sv.below hm sv.lt,l.below hm l.lt,ch.below hm ch.lt,su.below hm su.lt⟩
     case hs=>
      intro more
      refine aH ?_
      refine cm ?_ ?_
      ·rintro p L w1 ⟨hsz,hB,cv,tv,r,g,sv,l,ch,su⟩ hk
       first|exact br _ _ rfl _ rfl _ _ su _ yc rfl rI rfl|(have hc:=su.cellIs (az _ (show 0<3 by omega));go_simp;exact⟨rfl,rfl⟩)
      refine aH ?_
      refine aH ?_
      refine aH ?_
      refine aw.cons ?_ ?_
      ·refine aA 5 rfl (fun p=>rfl) (fun p=>rfl) _ _ _ rfl (fun _=>b) 4 (fun p=>rfl) (fun p=>(ah (dS X.T (cM Q2 t)))) (fun p=>rfl) (fun p=>(iZ (Q2,X.T,s))) (fun p=>(iZ (Q2,(dS X.T (cM Q2 t)),s))) 74 (fun p=>E6 _ _ _ _) (fun p=>by first|(rw[ad,l8];decide)|simp[ad,l8]) (fun p=>by rw[ad];kernel_rfl) (fun p=>aG _) ?_ ?_
       ·rintro p L w1 ⟨hsz,hB,cv,tv,r,g,sv,l,ch,su⟩ hk
        exact cg g hk.1
       ·rintro p L w1 ⟨hsz,hB,cv,tv,r,g,sv,l,ch,su⟩ hk
        refine⟨(by simpa using hsz),hB.row (by first|exact .inr (nk hW0 hp.1)|exact .inr ge_g|exact .inl ⟨ns _,ns _⟩|omega|(have:=hB.size;simp at this|-;omega)) _,cv.rowOther ne_cv_g _,tv.rowOther ne_tv_g _,r.rowOther ne_r_g _,?_,sv.rowOther (Ne.symm ne_g_sv) _,l.rowOther (Ne.symm ne_g_l) _,ch.rowOther (Ne.symm ne_g_ch) _,su.rowOther (Ne.symm ne_g_su) _⟩
        rw[show cD L 5 5=true from rfl]
        exact g.row _
      exact aw.nil
     case hV0=>exact fun p q=>aw.nil
     case he=>
     clear hB cv tv r g sv l ch su
     rintro p walr ⟨hsz,hB,cv,tv,r,g,sv,l,ch,su⟩
     replace g:af walr b (iZ (Q2,(dS X.T (cM Q2 t)),s)) 74:=g
     clear lt_cv lt_tv lt_r lt_g lt_sv lt_l lt_ch lt_su hsz hW0
     go_upto_region 18 with(fail)
     have lt_cv:=cv.lt
     have lt_tv:=tv.lt
     have lt_r:=r.lt
     have lt_g:=g.lt
     have lt_sv:=sv.lt
     have lt_l:=l.lt
     have lt_ch:=ch.lt
     have lt_su:=su.lt
     have hW0:w.heap.size<=walr.heap.size:=by simpa using hB.size
     apply ay 3 [0,1,3] [] [_,(fun _=>undef),_] (fun p L w'=>walr.heap.size<=w'.heap.size/\co lo b w w'/\af w' w.heap.size (aj c) 22/\af w' (w.heap.size+1) (ah t) 25/\af w' (w.heap.size+2) (bif L 1 then(ah (cM Q2 t))else(ah fun _=>0)) 25/\af w' b (iZ (Q2,(dS X.T (cM Q2 t)),s)) 74/\af w' s (cy (fX X c,X.f)) 126/\af w' l_b (ah (cO X c)) 25/\af w' ch_b (ah (cM Q2 t)) 25/\af w' su_b (ah (dS X.T (cM Q2 t))) 25) _ [(0,93),(2,7)] [0,1,2]
     case hn|hB|hds|hA=>exact rA
     case h0=>exact rH
     case hmore=>exact fun p L w1 w2 ⟨hsz,hB,cv,tv,r,g,sv,l,ch,su⟩ hm=>⟨Nat.le_trans hsz hm.size,hB.trans (hm.mono (Nat.le_trans hW0 hsz)),cv.below hm cv.lt,tv.below hm tv.lt,r.below hm r.lt,g.below hm g.lt,sv.below hm sv.lt,l.below hm l.lt,ch.below hm ch.lt,su.below hm su.lt⟩
     case hs=>
      intro more
      refine cm ?_ ?_
      ·rintro p L w1 ⟨hsz,hB,cv,tv,r,g,sv,l,ch,su⟩ hk
       first|exact br _ _ rfl _ rfl _ _ ch _ yc rfl rI rfl|(have hc:=ch.cellIs (az _ (show 0<3 by omega));go_simp;exact⟨rfl,rfl⟩)
      refine aw.cons ?_ ?_
      ·refine aA 1 rfl (fun p=>rfl) (fun p=>rfl) _ _ _ rfl (fun _=>(w.heap.size+2)) 0 (fun p=>rfl) (fun p=>(ah (cM Q2 t))) (fun p=>rfl) (fun p=>(ah fun _=>0)) (fun p=>(ah (cM Q2 t))) 25 (fun p=>dH _ _) (fun p=>by first|(rw[ad,ad];decide)|simp[ad,ad]) (fun p=>by rw[ad];kernel_rfl) (fun p=>aG _) ?_ ?_
       ·rintro p L w1 ⟨hsz,hB,cv,tv,r,g,sv,l,ch,su⟩ hk
        exact cg r hk.1
       ·rintro p L w1 ⟨hsz,hB,cv,tv,r,g,sv,l,ch,su⟩ hk
        refine⟨(by simpa using hsz),hB.row (by first|exact .inr (nk hW0 hp.1)|exact .inr ge_r|exact .inl ⟨ns _,ns _⟩|omega|(have:=hB.size;simp at this|-;omega)) _,cv.rowOther (by first|exact ne_cv_r|exact Ne.symm ne_r_cv|omega) _,tv.rowOther (by first|exact ne_tv_r|exact Ne.symm ne_r_tv|omega) _,?_,g.rowOther (Ne.symm ne_r_g) _,sv.rowOther (Ne.symm ne_r_sv) _,l.rowOther (Ne.symm ne_r_l) _,ch.rowOther (Ne.symm ne_r_ch) _,su.rowOther (Ne.symm ne_r_su) _⟩
        rw[show cD L 1 1=true from rfl]
        exact r.row _
      refine aH ?_
      exact aw.nil
     case hV0=>exact fun p q=>aw.nil
     case he=>
     clear hB cv tv r g sv l ch su
     rintro p walrr ⟨hsz,hB,cv,tv,r,g,sv,l,ch,su⟩
     replace r:af walrr (w.heap.size+2) (ah (cM Q2 t)) 25:=r
     clear lt_cv lt_tv lt_r lt_g lt_sv lt_l lt_ch lt_su hsz hW0
     go_wp2_with (fail)
     refine bodyPost_ret (aq rfl _ _ _ _ _ _ _ rfl r yc rfl rI) rfl ?_
     exact⟨rfl,⟨s,hl,hu,g,sv⟩,hB⟩
end Go.Proofs.YtbhahonkhiiilaaGreat
