/-
  The craft points, with biased gyros: the walk.
-/
import Derived.Test.YtbhahonkhiiilaaGreatMc
import Derived.Test.YtbhahonkhiiilaaGreatMac
import Derived.Test.YtbhahonkhiiilaaGreatTpC
import Derived.Test.YtbhahonkhiiilaaGreatFrameV
import Derived.Test.YtbhahonkhiiilaaGreatTurn
import Derived.Test.YtbhahonkhiiilaaGreatVecA
set_option linter.unusedSimpArgs false
set_option linter.unusedVariables false
set_option maxHeartbeats 40000000
namespace Go.Proofs.YtbhahonkhiiilaaGreat
open Go.RowKit PM Dt
structure LT (n:Nat) (X0 X:cG) (S:dw) (A b B q:Nat->Int):Prop where
 h:Hd n X S A b B q
 t:ut X S A b B q
 T:∀i,i<3->X.T i=X0.T i
theorem LT.go {n:Nat} {X0 X:cG} {S:dw} {A b B q:Nat->Int} (l:LT n X0 X S A b B q):LT (n+1) X0 (Ew X S A b B q) (Ha X S A b B q) (aU (fV X A b B) (ji X)) (b9 (fV X A b B) b (ji X)) B q:=
 ⟨(l.h.go l.t).1,(l.h.go l.t).2,fun i hi=>(l.t.T i hi).trans (l.T i hi)⟩
theorem RI.made2 {X:cG} (hQ:∀i,i<4->bu (X.Q i)) (h:jT X=true):RI X dw.zero:=by
 simp only[jT,Bool.and_eq_true]at h
 exact⟨⟨hQ,h.2.1,h.2.2,(sY h.1).1⟩,⟨fun i hi=>z0 (N:=4194304) da,fun i hi=>z0 (N:=1073741824) da⟩,(sY h.1).2,fun i hi=>rfl⟩
theorem LT.start {X:cG} {B q:Nat->Int} (hQ:∀i,i<4->bu (X.Q i)) (hk:jT X=true) (hB:∀i,i<3->-262144<=B i/\B i<=262144) (hK:∀i,i<4->bu (q i)) (hq:au q=true):LT 0 X X dw.zero X.Q (fun _=>0) B q:=by
 have r:=RI.made2 hQ hk
 obtain⟨M0,s0,m0,h⟩:=Hp.start r hB
 have h:Hd 0 X dw.zero X.Q (fun _=>0) B q:=.inl ⟨M0,s0,m0,h⟩
 exact⟨h,h.tk (FI.new r.b.q r.b.v) hB hK hq,fun i hi=>rfl⟩
theorem LT.end {n:Nat} {X0 X:cG} {S:dw} {A b B q:Nat->Int} (l:LT n X0 X S A b B q) (hn:1000<=n):kW (bO (am X.Q q))=0/\gW (bO (am X.Q q))<=8192:=by
 have v:vv (bO (am X.Q q))<=6000*6000:=l.h.end hn
 have c:=fun i hi=>bY da v (i:=i) hi
 have ok:cx (bO (am X.Q q))=true:=(bK _).2 fun i hi=>(bE _).2 (by have:=c i hi;omega)
 obtain⟨hE,N,hN,h1,_,_⟩:=lZ ok
 refine⟨hE,?_⟩
 have h1:(N:Int)*N<=vv (bO (am X.Q q)):=h1
 rw[hN]
 apply bC;intro hc
 have:=bW (show(0:Int)<=8193 by decide) (show(8193:Int)<=N by omega)
 omega
theorem qc {X:cG} {B:Nat->Int} {k:Nat} (hk:k<3):(fx (X,B))[7+k]?=some (.int .i64 (B k)):=by
 rcases(show k=0\/k=1\/k=2 by omega)with rfl|rfl|rfl<;>rfl
theorem Gv (f g:Nat->Int) (w:World):(Op.equalIn 10000 25 (.agg (ah f)) (.agg (ah g))).run Tryz.prog w=.ok ((List.range 3).all fun j=>f j==g j) w:=by
 obtain⟨i,hi⟩:∃i,Tryz.prog.info? 2=some i:=Option.isSome_iff_exists.1 ke
 have hc:Tryz.prog.cellsOf 2=1:=ke
 exact fg (P:=Tryz.prog) yc hi hc Tryz.underlying2 f g (ah f) (ah g) (fun j hj=>az _ hj) (fun j hj=>az _ hj) 9998 w
theorem BQ (f:Nat->Int) (w:World):(Op.equalIn 10000 25 (.agg (ah f)) (.agg (ah f))).run Tryz.prog w=.ok true w:=by
 rw[Gv];congr 1;simp
def Hk:cG:=⟨fun i=>if i=0 then 1073741824 else 0,fun _=>0,fun _=>0,-1⟩
theorem GB:∀i,i<4->bu (Hk.Q i):=fun i hi=>by
 show bu (if i=0 then 1073741824 else 0)
 split<;>exact⟨da,da⟩
theorem JX:aj Hk.Q=#[.int .i64 1073741824,.int .i64 0,.int .i64 0,.int .i64 0]:=by simp[aj,Hk]
set_option maxRecDepth 100000 in
theorem DA (X:cG) (Bs tq:Nat->Int) (w:World) (hQ:∀i,i<4->bu (X.Q i)) (hI:∀i,i<4->bu (tq i)):Calls Tryz.prog 3 #[.agg (fx (X,Bs)),.agg (aj tq)] w fun e w'=>e=.returned (.bool true)/\Below w.heap.size w w':=by
 replace hQ:=aa hQ
 replace hI:=aa hI
 go_enter Tryz.func3,Tryz.ntmps3
 go_upto_region 1 with(fail)
 have v:af ((w.alloc (.cells (fx (X,Bs)) 27)).alloc (.cells (aj tq) 23)) w.heap.size (fx (X,Bs)) 27:=(af.new _ _ _).alloc _
 have q:af ((w.alloc (.cells (fx (X,Bs)) 27)).alloc (.cells (aj tq) 23)) (w.heap.size+1) (aj tq) 23:=af.new' sd
 have hB:Below w.heap.size w ((w.alloc (.cells (fx (X,Bs)) 27)).alloc (.cells (aj tq) 23)):=by go_grown
 generalize((w.alloc (.cells (fx (X,Bs)) 27)).alloc (.cells (aj tq) 23))=w0 at *
 have ne_v_q:w.heap.size≠w.heap.size+1:=oa
 go_wp2_with (fail)
 go_loopg [5] 3 (fun g_ iv wr=>∃k:Nat,g_+k=3/\iv=.int .i64 k/\Hid (∀j,j<k->-262144<=Bs j/\Bs j<=262144)/\af wr w.heap.size (fx (X,Bs)) 27/\af wr (w.heap.size+1) (aj tq) 23/\Below w.heap.size w wr)
 case atStart=>exact⟨0,rfl,rfl,fun j hj=>absurd hj oa,v,q,hB⟩
 case round =>
  clear v q hB
  obtain⟨k,hk,rfl,HL,v,q,hB⟩:=hrel
  by_cases hkn:k<3
  ·have hdk:decide ((k:Int)<3)=true:=dT oa
   have hdk':decide (k<3)=true:=dT oa
   have hk3:(k:Int)<3:=oa
   have hw3:IntKind.i64.wrap ((k:Int)+1)=((k+1:Nat):Int):=by rw[wI];omega
   by_cases hb:-262144<=Bs k/\Bs k<=262144
   ·have e1:decide ((262144:Int)<Bs k)=false:=dF oa
    have e2:decide (Bs k< -262144)=false:=dF oa
    have HL2:Hid (∀j,j<k+1->-262144<=Bs j/\Bs j<=262144):=fun j hj=>by
     by_cases hjk:j=k
     ·subst hjk;exact hb
     ·exact HL.out j oa
    clear hb
    go_upto_region 4 with(fail)
    have lt_v:=v.lt
    have lt_q:=q.lt
    have hW0:w.heap.size<=wr.heap.size:=by simpa using hB.size
    apply ay 12 [0,1,3,7,15,31,63,127,255,511,1023,2047] [] [_,_,_,_,_,_,_,_,_,_,_,_] (fun p L w'=>wr.heap.size<=w'.heap.size/\Below w.heap.size w w'/\af w' w.heap.size (fx (X,Bs)) 27/\af w' (w.heap.size+1) (aj tq) 23) _ [(0,19),(1,20),(2,21),(3,22),(4,23),(5,24),(6,25),(7,26),(8,27),(9,28),(10,29),(11,30)] [0,1,2,3,4,5,6,7,8,9,10,11]
    case hn|hB|hds|hA=>exact rA
    case h0=>exact rH
    case hmore=>exact rM
    case hs=>
     intro more
     iterate 3 (refine aH ?_)
     refine cm ?_ ?_
     ·rintro p L w1 ⟨hsz,hB,v,q⟩ hk
      have hc:w1.cell? ⟨w.heap.size,7+k,none⟩=some (.int .i64 (Bs k)):=v.cellIs (qc hkn)
      go_simp
      exact⟨rfl,rfl⟩
     iterate 2 (refine aH ?_)
     iterate 3 (refine bQ _ rfl (fun p=>rW) (fun _ _ _ h=>h) (by intros;go_simp;exact⟨rfl,rfl⟩) ?_)
     refine bQ 9 rfl (fun p=>rW) (fun _ _ _ h=>h) ?_ ?_
     ·rintro p L w1 ⟨hsz,hB,v,q⟩ hk
      have hc:w1.cell? ⟨w.heap.size,7+k,none⟩=some (.int .i64 (Bs k)):=v.cellIs (qc hkn)
      go_simp
      exact⟨rfl,rfl⟩
     refine bQ _ rfl (fun p=>rW) (fun _ _ _ h=>h) (by intros;go_simp;exact⟨rfl,rfl⟩) ?_
     refine aH ?_
     exact aw.nil
    case hV0=>exact fun p q=>aw.nil
    case he=>
    clear hB v q
    rintro p wrr ⟨hsz,hB,v,q⟩
    clear lt_v lt_q hsz hW0
    go_wp2_with (fail)
    go_roundg (3-(k+1))
    case rel=>exact⟨k+1,oa,rfl,HL2,v,q,hB⟩
    case measure=>omega
   ·by_cases hb1:(262144:Int)<Bs k
    ·have e1:decide ((262144:Int)<Bs k)=true:=dT oa
     clear hb hb1
     go_upto_region 4 with(fail)
     have lt_v:=v.lt
     have lt_q:=q.lt
     have hW0:w.heap.size<=wr.heap.size:=by simpa using hB.size
     apply ay 12 [0,1,3,7,15,31,63,127,255,511,1023,2047] [] [_,_,_,_,_,_,_,_,_,_,_,_] (fun p L w'=>wr.heap.size<=w'.heap.size/\Below w.heap.size w w'/\af w' w.heap.size (fx (X,Bs)) 27/\af w' (w.heap.size+1) (aj tq) 23) _ [(0,19),(1,20),(2,21),(3,22),(4,23),(5,24),(6,25),(7,26),(8,27),(9,28),(10,29),(11,30)] [0,1,2,3,4,5,6,7,8,9,10,11]
     case hn|hB|hds|hA=>exact rA
     case h0=>exact rH
     case hmore=>exact rM
     case hs=>
      intro more
      iterate 3 (refine aH ?_)
      refine cm ?_ ?_
      ·rintro p L w1 ⟨hsz,hB,v,q⟩ hk
       have hc:w1.cell? ⟨w.heap.size,7+k,none⟩=some (.int .i64 (Bs k)):=v.cellIs (qc hkn)
       go_simp
       exact⟨rfl,rfl⟩
      iterate 2 (refine aH ?_)
      iterate 5 (refine aw.cons (fQ _ rfl (fun p=>rfl) (fun p=>rfl) (fun _ _ _ h=>h)) ?_)
      refine aH ?_
      exact aw.nil
     case hV0=>exact fun p q=>aw.nil
     case he=>
     clear hB v q
     rintro p wrr ⟨hsz,hB,v,q⟩
     clear lt_v lt_q hsz hW0
     go_wp2_with (fail)
     go_ret
     exact⟨rfl,hB⟩
    ·have e1:decide ((262144:Int)<Bs k)=false:=dF oa
     have e2:decide (Bs k< -262144)=true:=dT oa
     clear hb hb1
     go_upto_region 4 with(fail)
     have lt_v:=v.lt
     have lt_q:=q.lt
     have hW0:w.heap.size<=wr.heap.size:=by simpa using hB.size
     apply ay 12 [0,1,3,7,15,31,63,127,255,511,1023,2047] [] [_,_,_,_,_,_,_,_,_,_,_,_] (fun p L w'=>wr.heap.size<=w'.heap.size/\Below w.heap.size w w'/\af w' w.heap.size (fx (X,Bs)) 27/\af w' (w.heap.size+1) (aj tq) 23) _ [(0,19),(1,20),(2,21),(3,22),(4,23),(5,24),(6,25),(7,26),(8,27),(9,28),(10,29),(11,30)] [0,1,2,3,4,5,6,7,8,9,10,11]
     case hn|hB|hds|hA=>exact rA
     case h0=>exact rH
     case hmore=>exact rM
     case hs=>
      intro more
      iterate 3 (refine aH ?_)
      refine cm ?_ ?_
      ·rintro p L w1 ⟨hsz,hB,v,q⟩ hk
       have hc:w1.cell? ⟨w.heap.size,7+k,none⟩=some (.int .i64 (Bs k)):=v.cellIs (qc hkn)
       go_simp
       exact⟨rfl,rfl⟩
      iterate 2 (refine aH ?_)
      iterate 3 (refine bQ _ rfl (fun p=>rW) (fun _ _ _ h=>h) (by intros;go_simp;exact⟨rfl,rfl⟩) ?_)
      refine bQ 9 rfl (fun p=>rW) (fun _ _ _ h=>h) ?_ ?_
      ·rintro p L w1 ⟨hsz,hB,v,q⟩ hk
       have hc:w1.cell? ⟨w.heap.size,7+k,none⟩=some (.int .i64 (Bs k)):=v.cellIs (qc hkn)
       go_simp
       exact⟨rfl,rfl⟩
      refine bQ _ rfl (fun p=>rW) (fun _ _ _ h=>h) (by intros;go_simp;exact⟨rfl,rfl⟩) ?_
      refine aH ?_
      exact aw.nil
     case hV0=>exact fun p q=>aw.nil
     case he=>
     clear hB v q
     rintro p wrr ⟨hsz,hB,v,q⟩
     clear lt_v lt_q hsz hW0
     go_wp2_with (fail)
     go_ret
     exact⟨rfl,hB⟩
  ·obtain rfl:k=3:=oa
   have hbo:=HL.out
   clear HL
   have TB:=aa (fun w=>po Hk (fun _=>0) w GB da (by decide+kernel))
   rw[show fx (Hk,fun _=>0)=#[.int .i64 1073741824,.int .i64 0,.int .i64 0,.int .i64 0,.int .i64 0,.int .i64 0,.int .i64 0,.int .i64 0,.int .i64 0,.int .i64 0,.int .i64 0,.int .i64 0,.int .i64 0,.int .i64 0,.int .i64 (-1)]from rfl]at TB
   have V0:=aa (fun w=>cU Hk.Q w GB)
   rw[show au Hk.Q=true from by decide+kernel,JX]at V0
   have VA:=aa (fun w=>cU tq w hI.out)
   go_upto_region 7 with((go_at_call 4;with_reducible refine(TB.out _).mono ?_;rintro e w1 ⟨P0,lo0,lb0,rfl,_,_,hb⟩;replace hB:=hB.trans (hb.mono hB.size);replace v:=v.below hb v.lt;replace q:=q.below hb q.lt;clear hb))
   clear TB
   go_upto_region 9 with((go_at_call 5;with_reducible refine(V0.out _).mono ?_;rintro e w2 ⟨rfl,hb⟩;replace hB:=hB.trans (hb.mono hB.size);replace v:=v.below hb v.lt;replace q:=q.below hb q.lt;clear hb))
   clear V0
   cases hk:jT X with
   | false=>
     have TB:=aa (fun w=>AI X Bs w hQ.out hbo hk)
     clear hbo hk VA
     go_wp2_with (first|(refine ac ?hw _ _ rfl _ rfl _ _ _ _ v Tryz.underlying27 rfl ?hi ?_;(case hw=>exact rW);(case hi=>(first|kernel_rfl|(rw[rP];kernel_rfl))))|(go_at_call 4;with_reducible refine(TB.out _).mono ?_;rintro e w3 ⟨vv_,rfl,hb⟩;replace hB:=hB.trans (hb.mono hB.size);replace v:=v.below hb v.lt;replace q:=q.below hb q.lt;clear hb))
     go_ret
     exact⟨rfl,hB⟩
   | true =>
     have TB:=aa (fun w=>po X Bs w hQ.out hbo hk)
     go_upto_region 10 with(first|(refine ac ?hw _ _ rfl _ rfl _ _ _ _ v Tryz.underlying27 rfl ?hi ?_;(case hw=>exact rW);(case hi=>(first|kernel_rfl|(rw[rP];kernel_rfl))))|(go_at_call 4;with_reducible refine(TB.out _).mono ?_;rintro e w3 ⟨P,lo,lb,rfl,hlo,l,hb⟩;have out_v:w.heap.size<lo:=nq v.lt hlo;have out_q:w.heap.size+1<lo:=nq q.lt hlo;replace hlo:=nk hB.size hlo;replace hB:=hB.trans (hb.mono hB.size);replace v:=v.below hb v.lt;replace q:=q.below hb q.lt;clear hb))
     clear TB
     cases hv:au tq with
     | false=>
       rw[hv]at VA
       clear hbo hk hv l
       go_wp2_with (first
        |(refine ac ?hw _ _ rfl _ rfl _ _ _ _ q yb rfl ?hi ?_;(case hw=>exact rW);(case hi=>exact rI))
        |(go_at_call 5;with_reducible refine(VA.out _).mono ?_;rintro e w4 ⟨rfl,hb⟩;replace hB:=hB.trans (hb.mono hB.size);replace v:=v.below hb v.lt;replace q:=q.below hb q.lt;clear hb))
       go_ret
       exact⟨rfl,hB⟩
     | true =>
       rw[hv]at VA
       have k0:=LT.start hQ.out hk hbo hI.out hv
       replace hv:=aa hv
       clear hbo hk
       go_upto_region 12 with(first
        |(refine ac ?hw _ _ rfl _ rfl _ _ _ _ q yb rfl ?hi ?_;(case hw=>exact rW);(case hi=>exact rI))
        |(go_at_call 5;with_reducible refine(VA.out _).mono ?_;rintro e w4 ⟨rfl,hb⟩;replace hB:=hB.trans (hb.mono hB.size);replace v:=v.below hb v.lt;replace q:=q.below hb q.lt;replace l:=l.below hb l.lt;clear hb))
       clear VA
       go_wp2_with (fail)
       go_loopg [10] 1040 (fun g_ iv wr=>∃(k:Nat) (Y:cG) (S:dw) (Ah bh:Nat->Int),g_+k=1040/\iv=.int .i64 k/\LT k X Y S Ah bh Bs tq/\m_ P lo lb wr (Y,S,(Ah,bh),r4 Bs 1099511627776)/\af wr w.heap.size (fx (X,Bs)) 27/\af wr (w.heap.size+1) (aj tq) 23/\Below w.heap.size w wr)
       case atStart=>exact⟨0,X,dw.zero,X.Q,fun _=>0,rfl,rfl,k0,l,v,q,hB⟩
       case round=>
        clear l v q hB k0
        obtain⟨k,Y,S,Ah,bh,hk,rfl,kL,l,v,q,hB⟩:=hrel
        by_cases hkn:k<1040
        ·have hdk:decide ((k:Int)<1040)=true:=dT oa
         have hdk':decide (k<1040)=true:=dT oa
         have hw3:IntKind.i64.wrap ((k:Int)+1)=((k+1:Nat):Int):=by rw[wI];omega
         have TK:=aa (fun w (h:m_ P lo lb w (Y,S,(Ah,bh),r4 Bs 1099511627776))=>z8 Y S Ah bh Bs tq P.1 P.2.1 P.2.2.1 P.2.2.2 lo lb w h kL.t)
         replace kL:=kL.go
         generalize Ew Y S Ah bh Bs tq=X2 at *
         generalize Ha Y S Ah bh Bs tq=S2 at *
         generalize b9 (fV Y Ah bh Bs) bh (ji Y)=C2 at *
         generalize aU (fV Y Ah bh Bs) (ji Y)=A2 at *
         have TO:=aa (fun w (h:m_ P lo lb w (X2,S2,(A2,C2),r4 Bs 1099511627776))=>v8 X2 lo P.1 w h.o)
         rw[dD kL.T]at TO
         have AT:=aa (fun w (h:m_ P lo lb w (X2,S2,(A2,C2),r4 Bs 1099511627776))=>qL X2 lo P.1 w h.o)
         have BE:=aa (fun w=>gQ X2.Q tq w kL.t.k.q hI.out)
         rw[wQ kL.t.k.v hv.out]at BE
         replace kL:=aa kL
         have E1:=BQ X.T
         generalize r4 Bs 1099511627776=Gy at *
         go_upto_region 15 with(fail)
         have lt_v:=v.lt
         have lt_q:=q.lt
         have lt_l:=l.lt
         have hW0:w.heap.size<=wr.heap.size:=by simpa using hB.size
         apply a_ 14 [0,0,3,7,15,31,63,127,255,511,31,1055,4095,8191] [] [_,_,_,_,_,_,_,_,_,_,_,_,_,_] (fun p L w'=>wr.heap.size<=w'.heap.size/\Below w.heap.size w w'/\af w' w.heap.size (fx (X,Bs)) 27/\af w' (w.heap.size+1) (aj tq) 23/\m_ P lo lb w' (bif L 2 then((X2,S2,(A2,C2),Gy))else((Y,S,(Ah,bh),Gy)))) _ [(0,60),(1,61),(2,62),(3,63),(4,64),(5,65),(6,66),(7,67),(8,68),(9,69),(10,70),(11,71),(12,72),(13,73)] [0,1,2,3,4,5,6,7,8,9,10,11,12,13]
         case hn|hm|hB|hds|hA=>exact rA
         case h0=>exact fun p=>⟨Nat.le_refl _,hB.drew,v.drew,q.drew,l.drew⟩
         case hmore=>exact fun p L w1 w2 ⟨hsz,hB,v,q,l⟩ hm=>⟨Nat.le_trans hsz hm.size,hB.trans (hm.mono (Nat.le_trans hW0 hsz)),v.below hm v.lt,q.below hm q.lt,l.below hm l.lt⟩
         case hs=>
          intro more
          refine aH ?_
          refine cm ?_ ?_
          ·rintro p L w1 ⟨hsz,hB,v,q,l⟩ hk
           first|exact br _ _ rfl _ rfl _ _ q _ yb rfl rI rfl|(have hc:=q.cellIs (aD _ (show 0<4 by omega));go_simp;exact⟨rfl,rfl⟩)
          refine aw.cons ?_ ?_
          ·refine rJ 2 rfl (fun p=>rfl) (fun p w1 w2=>m_ P lo lb w2 ((X2,S2,(A2,C2),Gy))/\co lo lb w1 w2) ?_ ?_
           ·rintro p L w1 ⟨hsz,hB,v,q,l⟩ hk
            have L2:L 2=false:=hk.1
            rw[L2]at l
            try simp only[cond_true,cond_false]at l
            go_simp
            refine(TK.out _ l).mono ?_
            rintro e w2 ⟨rfl,h2,h3⟩
            exact⟨rfl,h2,h3⟩
           ·rintro p L w1 w2 ⟨hsz,hB,v,q,l⟩ hk ⟨h2,h3⟩
            refine⟨nk hsz h3.size,hB.trans (h3.below (nk hW0 hsz) oa),v.save h3 (by first|exact .inr out_v|exact .inl out_v|omega),q.save h3 (by first|exact .inr out_q|exact .inl out_q|omega),?_⟩
            rw[show cD L 2 2=true from rfl]
            exact h2
          iterate 2 (refine aH ?_)
          iterate 3 (refine bQ _ rfl (fun p=>rW) (fun _ _ _ h=>h) (by intros;go_simp;exact⟨rfl,rfl⟩) ?_)
          refine bQ 8 rfl (fun p=>rW) (fun _ _ _ h=>h) ?_ ?_
          ·rintro p L w1 ⟨hsz,hB,v,q,l⟩ hk
           have L2:L 2=true:=hk.2.1 2 rfl
           rw[L2]at l
           try simp only[cond_true,cond_false]at l
           have hc:w1.cell? ⟨lb,0,none⟩=some (.pointer (some ⟨P.1,0,none⟩)):=l.g.cellIs rfl
           go_simp
           exact⟨rfl,rfl⟩
          refine bS 9 rfl (fun p=>rW) (fun _ _ _ h=>h) more ?_ ?_
          ·rintro p L w1 ⟨hsz,hB,v,q,l⟩ hk
           have L2:L 2=true:=hk.2.1 2 rfl
           rw[L2]at l
           try simp only[cond_true,cond_false]at l
           go_simp
           exact(TO.out _ l).mono rC
          refine bQ _ rfl (fun p=>rW) (fun _ _ _ h=>h) (by intros;go_simp;exact⟨rfl,rfl⟩) ?_
          refine bQ 11 rfl (fun p=>rW) (fun _ _ _ h=>h) ?_ ?_
          ·rintro p L w1 ⟨hsz,hB,v,q,l⟩ hk
           exact aO _ _ rfl _ 4 rfl _ _ v (ah X.T) (Cv X Bs) _ yc rfl rI rfl
          refine bQ _ rfl (fun p=>rW) (fun _ _ _ h=>h) (by intros;go_simp;exact⟨rfl,rfl⟩) ?_
          refine aH ?_
          exact aw.nil
         case hV0=>exact fun p q=>aw.nil
         case he=>
         clear hB v q l
         rintro p wrr ⟨hsz,hB,v,q,l⟩
         replace l:m_ P lo lb wrr ((X2,S2,(A2,C2),Gy)):=l
         clear lt_v lt_q lt_l hsz hW0 TK TO E1
         by_cases h9:k<999
         ·have hd9:decide ((k:Int)<999)=true:=dT oa
          have hd9':decide (k<999)=true:=dT h9
          go_wp2_with (fail)
          go_roundg (1040-(k+1))
          case rel=>
           exact⟨k+1,X2,S2,A2,C2,oa,rfl,kL.out,l,v,q,hB⟩
          case measure=>omega
         ·have hd9:decide ((k:Int)<999)=false:=dF oa
          have hd9':decide (k<999)=false:=dF h9
          obtain⟨e1,e2⟩:=kL.out.end oa
          have NO:=aa (fun w=>mH (bO (am X2.Q tq)) w)
          rw[e1]at NO
          have dn:decide ((8192:Int)<gW (bO (am X2.Q tq)))=false:=dF oa
          clear e1 e2
          generalize gW (bO (am X2.Q tq))=nv at *
          generalize hU:am X2.Q tq=U at *
          replace hU:=aa hU
          go_upto_region 18 with(fail)
          have lt_v:=v.lt
          have lt_q:=q.lt
          have lt_l:=l.lt
          have hW0:w.heap.size<=wrr.heap.size:=by simpa using hB.size
          apply a_ 13 [0,1,3,7,15,0,63,127,255,255,0,1535,4095] [10] [_,_,_,_,_,_,_,_,_,_,(fun p=>.pointer (some ⟨p 10,0,none⟩)),(fun _=>undef),_] (fun p L w'=>wrr.heap.size<=w'.heap.size/\Below w.heap.size w w'/\af w' w.heap.size (fx (X,Bs)) 27/\af w' (w.heap.size+1) (aj tq) 23/\m_ P lo lb w' ((X2,S2,(A2,C2),Gy))/\(L 10=true->wrr.heap.size<=p 10/\af w' (p 10) (bif L 11 then(aj U)else(aj fun _=>0)) 23)) _ [(0,77),(1,78),(2,79),(3,80),(4,81),(5,82),(6,83),(7,76),(8,84),(9,85),(10,11),(12,12)] [0,1,2,3,4,5,6,7,8,9,10,11,12]
          case hn|hm|hB|hds|hA=>exact rA
          case h0=>exact fun p=>⟨Nat.le_refl _,hB.drew,v.drew,q.drew,l.drew,fun h=>absurd h (by decide)⟩
          case hmore=>exact fun p L w1 w2 ⟨hsz,hB,v,q,l,h_le⟩ hm=>⟨Nat.le_trans hsz hm.size,hB.trans (hm.mono (Nat.le_trans hW0 hsz)),v.below hm v.lt,q.below hm q.lt,l.below hm l.lt,fun hl=>⟨(h_le hl).1,(h_le hl).2.below hm (h_le hl).2.lt⟩⟩
          case hs=>
           intro more
           iterate 3 (refine aH ?_)
           refine cm ?_ ?_
           ·rintro p L w1 ⟨hsz,hB,v,q,l,h_le⟩ hk
            have hc:w1.cell? ⟨lb,0,none⟩=some (.pointer (some ⟨P.1,0,none⟩)):=l.g.cellIs rfl
            go_simp
            exact⟨rfl,rfl⟩
           refine bS 4 rfl (fun p=>rfl) (fun _ _ _ h=>h) more ?_ ?_
           ·rintro p L w1 ⟨hsz,hB,v,q,l,h_le⟩ hk
            go_simp
            exact(AT.out _ l).mono rC
           refine cm ?_ ?_
           ·rintro p L w1 ⟨hsz,hB,v,q,l,h_le⟩ hk
            first|exact br _ _ rfl _ rfl _ _ q _ yb rfl rI rfl|(have hc:=q.cellIs (aD _ (show 0<4 by omega));go_simp;exact⟨rfl,rfl⟩)
           refine bS 6 rfl (fun p=>rfl) (fun _ _ _ h=>h) more ?_ ?_
           ·rintro p L w1 ⟨hsz,hB,v,q,l,h_le⟩ hk
            go_simp
            exact(BE.out _).mono rC
           iterate 3 (refine aH ?_)
           refine aw.cons ?_ ?_
           ·refine aP 10 rfl (fun p=>rfl) rfl (aj fun _=>0) 23 (fun p=>rfl) ?_ ?_
            ·intro p w1
             go_simp
             first|done|rfl|rw[bP]
            rintro p L w1 ⟨hsz,hB,v,q,l,h_le⟩ hk
            have L11:L 11=false:=hk.2.2 11 rfl
            refine⟨nk hsz sd,hB.alloc (nk hW0 hsz) _,v.alloc _,q.alloc _,l.alloc _,fun _=>⟨hsz,?_⟩⟩
            rw[show cD L 10 11=false from L11]
            exact af.new _ _ _
           refine aw.cons ?_ ?_
           ·refine aA 11 rfl (fun p=>rfl) (fun p=>rfl) _ _ _ rfl (fun p=>p 10) 0 (fun p=>rfl) (fun p=>(aj U)) (fun p=>rfl) (fun p=>(aj fun _=>0)) (fun p=>(aj U)) 23 (fun p=>dK _ _) (fun p=>by first|(rw[ak,ak];decide)|simp[ak,ak]) (fun p=>by rw[ak];kernel_rfl) (fun p=>bF _) ?_ ?_
            ·rintro p L w1 ⟨hsz,hB,v,q,l,h_le⟩ hk
             exact cg (h_le (hk.2.1 10 rfl)).2 hk.1
            ·rintro p L w1 ⟨hsz,hB,v,q,l,h_le⟩ hk
             have hp:=h_le (hk.2.1 10 rfl)
             refine⟨(by simpa using hsz),Below.setRow hB (nk hW0 hp.1) _,v.rowOther (nL lt_v hp.1) _,q.rowOther (nL lt_q hp.1) _,l.rowOther (.inr (nq lt_l hp.1)) _,fun _=>⟨hp.1,?_⟩⟩
             rw[show cD L 11 11=true from rfl]
             exact hp.2.row _
           refine aH ?_
           exact aw.nil
          case hV0=>exact rV
          case he=>
          clear hB v q l
          rintro p wrrr ⟨hsz,hB,v,q,l,h_le⟩
          obtain⟨le_le,le⟩:=h_le rfl
          clear h_le
          replace le:af wrrr (p 10) (aj U) 23:=le
          have ne_v_le:w.heap.size≠p 10:=nN (nq lt_v le_le)
          have ne_q_le:(w.heap.size+1)≠p 10:=nN (nq lt_q le_le)
          have ne_l_le:lb≠p 10:=nN (nq lt_l le_le)
          have ge_le:w.heap.size<=p 10:=nk hW0 le_le
          have out_le:lb<p 10:=nq lt_l le_le
          generalize p 10=le_b at *
          clear lt_v lt_q lt_l hsz hW0 AT BE
          have cl1:wrrr.cell? ⟨le_b,1,none⟩=some (.int .i64 (U 1)):=le.cellIs (aD _ oa)
          have cl2:wrrr.cell? ⟨le_b,2,none⟩=some (.int .i64 (U 2)):=le.cellIs (aD _ oa)
          have cl3:wrrr.cell? ⟨le_b,3,none⟩=some (.int .i64 (U 3)):=le.cellIs (aD _ oa)
          go_wp2_with ((rw[mw];(go_at_call 10;with_reducible refine(NO.out _).mono ?_;rintro e w7 ⟨rfl,hb⟩;replace hB:=hB.trans (hb.mono hB.size);replace v:=v.below hb v.lt;replace q:=q.below hb q.lt;replace l:=l.below hb l.lt;replace le:=le.below hb le.lt;clear hb)))
          clear cl1 cl2 cl3 dn NO le
          go_roundg (1040-(k+1))
          case rel=>
           exact⟨k+1,X2,S2,A2,C2,oa,rfl,kL.out,l,v,q,hB⟩
          case measure=>omega
        ·obtain rfl:k=1040:=oa
         have hdk:decide (((1040:Nat):Int)<1040)=false:=da
         clear kL l
         go_wp2_with (fail)
         go_ret
         exact⟨rfl,hB⟩
end Go.Proofs.YtbhahonkhiiilaaGreat
