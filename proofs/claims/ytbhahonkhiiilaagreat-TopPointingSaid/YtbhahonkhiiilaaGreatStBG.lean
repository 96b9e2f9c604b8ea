/-
  Controls: a step (N).
-/
import Derived.Test.YtbhahonkhiiilaaGreatBdA
set_option linter.unusedSimpArgs false
set_option linter.unusedVariables false
namespace Go.Proofs.YtbhahonkhiiilaaGreat
open Go.RowKit PM Dt
theorem yH {new old:Nat->Int} (h:new=old) (k:Nat):cV new old k=old:=by subst h;funext i;unfold cV;split<;>rfl
set_option maxRecDepth 100000 in
set_option maxHeartbeats 24000000 in
theorem u5 (X:dw) (V:n_) (b:Nat) (N:Nat) (cs:Array Value) (A To:Nat->Int) (w:World) (hg:af w b (d9 X) 89) (hk:ce V=true) (hD:∀i,i<3->-4194304<=X.D i/\X.D i<=4194304) (hTo:∀i,i<3->-1099511627776<=To i/\To i<=1099511627776) (CW:∀w1,co b b w w1->af w1 b (d9 X) 89->Calls Tryz.prog N (#[.bool (ee X V)]++cs) w1 fun e w'=>e=.returned (.agg (ah To))/\Below w1.heap.size (w1.setRow b (d9 ⟨X.D,A,X.P,X.g⟩)) w') (HN:∀ar w1,Sem.run Tryz.prog (callFunc N ar) w1=.ok (.enter N ar) w1):Calls Tryz.prog 59 #[.pointer (some ⟨b,0,none⟩),.agg (jz V),.func (.func N) #[] cs] w fun e w'=>e=.returned (.tuple #[.agg (aj (ky X V To)),.int .i64 0])/\af w' b (d9 (mo X V A To)) 89/\co b b w w':=by
 unfold mo ky
 obtain⟨D2,hD2⟩:∃D2,D2=pG (ee X V) X To:=⟨_,rfl⟩
 rw[<-hD2]
 have hcs:Hid (X.g=false/\ee X V=false\/X.g=true/\pB V.sp X.P=false/\ee X V=false\/X.g=true/\pB V.sp X.P=true/\ee X V=true):=by
  unfold ee Hid;cases X.g<;>cases pB V.sp X.P<;>simp
 replace hD2:=Lib.hid hD2
 simp only[ce,Bool.and_eq_true]at hk
 obtain⟨hn,h1,h2⟩:=hk
 have hS:=(sY hn).1
 have WN:=Lib.hid (fun w=>ot V.sp V.f w hn)
 have W1:=Lib.hid (fun w=>nO V.rate 268435456 w (by omega) (by omega))
 have W2:=Lib.hid (fun w=>nO V.sun 2147483648 w (by omega) (by omega))
 have HR:=Lib.hid (fun i hi=>(cR _ _).1 ((bp V.rate _).1 h1 i hi))
 rw[h1]at W1
 rw[h2]at W2
 have SU:=Lib.hid (fun w c (hb:af w c (cy (V.sp,V.f)) 126)=>ux V.sp V.f c w hb hS)
 have HS:=Lib.hid (fun i hi=>oB hS (i:=i) hi)
 have HD:=Lib.hid hD
 have HT:=Lib.hid hTo
 have AL:=Lib.hid (fun w=>Bd (jv V D2) V.f w)
 rw[show zx (jv V D2) V.f=oA V D2 from rfl]at AL
 have CM:=Lib.hid (fun w c (hb:af w c (cy (V.sp,V.f)) 126)=>Dj V.sp V.f c (oA V D2) w hb hS)
 replace HN:=Lib.hid HN
 clear hn h1 h2 hS hD hTo
 replace CW:=Lib.hid CW
 have NN:=Lib.hid (fun w' (hb:Below w.heap.size w w')=>zS X b w' (hg.below hb hg.lt))
 have gl:=hg.lt
 go_enter Tryz.func59,Tryz.ntmps59
 go_upto_region 1 with(fail)
 simp only[dp]
 have v:af ((w.alloc (.cells (jz V) 67)).alloc (.cells (aj fun _=>0) 22)) w.heap.size (jz V) 67:=(af.new _ _ _).alloc _
 have r:af ((w.alloc (.cells (jz V) 67)).alloc (.cells (aj fun _=>0) 22)) (w.heap.size+1) (aj fun _=>0) 22:=af.new' (by simp)
 have hB:Below w.heap.size w ((w.alloc (.cells (jz V) 67)).alloc (.cells (aj fun _=>0) 22)):=by go_grown
 generalize((w.alloc (.cells (jz V) 67)).alloc (.cells (aj fun _=>0) 22))=w0 at *
 have cf:w0.cell? ⟨w.heap.size,7,none⟩=some (.int .i64 V.f):=v.cellIs rfl
 have hl0:=hB.size
 have lv0:=v.lt
 have lr0:=r.lt
 go_upto_region 4 with(first|(go_at_call 58;with_reducible refine(NN.out _ hB).mono ?_;rintro e w9 ⟨rfl,rfl⟩)|(refine bB ?hw _ _ rfl _ 3 rfl _ _ v (aj V.sp) (JE V) _ Tryz.underlying22 rfl ?hi ?_;(case hw=>(first|rfl|(simp[Region.wanted,yielded];done)));(case hi=>(rw[ak];kernel_rfl)))|(go_at_call 33;with_reducible refine(WN.out _).mono ?_;rintro e w1 ⟨sb,rfl,sv,hle,hb⟩;replace hB:=hB.trans (hb.mono hB.size);replace v:=v.below hb v.lt;replace r:=r.below hb r.lt;clear hb))
 clear WN NN cf
 go_upto_region 6 with(first|(refine bB ?hw _ _ rfl _ 0 rfl _ _ v (ah V.rate) (K8 V) _ Tryz.underlying25 rfl ?hi ?_;(case hw=>(first|rfl|(simp[Region.wanted,yielded];done)));(case hi=>(rw[ad];kernel_rfl)))|(refine bB ?hw _ _ rfl _ 8 rfl _ _ v (ah V.sun) (Li V) _ Tryz.underlying25 rfl ?hi ?_;(case hw=>(first|rfl|(simp[Region.wanted,yielded];done)));(case hi=>(rw[ad];kernel_rfl)))|(go_at_call 88;with_reducible refine(W1.out _).mono ?_;rintro e w2 ⟨rfl,hb⟩;replace hB:=hB.trans (hb.mono hB.size);replace v:=v.below hb v.lt;replace r:=r.below hb r.lt;replace sv:=sv.below hb sv.lt;clear hb)|(go_at_call 88;with_reducible refine(W2.out _).mono ?_;rintro e w3 ⟨rfl,hb⟩;replace hB:=hB.trans (hb.mono hB.size);replace v:=v.below hb v.lt;replace r:=r.below hb r.lt;replace sv:=sv.below hb sv.lt;clear hb))
 clear W1 W2
 have g:af w3 b (d9 X) 89:=hg.below hB hg.lt
 have hle2:w.heap.size<=sb:=by omega
 have ne_sv_g:sb≠b:=by omega
 have ne_v_g:w.heap.size≠b:=by omega
 have ne_r_g:(w.heap.size+1)≠b:=by omega
 have ne_r_sv:(w.heap.size+1)≠sb:=by omega
 have ne_v_sv:w.heap.size≠sb:=by omega
 clear hg hle hl0 lv0 lr0
 replace hB:co b b w w3:=co.of hB
 rcases hcs.out with⟨hg0,ha⟩|⟨hg0,he,ha⟩|⟨hg0,he,ha⟩
 case' inl=>
  have HT2:Hid (D2=X.D):=by rw[hD2.out,ha];rfl
  have EQ:=hg0
 case' inr.inl=>
  have HT2:Hid (D2=X.D):=by rw[hD2.out,ha];rfl
  have EQ:=zc V.sp X.P
  rw[show((List.range 4).all fun j=>V.sp j==X.P j)=false from he]at EQ
  clear he
 case' inr.inr=>
  have HT2:Hid (∀k,D2 k=X.D k+aI (To k-X.D k) (-262144) 262144):=by rw[hD2.out,ha];exact fun k=>rfl
  have EQ:=zc V.sp X.P
  rw[show((List.range 4).all fun j=>V.sp j==X.P j)=true from he]at EQ
  clear he
 all_goals
  rw[ha]at CW
  clear hcs ha hD2
  replace hg0:=Lib.hid hg0
  have lt_v:=v.lt
  have lt_r:=r.lt
  have lt_sv:=sv.lt
  have lt_g:=g.lt
  have hW0:w.heap.size<=w3.heap.size:=by simpa using hB.size
  apply a_ 16 [0,1,3,7,15,31,63,127,63,319,831,1855,3903,8191,16383,32767] [] [_,_,_,_,_,_,_,_,_,_,_,_,_,_,_,_] (fun p L w'=>w3.heap.size<=w'.heap.size/\co b b w w'/\af w' w.heap.size (jz V) 67/\af w' (w.heap.size+1) (aj fun _=>0) 22/\af w' sb (cy (V.sp,V.f)) 126/\af w' b (d9 X) 89) _ [(0,41),(1,42),(2,43),(3,44),(4,45),(5,46),(6,47),(7,48),(8,49),(9,50),(10,51),(11,52),(12,53),(13,54),(14,55),(15,10)] [0,1,2,3,4,5,6,7,8,9,10,11,12,13,14,15]
  case hn=>rfl
  case hm=>kernel_rfl
  case hB=>kernel_rfl
  case hds=>kernel_rfl
  case hA=>(intro p;simp only[rB,Act.put,aL,aM,aN,Lq,K6];exact rfl)
  case h0=>exact fun p=>⟨Nat.le_refl _,hB.drew,v.drew,r.drew,sv.drew,g.drew⟩
  case hmore=>exact fun p L w1 w2 ⟨hsz,hB,v,r,sv,g⟩ hm=>⟨Nat.le_trans hsz hm.size,hB.trans (hm.mono (Nat.le_trans hW0 hsz)),v.below hm v.lt,r.below hm r.lt,sv.below hm sv.lt,g.below hm g.lt⟩
  case hs=>
   intro more
   iterate 4 (refine aH ?_)
   refine cm ?_ ?_
   ·rintro p L w1 ⟨hsz,hB,v,r,sv,g⟩ hk
    have hc:=g.cellIs (i:=10) (v:=.bool X.g) rfl
    rw[hg0.out]at hc
    go_simp
    exact⟨rfl,rfl⟩
   refine aH ?_
   first
    |(iterate 8 (refine aw.cons (fQ _ rfl (fun p=>rfl) (fun p=>rfl) (fun _ _ _ h=>h)) ?_))
    | (refine bQ _ rfl (fun p=>(by first|rfl|(simp[Region.wanted,yielded];done))) (fun _ _ _ h=>h) (by intros;go_simp;exact⟨rfl,rfl⟩) ?_
       refine bQ 7 rfl (fun p=>(by first|rfl|(simp[Region.wanted,yielded];done))) (fun _ _ _ h=>h) ?_ ?_
       ·rintro p L w1 ⟨hsz,hB,v,r,sv,g⟩ hk
        exact aO _ _ rfl _ 3 rfl _ _ v (aj V.sp) (JE V) _ Tryz.underlying22 rfl (by rw[ak];kernel_rfl) rfl
       iterate 4 (refine bQ _ rfl (fun p=>(by first|rfl|(simp[Region.wanted,yielded];done))) (fun _ _ _ h=>h) (by intros;go_simp;exact⟨rfl,rfl⟩) ?_)
       refine bQ 12 rfl (fun p=>(by first|rfl|(simp[Region.wanted,yielded];done))) (fun _ _ _ h=>h) ?_ ?_
       ·rintro p L w1 ⟨hsz,hB,v,r,sv,g⟩ hk
        exact aO _ _ rfl _ 6 rfl _ _ g (aj X.P) (JW X) _ Tryz.underlying22 rfl (by rw[ak];kernel_rfl) rfl
       refine bQ _ rfl (fun p=>(by first|rfl|(simp[Region.wanted,yielded];done))) (fun _ _ _ h=>h) (by intros;go_simp;exact⟨rfl,rfl⟩) ?_)
   iterate 2 (refine aH ?_)
   exact aw.nil
  case hV0=>exact fun p q=>aw.nil
  case he=>
  clear hB v r sv g
  rintro p w3r ⟨hsz,hB,v,r,sv,g⟩
  clear lt_v lt_r lt_sv lt_g hsz hW0 EQ
  go_upto_region 7 with(fail)
  have lt_v:=v.lt
  have lt_r:=r.lt
  have lt_sv:=sv.lt
  have lt_g:=g.lt
  have hW0:w.heap.size<=w3r.heap.size:=by simpa using hB.size
  apply ay 5 [0,1,3,7,15] [3] [_,_,_,(fun p=>.pointer (some ⟨p 3,0,none⟩)),(fun _=>undef)] (fun p L w'=>w3r.heap.size<=w'.heap.size/\co b b w w'/\af w' w.heap.size (jz V) 67/\af w' (w.heap.size+1) (aj fun _=>0) 22/\af w' sb (cy (V.sp,V.f)) 126/\af w' b (bif L 2 then(d9 ⟨X.D,A,X.P,X.g⟩)else(d9 X)) 89/\(L 3=true->w3r.heap.size<=p 3/\af w' (p 3) (bif L 4 then(ah To)else(ah fun _=>0)) 25)) _ [(0,56),(1,57),(2,58),(3,11)] [0,1,2,3,4]
  case hn=>rfl
  case hB=>kernel_rfl
  case hds=>kernel_rfl
  case hA=>(intro p;simp only[rB,Act.put,aL,aM,aN,Lq,K6];exact rfl)
  case h0=>exact fun p=>⟨Nat.le_refl _,hB,v,r,sv,g,fun h=>absurd h (by decide)⟩
  case hmore=>exact fun p L w1 w2 ⟨hsz,hB,v,r,sv,g,h_tw⟩ hm=>⟨Nat.le_trans hsz hm.size,hB.trans (hm.mono (Nat.le_trans hW0 hsz)),v.below hm v.lt,r.below hm r.lt,sv.below hm sv.lt,g.below hm g.lt,fun hl=>⟨(h_tw hl).1,(h_tw hl).2.below hm (h_tw hl).2.lt⟩⟩
  case hs=>
   intro more
   iterate 2 (refine aH ?_)
   refine aw.cons ?_ ?_
   ·refine gw 2 rfl (fun p=>rfl) (fun _=>b) (fun p=>(d9 ⟨X.D,A,X.P,X.g⟩)) ?_ ?_
    ·rintro p L w1 ⟨hsz,hB,v,r,sv,g,h_tw⟩ hk
     have L2:L 2=false:=hk.1
     have L4:L 4=false:=hk.2.2 4 rfl
     rw[L2]at g
     try simp only[cond_true,cond_false]at g
     go_simp
     rw[HN.out]
     simp only[gU]
     refine(CW.out _ hB g).mono ?_
     rintro e w2 ⟨rfl,h2⟩
     exact⟨rfl,h2⟩
    ·rintro p L w1 w2 ⟨hsz,hB,v,r,sv,g,h_tw⟩ hk hm
     have L2:L 2=false:=hk.1
     have L4:L 4=false:=hk.2.2 4 rfl
     refine⟨Nat.le_trans hsz (by have:=hm.size;simpa using this),(hB.row (by first|exact .inr (Nat.le_trans hW0 hp.1)|exact .inr ge_g|exact .inl ⟨Nat.le_refl _,Nat.le_refl _⟩|omega|(have:=hB.size;simp at this|-;omega)) _).trans (hm.mono (Nat.le_trans hW0 hsz)),(v.rowOther ne_v_g _).below hm (by simpa using v.lt),(r.rowOther ne_r_g _).below hm (by simpa using r.lt),(sv.rowOther ne_sv_g _).below hm (by simpa using sv.lt),?_,fun hl=>⟨(h_tw hl).1,((h_tw hl).2.rowOther (Nat.ne_of_gt (Nat.lt_of_lt_of_le lt_g (h_tw hl).1)) _).below hm (by simpa using(h_tw hl).2.lt)⟩⟩
     rw[show cD L 2 2=true from rfl]
     exact(g.row _).below hm (by simpa using g.lt)
   refine aw.cons ?_ ?_
   ·refine aP 3 rfl (fun p=>rfl) rfl (ah fun _=>0) 25 (fun p=>rfl) ?_ ?_
    ·intro p w1
     go_simp
     first|rfl|rw[aQ]
    rintro p L w1 ⟨hsz,hB,v,r,sv,g,h_tw⟩ hk
    have L2:L 2=true:=hk.2.1 2 rfl
    have L4:L 4=false:=hk.2.2 4 rfl
    refine⟨Nat.le_trans hsz (by simp),hB.alloc (Nat.le_trans (by first|exact hW0|(have:=hB.size;simp at this|-;omega)) hsz) _,v.alloc _,r.alloc _,sv.alloc _,g.alloc _,fun _=>⟨hsz,?_⟩⟩
    rw[show cD L 3 4=false from L4]
    exact af.new _ _ _
   refine aw.cons ?_ ?_
   ·refine aA 4 rfl (fun p=>rfl) (fun p=>rfl) _ _ _ rfl (fun p=>p 3) 0 (fun p=>rfl) (fun p=>(ah To)) (fun p=>rfl) (fun p=>(ah fun _=>0)) (fun p=>(ah To)) 25 (fun p=>dH _ _) (fun p=>by first|(rw[ad,ad];decide)|simp[ad,ad]) (fun p=>by rw[ad];kernel_rfl) (fun p=>aG _) ?_ ?_
    ·rintro p L w1 ⟨hsz,hB,v,r,sv,g,h_tw⟩ hk
     have L2:L 2=true:=hk.2.1 2 rfl
     have L4:L 4=false:=hk.1
     have hh:=(h_tw (hk.2.1 3 rfl)).2
     rw[L4]at hh
     try simp only[cond_true,cond_false]at hh
     exact hh
    ·rintro p L w1 ⟨hsz,hB,v,r,sv,g,h_tw⟩ hk
     have L2:L 2=true:=hk.2.1 2 rfl
     have L4:L 4=false:=hk.1
     skip
     have hp:=h_tw (hk.2.1 3 rfl)
     refine⟨(by simpa using hsz),hB.row (by first|exact .inr (Nat.le_trans hW0 hp.1)|exact .inr ge_tw|exact .inl ⟨Nat.le_refl _,Nat.le_refl _⟩|omega|(have:=hB.size;simp at this|-;omega)) _,v.rowOther (by first|exact Nat.ne_of_lt (Nat.lt_of_lt_of_le lt_v hp.1)|omega) _,r.rowOther (by first|exact Nat.ne_of_lt (Nat.lt_of_lt_of_le lt_r hp.1)|omega) _,sv.rowOther (by first|exact Nat.ne_of_lt (Nat.lt_of_lt_of_le lt_sv hp.1)|omega) _,g.rowOther (by first|exact Nat.ne_of_lt (Nat.lt_of_lt_of_le lt_g hp.1)|omega) _,fun _=>⟨hp.1,?_⟩⟩
     rw[show cD L 4 4=true from rfl]
     exact hp.2.row _
   exact aw.nil
  case hV0=>
   intro p q
   refine aw.cons ?_ ?_
   ·skip
    iterate 5 (refine aw.cons (by first|exact .inl rfl|(refine .inr ?_;simp only[Lq,K6];done)|exact .inr rfl) ?_)
    exact aw.nil
   exact aw.nil
  case he=>
  clear hB v r sv g
  rintro p w3rr ⟨hsz,hB,v,r,sv,g,h_tw⟩
  obtain⟨le_tw,tw⟩:=h_tw rfl
  clear h_tw
  replace g:af w3rr b (d9 ⟨X.D,A,X.P,X.g⟩) 89:=g
  replace tw:af w3rr (p 3) (ah To) 25:=tw
  have ne_v_tw:w.heap.size≠p 3:=Nat.ne_of_lt (Nat.lt_of_lt_of_le lt_v le_tw)
  have ne_r_tw:(w.heap.size+1)≠p 3:=Nat.ne_of_lt (Nat.lt_of_lt_of_le lt_r le_tw)
  have ne_sv_tw:sb≠p 3:=Nat.ne_of_lt (Nat.lt_of_lt_of_le lt_sv le_tw)
  have ne_g_tw:b≠p 3:=Nat.ne_of_lt (Nat.lt_of_lt_of_le lt_g le_tw)
  have ge_tw:w.heap.size<=p 3:=Nat.le_trans hW0 le_tw
  generalize p 3=tw_b at *
  clear lt_v lt_r lt_sv lt_g hsz hW0 CW
  go_upto_region 8 with(fail)
  have lt_v:=v.lt
  have lt_r:=r.lt
  have lt_sv:=sv.lt
  have lt_g:=g.lt
  have lt_tw:=tw.lt
  have hW0:w.heap.size<=w3rr.heap.size:=by simpa using hB.size
  apply ay 4 [0,1,3,7] [2] [_,_,(fun p=>.pointer (some ⟨p 2,0,none⟩)),(fun _=>undef)] (fun p L w'=>w3rr.heap.size<=w'.heap.size/\co b b w w'/\af w' w.heap.size (jz V) 67/\af w' (w.heap.size+1) (aj fun _=>0) 22/\af w' sb (cy (V.sp,V.f)) 126/\af w' b (d9 ⟨X.D,A,X.P,X.g⟩) 89/\af w' tw_b (ah To) 25/\(L 2=true->w3rr.heap.size<=p 2/\af w' (p 2) (bif L 3 then(ah (cZ V.sp))else(ah fun _=>0)) 25)) _ [(0,59),(1,60),(2,12)] [0,1,2,3]
  case hn=>rfl
  case hB=>kernel_rfl
  case hds=>kernel_rfl
  case hA=>(intro p;simp only[rB,Act.put,aL,aM,aN,Lq,K6];exact rfl)
  case h0=>exact fun p=>⟨Nat.le_refl _,hB,v,r,sv,g,tw,fun h=>absurd h (by decide)⟩
  case hmore=>exact fun p L w1 w2 ⟨hsz,hB,v,r,sv,g,tw,h_rs⟩ hm=>⟨Nat.le_trans hsz hm.size,hB.trans (hm.mono (Nat.le_trans hW0 hsz)),v.below hm v.lt,r.below hm r.lt,sv.below hm sv.lt,g.below hm g.lt,tw.below hm tw.lt,fun hl=>⟨(h_rs hl).1,(h_rs hl).2.below hm (h_rs hl).2.lt⟩⟩
  case hs=>
   intro more
   refine aH ?_
   refine bS 1 rfl (fun p=>rfl) (fun _ _ _ h=>h) more ?_ ?_
   ·rintro p L w1 ⟨hsz,hB,v,r,sv,g,tw,h_rs⟩ hk
    have L3:L 3=false:=hk.2.2 3 rfl
    go_simp
    refine(SU.out _ _ sv).mono ?_
    rintro e w2 ⟨rfl,h2⟩
    first|exact⟨rfl,h2⟩|(subst h2;exact⟨rfl,Below.refl _ _⟩)
   refine aw.cons ?_ ?_
   ·refine aP 2 rfl (fun p=>rfl) rfl (ah fun _=>0) 25 (fun p=>rfl) ?_ ?_
    ·intro p w1
     go_simp
     first|rfl|rw[aQ]
    rintro p L w1 ⟨hsz,hB,v,r,sv,g,tw,h_rs⟩ hk
    have L3:L 3=false:=hk.2.2 3 rfl
    refine⟨Nat.le_trans hsz (by simp),hB.alloc (Nat.le_trans (by first|exact hW0|(have:=hB.size;simp at this|-;omega)) hsz) _,v.alloc _,r.alloc _,sv.alloc _,g.alloc _,tw.alloc _,fun _=>⟨hsz,?_⟩⟩
    rw[show cD L 2 3=false from L3]
    exact af.new _ _ _
   refine aw.cons ?_ ?_
   ·refine aA 3 rfl (fun p=>rfl) (fun p=>rfl) _ _ _ rfl (fun p=>p 2) 0 (fun p=>rfl) (fun p=>(ah (cZ V.sp))) (fun p=>rfl) (fun p=>(ah fun _=>0)) (fun p=>(ah (cZ V.sp))) 25 (fun p=>dH _ _) (fun p=>by first|(rw[ad,ad];decide)|simp[ad,ad]) (fun p=>by rw[ad];kernel_rfl) (fun p=>aG _) ?_ ?_
    ·rintro p L w1 ⟨hsz,hB,v,r,sv,g,tw,h_rs⟩ hk
     have L3:L 3=false:=hk.1
     have hh:=(h_rs (hk.2.1 2 rfl)).2
     rw[L3]at hh
     try simp only[cond_true,cond_false]at hh
     exact hh
    ·rintro p L w1 ⟨hsz,hB,v,r,sv,g,tw,h_rs⟩ hk
     have L3:L 3=false:=hk.1
     skip
     have hp:=h_rs (hk.2.1 2 rfl)
     refine⟨(by simpa using hsz),hB.row (by first|exact .inr (Nat.le_trans hW0 hp.1)|exact .inr ge_rs|exact .inl ⟨Nat.le_refl _,Nat.le_refl _⟩|omega|(have:=hB.size;simp at this|-;omega)) _,v.rowOther (by first|exact Nat.ne_of_lt (Nat.lt_of_lt_of_le lt_v hp.1)|omega) _,r.rowOther (by first|exact Nat.ne_of_lt (Nat.lt_of_lt_of_le lt_r hp.1)|omega) _,sv.rowOther (by first|exact Nat.ne_of_lt (Nat.lt_of_lt_of_le lt_sv hp.1)|omega) _,g.rowOther (by first|exact Nat.ne_of_lt (Nat.lt_of_lt_of_le lt_g hp.1)|omega) _,tw.rowOther (by first|exact Nat.ne_of_lt (Nat.lt_of_lt_of_le lt_tw hp.1)|omega) _,fun _=>⟨hp.1,?_⟩⟩
     rw[show cD L 3 3=true from rfl]
     exact hp.2.row _
   exact aw.nil
  case hV0=>
   intro p q
   refine aw.cons ?_ ?_
   ·skip
    iterate 4 (refine aw.cons (by first|exact .inl rfl|(refine .inr ?_;simp only[Lq,K6];done)|exact .inr rfl) ?_)
    exact aw.nil
   exact aw.nil
  case he=>
  clear hB v r sv g tw
  rintro p w3rrr ⟨hsz,hB,v,r,sv,g,tw,h_rs⟩
  obtain⟨le_rs,rs⟩:=h_rs rfl
  clear h_rs
  replace rs:af w3rrr (p 2) (ah (cZ V.sp)) 25:=rs
  have ne_v_rs:w.heap.size≠p 2:=Nat.ne_of_lt (Nat.lt_of_lt_of_le lt_v le_rs)
  have ne_r_rs:(w.heap.size+1)≠p 2:=Nat.ne_of_lt (Nat.lt_of_lt_of_le lt_r le_rs)
  have ne_sv_rs:sb≠p 2:=Nat.ne_of_lt (Nat.lt_of_lt_of_le lt_sv le_rs)
  have ne_g_rs:b≠p 2:=Nat.ne_of_lt (Nat.lt_of_lt_of_le lt_g le_rs)
  have ne_tw_rs:tw_b≠p 2:=Nat.ne_of_lt (Nat.lt_of_lt_of_le lt_tw le_rs)
  have ge_rs:w.heap.size<=p 2:=Nat.le_trans hW0 le_rs
  generalize p 2=rs_b at *
  clear lt_v lt_r lt_sv lt_g lt_tw hsz hW0 SU
  go_upto_region 9 with(fail)
  have lt_v:=v.lt
  have lt_r:=r.lt
  have lt_sv:=sv.lt
  have lt_g:=g.lt
  have lt_tw:=tw.lt
  have lt_rs:=rs.lt
  have hW0:w.heap.size<=w3rrr.heap.size:=by simpa using hB.size
  apply ay 6 [0,1,3,7,15,31] [] [_,_,_,_,_,_] (fun p L w'=>w3rrr.heap.size<=w'.heap.size/\co b b w w'/\af w' w.heap.size (jz V) 67/\af w' (w.heap.size+1) (aj fun _=>0) 22/\af w' sb (cy (V.sp,V.f)) 126/\af w' b (d9 ⟨X.D,A,X.P,X.g⟩) 89/\af w' tw_b (ah To) 25/\af w' rs_b (ah (cZ V.sp)) 25) _ [(0,61),(1,62),(2,63),(3,64),(4,65),(5,66)] [0,1,2,3,4,5]
  case hn=>rfl
  case hB=>kernel_rfl
  case hds=>kernel_rfl
  case hA=>(intro p;simp only[rB,Act.put,aL,aM,aN,Lq,K6];exact rfl)
  case h0=>exact fun p=>⟨Nat.le_refl _,hB,v,r,sv,g,tw,rs⟩
  case hmore=>exact fun p L w1 w2 ⟨hsz,hB,v,r,sv,g,tw,rs⟩ hm=>⟨Nat.le_trans hsz hm.size,hB.trans (hm.mono (Nat.le_trans hW0 hsz)),v.below hm v.lt,r.below hm r.lt,sv.below hm sv.lt,g.below hm g.lt,tw.below hm tw.lt,rs.below hm rs.lt⟩
  case hs=>
   intro more
   iterate 4 (refine aH ?_)
   refine cm ?_ ?_
   ·rintro p L w1 ⟨hsz,hB,v,r,sv,g,tw,rs⟩ hk
    exact aO _ _ rfl _ 0 rfl _ _ g (ah X.D) (KU ⟨X.D,A,X.P,X.g⟩) _ Tryz.underlying25 rfl (by rw[ad];kernel_rfl) rfl
   refine aH ?_
   exact aw.nil
  case hV0=>exact fun p q=>aw.nil
  case he=>
  clear hB v r sv g tw rs
  rintro p w3rrrr ⟨hsz,hB,v,r,sv,g,tw,rs⟩
  clear lt_v lt_r lt_sv lt_g lt_tw lt_rs hsz hW0
  rw[show ah (cZ V.sp)=ah (cV (jv V D2) (cZ V.sp) 0)from by rw[kD]]at rs
  rw[show d9 ⟨X.D,A,X.P,X.g⟩=d9 ⟨cV D2 X.D 0,A,X.P,X.g⟩from by rw[kD]]at g
  go_wp2_with (fail)
  go_loopg [66] 3 (fun g_ iv wr=>∃k:Nat,g_+k=3/\iv=.int .i64 k/\af wr w.heap.size (jz V) 67/\af wr (w.heap.size+1) (aj fun _=>0) 22/\af wr sb (cy (V.sp,V.f)) 126/\af wr b (d9 ⟨cV D2 X.D k,A,X.P,X.g⟩) 89/\af wr tw_b (ah To) 25/\af wr rs_b (ah (cV (jv V D2) (cZ V.sp) k)) 25/\co b b w wr)
  case atStart=>exact⟨0,rfl,rfl,v,r,sv,g,tw,rs,hB⟩
  case round=>
   clear v r sv g tw rs hB
   obtain⟨k,hk,rfl,v,r,sv,g,tw,rs,hB⟩:=hrel
   by_cases hkn:k<3
   ·have hdk:decide ((k:Int)<3)=true:=decide_eq_true (by omega)
    have hdk':decide (k<3)=true:=decide_eq_true (by omega)
    have hk3:(k:Int)<3:=by omega
    have hw3:IntKind.i64.wrap ((k:Int)+1)=((k+1:Nat):Int):=by rw[IntKind.wrap_i64];omega
    have hix:Hid (∀w,(Instr.index 25 (.agg (ah X.D)) (.int .i64 k)).run Tryz.prog w=.ok (.int .i64 (X.D k)) w):=fun w=>yp X.D hkn w
    have B1:=HD.out k hkn
    have B2:=HT.out k hkn
    have B3:=HR.out k hkn
    have B4:=HS.out k hkn
    have B5:=rX (To k-X.D k)
    have B6:-4456448<=D2 k/\D2 k<=4456448:=by
     first
     |(have ed:=HT2.out k;rw[ed];omega)
     |(have ed:=congrFun HT2.out k;rw[ed];omega)
    have s1:V.rate k>>>2=V.rate k/4:=Int.shiftRight_eq_div_pow _ _
    have s2:IntKind.i64.wrap (V.rate k/4)=V.rate k/4:=by rw[IntKind.wrap_i64];omega
    have s3:IntKind.i64.wrap (V.rate k/4-D2 k)=V.rate k/4-D2 k:=by rw[IntKind.wrap_i64];omega
    have s4:IntKind.i64.wrap (cZ V.sp k+(V.rate k/4-D2 k))=cZ V.sp k+(V.rate k/4-D2 k):=by rw[IntKind.wrap_i64];omega
    have ev:cZ V.sp k+(V.rate k/4-D2 k)=jv V D2 k:=rfl
    first
     | (have ed:=HT2.out k
        rw[ed]at s3 s4 ev
        have a1:IntKind.i64.wrap (To k-X.D k)=To k-X.D k:=by rw[IntKind.wrap_i64];omega
        have a2:IntKind.i64.wrap (X.D k+aI (To k-X.D k) (-262144) 262144)=X.D k+aI (To k-X.D k) (-262144) 262144:=by rw[IntKind.wrap_i64];omega
        have CL:=Lib.hid (fun w=>i4 (To k-X.D k) (-262144) 262144 w)
        clear B1 B2 B3 B4 B5 B6
        replace ed:=Lib.hid ed.symm
        replace ev:=Lib.hid ev
        have hct:wr.cell? ⟨tw_b,k,none⟩=some (.int .i64 (To k)):=tw.cellIs (az _ hkn)
        go_upto_region 14 with(first
         |(go_at_call 72;with_reducible refine(CL.out _).mono ?_;rintro e wr ⟨rfl,rfl⟩)
         |(refine aZ ?hw _ _ _ rfl _ rfl k _ rfl rfl _ hix.out ?_;(case hw=>(first|rfl|(simp[Region.wanted,yielded];done)))))
        clear hct CL hix
        have lt_v:=v.lt
        have lt_r:=r.lt
        have lt_sv:=sv.lt
        have lt_g:=g.lt
        have lt_tw:=tw.lt
        have lt_rs:=rs.lt
        have hW0:w.heap.size<=wr.heap.size:=by simpa using hB.size
        apply ay 8 [0,1,3,7,15,31,63,127] [] [_,_,_,_,_,_,_,(fun _=>undef)] (fun p L w'=>wr.heap.size<=w'.heap.size/\co b b w w'/\af w' w.heap.size (jz V) 67/\af w' (w.heap.size+1) (aj fun _=>0) 22/\af w' sb (cy (V.sp,V.f)) 126/\af w' b (bif L 7 then(d9 ⟨cV D2 X.D (k+1),A,X.P,X.g⟩)else(d9 ⟨cV D2 X.D k,A,X.P,X.g⟩)) 89/\af w' tw_b (ah To) 25/\af w' rs_b (ah (cV (jv V D2) (cZ V.sp) k)) 25) _ [(0,79),(1,80),(2,81),(3,82),(4,83),(5,84),(6,85)] [0,1,2,3,4,5,6,7]
        case hn=>rfl
        case hB=>kernel_rfl
        case hds=>kernel_rfl
        case hA=>(intro p;simp only[rB,Act.put,aL,aM,aN,Lq,K6];exact rfl)
        case h0=>exact fun p=>⟨Nat.le_refl _,hB,v,r,sv,g,tw,rs⟩
        case hmore=>exact fun p L w1 w2 ⟨hsz,hB,v,r,sv,g,tw,rs⟩ hm=>⟨Nat.le_trans hsz hm.size,hB.trans (hm.mono (Nat.le_trans hW0 hsz)),v.below hm v.lt,r.below hm r.lt,sv.below hm sv.lt,g.below hm g.lt,tw.below hm tw.lt,rs.below hm rs.lt⟩
        case hs=>
         intro more
         iterate 7 (refine aH ?_)
         refine aw.cons ?_ ?_
         ·refine fJ 7 rfl (fun p=>rfl) (fun p=>rfl) (fun _=>b) (k) (fun p=>.int .i64 (X.D k+aI (To k-X.D k) (-262144) 262144)) (fun p=>(d9 ⟨cV D2 X.D k,A,X.P,X.g⟩)) (fun p=>(d9 ⟨cV D2 X.D (k+1),A,X.P,X.g⟩)) 89 (fun p=>Hq _ _ _ hkn _ ed.out) ?_ ?_ ?_
          ·rintro p L w1 ⟨hsz,hB,v,r,sv,g,tw,rs⟩ hk
           have L7:L 7=false:=hk.1
           rw[L7]at g
           try simp only[cond_true,cond_false]at g
           exact g
          ·intro p w1 hb
           have fz:w1.frozen? ⟨b,k,none⟩=false:=hb.free _
           have cz:∃u,w1.cell? ⟨b,k,none⟩=some u:=⟨_,hb.cellIs (JR _ hkn)⟩
           obtain⟨u,cz⟩:=cz
           go_simp
           try exact⟨_,rfl,by first|exact .inl rfl|exact .inr rfl⟩
          ·rintro p L w1 ⟨hsz,hB,v,r,sv,g,tw,rs⟩ hk
           have L7:L 7=false:=hk.1
           refine⟨(by simpa using hsz),hB.row (by first|exact .inr (Nat.le_trans hW0 hp.1)|exact .inr ge_g|exact .inl ⟨Nat.le_refl _,Nat.le_refl _⟩|omega|(have:=hB.size;simp at this|-;omega)) _,v.rowOther ne_v_g _,r.rowOther ne_r_g _,sv.rowOther ne_sv_g _,?_,tw.rowOther (Ne.symm ne_g_tw) _,rs.rowOther (Ne.symm ne_g_rs) _⟩
           rw[show cD L 7 7=true from rfl]
           exact g.row _
         exact aw.nil
        case hV0=>exact fun p q=>aw.nil
        case' he=>
        clear hB v r sv g tw rs
        rintro p wr ⟨hsz,hB,v,r,sv,g,tw,rs⟩
        replace g:af wr b (d9 ⟨cV D2 X.D (k+1),A,X.P,X.g⟩) 89:=g
        clear lt_v lt_r lt_sv lt_g lt_tw lt_rs hsz hW0
        go_upto_region 15 with(fail))
     | (have ed:=HT2.out
        rw[congrFun ed k]at s3 s4 ev
        clear B1 B2 B3 B4 B5 B6
        replace ev:=Lib.hid ev
        replace ed:=Lib.hid ed
        go_upto_region 15 with(refine aZ ?hw _ _ _ rfl _ rfl k _ rfl rfl _ hix.out ?_;(case hw=>(first|rfl|(simp[Region.wanted,yielded];done))))
        clear hix
        rw[yH ed.out,<-yH ed.out (k+1)]at g)
    have lt_v:=v.lt
    have lt_r:=r.lt
    have lt_sv:=sv.lt
    have lt_g:=g.lt
    have lt_tw:=tw.lt
    have lt_rs:=rs.lt
    have hW0:w.heap.size<=wr.heap.size:=by simpa using hB.size
    apply a_ 13 [0,1,3,0,0,24,56,120,0,504,1023,2047,4095] [] [_,_,_,_,_,_,_,_,_,_,_,_,(fun _=>undef)] (fun p L w'=>wr.heap.size<=w'.heap.size/\co b b w w'/\af w' w.heap.size (jz V) 67/\af w' (w.heap.size+1) (aj fun _=>0) 22/\af w' sb (cy (V.sp,V.f)) 126/\af w' b (d9 ⟨cV D2 X.D (k+1),A,X.P,X.g⟩) 89/\af w' tw_b (ah To) 25/\af w' rs_b (bif L 12 then(ah (cV (jv V D2) (cZ V.sp) (k+1)))else(ah (cV (jv V D2) (cZ V.sp) k))) 25) _ [(0,86),(1,87),(2,88),(3,89),(4,90),(5,91),(6,92),(7,93),(8,94),(9,95),(10,96),(11,97)] [0,1,2,3,4,5,6,7,8,9,10,11,12]
    case hn=>rfl
    case hm=>kernel_rfl
    case hB=>kernel_rfl
    case hds=>kernel_rfl
    case hA=>(intro p;simp only[rB,Act.put,aL,aM,aN,Lq,K6];exact rfl)
    case h0=>exact fun p=>⟨Nat.le_refl _,hB.drew,v.drew,r.drew,sv.drew,g.drew,tw.drew,rs.drew⟩
    case hmore=>exact fun p L w1 w2 ⟨hsz,hB,v,r,sv,g,tw,rs⟩ hm=>⟨Nat.le_trans hsz hm.size,hB.trans (hm.mono (Nat.le_trans hW0 hsz)),v.below hm v.lt,r.below hm r.lt,sv.below hm sv.lt,g.below hm g.lt,tw.below hm tw.lt,rs.below hm rs.lt⟩
    case hs=>
     intro more
     iterate 2 (refine aH ?_)
     refine cm ?_ ?_
     ·rintro p L w1 ⟨hsz,hB,v,r,sv,g,tw,rs⟩ hk
      have L12:L 12=false:=hk.2.2 12 rfl
      rw[L12]at rs
      try simp only[cond_true,cond_false]at rs
      have hc:w1.cell? ⟨rs_b,k,none⟩=some (.int .i64 (cZ V.sp k)):=by have:=rs.cellIs (az _ hkn);rw[Fc (Nat.le_refl k)]at this;exact this
      go_simp
      exact⟨rfl,rfl⟩
     iterate 3 (refine aH ?_)
     refine cm ?_ ?_
     ·rintro p L w1 ⟨hsz,hB,v,r,sv,g,tw,rs⟩ hk
      have L12:L 12=false:=hk.2.2 12 rfl
      have hc:w1.cell? ⟨w.heap.size,k,none⟩=some (.int .i64 (V.rate k)):=v.cellIs (Kd V hkn)
      go_simp
      exact⟨rfl,rfl⟩
     iterate 5 (refine aH ?_)
     refine aw.cons ?_ ?_
     ·refine fJ 12 rfl (fun p=>rfl) (fun p=>rfl) (fun _=>rs_b) (k) (fun p=>.int .i64 _) (fun p=>(ah (cV (jv V D2) (cZ V.sp) k))) (fun p=>(ah (cV (jv V D2) (cZ V.sp) (k+1)))) 25 (fun p=>JP hkn _ ev.out) ?_ ?_ ?_
      ·rintro p L w1 ⟨hsz,hB,v,r,sv,g,tw,rs⟩ hk
       have L12:L 12=false:=hk.1
       rw[L12]at rs
       try simp only[cond_true,cond_false]at rs
       exact rs
      ·intro p w1 hb
       have fz:w1.frozen? ⟨rs_b,k,none⟩=false:=hb.free _
       have cz:∃u,w1.cell? ⟨rs_b,k,none⟩=some u:=⟨_,hb.cellIs (az _ hkn)⟩
       obtain⟨u,cz⟩:=cz
       go_simp
       try exact⟨_,rfl,by first|exact .inl rfl|exact .inr rfl⟩
      ·rintro p L w1 ⟨hsz,hB,v,r,sv,g,tw,rs⟩ hk
       have L12:L 12=false:=hk.1
       refine⟨(by simpa using hsz),hB.row (by first|exact .inr (Nat.le_trans hW0 hp.1)|exact .inr ge_rs|exact .inl ⟨Nat.le_refl _,Nat.le_refl _⟩|omega|(have:=hB.size;simp at this|-;omega)) _,v.rowOther ne_v_rs _,r.rowOther ne_r_rs _,sv.rowOther ne_sv_rs _,g.rowOther ne_g_rs _,tw.rowOther ne_tw_rs _,?_⟩
       rw[show cD L 12 12=true from rfl]
       exact rs.row _
     exact aw.nil
    case hV0=>exact fun p q=>aw.nil
    case he=>
    clear hB v r sv g tw rs
    rintro p wrrr ⟨hsz,hB,v,r,sv,g,tw,rs⟩
    replace rs:af wrrr rs_b (ah (cV (jv V D2) (cZ V.sp) (k+1))) 25:=rs
    clear lt_v lt_r lt_sv lt_g lt_tw lt_rs hsz hW0
    go_wp2_with (fail)
    go_roundg (3-(k+1))
    case rel=>
     exact⟨k+1,by omega,rfl,v,r,sv,g,tw,rs,hB⟩
    case measure=>omega
   ·obtain rfl:k=3:=by omega
    rw[HW]at rs
    rw[FH]at g
    go_upto_region 17 with(fail)
    have lt_v:=v.lt
    have lt_r:=r.lt
    have lt_sv:=sv.lt
    have lt_g:=g.lt
    have lt_tw:=tw.lt
    have lt_rs:=rs.lt
    have hW0:w.heap.size<=wr.heap.size:=by simpa using hB.size
    apply ay 12 [0,1,3,7,15,31,63,127,255,511,1023,2047] [] [_,_,_,_,_,_,_,_,_,_,_,(fun _=>undef)] (fun p L w'=>wr.heap.size<=w'.heap.size/\co b b w w'/\af w' w.heap.size (jz V) 67/\af w' (w.heap.size+1) (aj fun _=>0) 22/\af w' sb (cy (V.sp,V.f)) 126/\af w' b (bif L 11 then(d9 ⟨D2,A,(oA V D2),X.g⟩)else(d9 ⟨D2,A,X.P,X.g⟩)) 89/\af w' tw_b (ah To) 25/\af w' rs_b (ah (jv V D2)) 25) _ [(0,100),(1,101),(2,102),(3,103),(4,104),(5,99),(6,105),(7,106),(8,107),(9,108),(10,109)] [0,1,2,3,4,5,6,7,8,9,10,11]
    case hn=>rfl
    case hB=>kernel_rfl
    case hds=>kernel_rfl
    case hA=>(intro p;simp only[rB,Act.put,aL,aM,aN,Lq,K6];exact rfl)
    case h0=>exact fun p=>⟨Nat.le_refl _,hB,v,r,sv,g,tw,rs⟩
    case hmore=>exact fun p L w1 w2 ⟨hsz,hB,v,r,sv,g,tw,rs⟩ hm=>⟨Nat.le_trans hsz hm.size,hB.trans (hm.mono (Nat.le_trans hW0 hsz)),v.below hm v.lt,r.below hm r.lt,sv.below hm sv.lt,g.below hm g.lt,tw.below hm tw.lt,rs.below hm rs.lt⟩
    case hs=>
     intro more
     refine aH ?_
     refine cm ?_ ?_
     ·rintro p L w1 ⟨hsz,hB,v,r,sv,g,tw,rs⟩ hk
      have L11:L 11=false:=hk.2.2 11 rfl
      first|exact br _ _ rfl _ rfl _ _ rs _ Tryz.underlying25 rfl (by first|kernel_rfl|(rw[ad];kernel_rfl)) rfl|(have hc:=rs.cellIs (az _ (show 0<3 by omega));go_simp;exact⟨rfl,rfl⟩)
     refine aH ?_
     refine cm ?_ ?_
     ·rintro p L w1 ⟨hsz,hB,v,r,sv,g,tw,rs⟩ hk
      have L11:L 11=false:=hk.2.2 11 rfl
      have hc:w1.cell? ⟨w.heap.size,7,none⟩=some (.int .i64 V.f):=v.cellIs rfl
      go_simp
      exact⟨rfl,rfl⟩
     refine bS 4 rfl (fun p=>rfl) (fun _ _ _ h=>h) more ?_ ?_
     ·rintro p L w1 ⟨hsz,hB,v,r,sv,g,tw,rs⟩ hk
      go_simp
      refine(AL.out _).mono ?_
      rintro e w2 ⟨rfl,h2⟩
      first|exact⟨rfl,h2⟩|(subst h2;exact⟨rfl,Below.refl _ _⟩)
     iterate 6 (refine aH ?_)
     refine aw.cons ?_ ?_
     ·refine aA 11 rfl (fun p=>rfl) (fun p=>rfl) _ _ _ rfl (fun _=>b) 6 (fun p=>rfl) (fun p=>(aj (oA V D2))) (fun p=>rfl) (fun p=>(d9 ⟨D2,A,X.P,X.g⟩)) (fun p=>(d9 ⟨D2,A,(oA V D2),X.g⟩)) 89 (fun p=>Gb _ _ _ _ _) (fun p=>by first|(rw[ak,mi];decide)|simp[ak,mi]) (fun p=>by rw[ak];kernel_rfl) (fun p=>bF _) ?_ ?_
      ·rintro p L w1 ⟨hsz,hB,v,r,sv,g,tw,rs⟩ hk
       have L11:L 11=false:=hk.1
       rw[L11]at g
       try simp only[cond_true,cond_false]at g
       exact g
      ·rintro p L w1 ⟨hsz,hB,v,r,sv,g,tw,rs⟩ hk
       have L11:L 11=false:=hk.1
       skip
       refine⟨(by simpa using hsz),hB.row (by first|exact .inr (Nat.le_trans hW0 hp.1)|exact .inr ge_g|exact .inl ⟨Nat.le_refl _,Nat.le_refl _⟩|omega|(have:=hB.size;simp at this|-;omega)) _,v.rowOther ne_v_g _,r.rowOther ne_r_g _,sv.rowOther ne_sv_g _,?_,tw.rowOther (Ne.symm ne_g_tw) _,rs.rowOther (Ne.symm ne_g_rs) _⟩
       rw[show cD L 11 11=true from rfl]
       exact g.row _
     exact aw.nil
    case hV0=>exact fun p q=>aw.nil
    case he=>
    clear hB v r sv g tw rs
    rintro p wrr ⟨hsz,hB,v,r,sv,g,tw,rs⟩
    replace g:af wrr b (d9 ⟨D2,A,(oA V D2),X.g⟩) 89:=g
    clear lt_v lt_r lt_sv lt_g lt_tw lt_rs hsz hW0
    go_upto_region 18 with(fail)
    have lt_v:=v.lt
    have lt_r:=r.lt
    have lt_sv:=sv.lt
    have lt_g:=g.lt
    have lt_tw:=tw.lt
    have lt_rs:=rs.lt
    have hW0:w.heap.size<=wrr.heap.size:=by simpa using hB.size
    apply ay 5 [0,1,3,7,15] [] [_,_,_,_,(fun _=>undef)] (fun p L w'=>wrr.heap.size<=w'.heap.size/\co b b w w'/\af w' w.heap.size (jz V) 67/\af w' (w.heap.size+1) (aj fun _=>0) 22/\af w' sb (cy (V.sp,V.f)) 126/\af w' b (bif L 4 then(d9 ⟨D2,A,(oA V D2),true⟩)else(d9 ⟨D2,A,(oA V D2),X.g⟩)) 89/\af w' tw_b (ah To) 25/\af w' rs_b (ah (jv V D2)) 25) _ [(0,110),(1,111),(2,112),(3,113)] [0,1,2,3,4]
    case hn=>rfl
    case hB=>kernel_rfl
    case hds=>kernel_rfl
    case hA=>(intro p;simp only[rB,Act.put,aL,aM,aN,Lq,K6];exact rfl)
    case h0=>exact fun p=>⟨Nat.le_refl _,hB,v,r,sv,g,tw,rs⟩
    case hmore=>exact fun p L w1 w2 ⟨hsz,hB,v,r,sv,g,tw,rs⟩ hm=>⟨Nat.le_trans hsz hm.size,hB.trans (hm.mono (Nat.le_trans hW0 hsz)),v.below hm v.lt,r.below hm r.lt,sv.below hm sv.lt,g.below hm g.lt,tw.below hm tw.lt,rs.below hm rs.lt⟩
    case hs=>
     intro more
     iterate 4 (refine aH ?_)
     refine aw.cons ?_ ?_
     ·refine fJ 4 rfl (fun p=>rfl) (fun p=>rfl) (fun _=>b) (10) (fun p=>.bool true) (fun p=>(d9 ⟨D2,A,(oA V D2),X.g⟩)) (fun p=>(d9 ⟨D2,A,(oA V D2),true⟩)) 89 (fun p=>Jq _ _ _ _) ?_ ?_ ?_
      ·rintro p L w1 ⟨hsz,hB,v,r,sv,g,tw,rs⟩ hk
       have L4:L 4=false:=hk.1
       rw[L4]at g
       try simp only[cond_true,cond_false]at g
       exact g
      ·intro p w1 hb
       have fz:w1.frozen? ⟨b,10,none⟩=false:=hb.free _
       have cz:∃u,w1.cell? ⟨b,10,none⟩=some u:=⟨_,hb.cellIs (rfl)⟩
       obtain⟨u,cz⟩:=cz
       go_simp
       try exact⟨_,rfl,by first|exact .inl rfl|exact .inr rfl⟩
      ·rintro p L w1 ⟨hsz,hB,v,r,sv,g,tw,rs⟩ hk
       have L4:L 4=false:=hk.1
       refine⟨(by simpa using hsz),hB.row (by first|exact .inr (Nat.le_trans hW0 hp.1)|exact .inr ge_g|exact .inl ⟨Nat.le_refl _,Nat.le_refl _⟩|omega|(have:=hB.size;simp at this|-;omega)) _,v.rowOther ne_v_g _,r.rowOther ne_r_g _,sv.rowOther ne_sv_g _,?_,tw.rowOther (Ne.symm ne_g_tw) _,rs.rowOther (Ne.symm ne_g_rs) _⟩
       rw[show cD L 4 4=true from rfl]
       exact g.row _
     exact aw.nil
    case hV0=>exact fun p q=>aw.nil
    case he=>
    clear hB v r sv g tw rs
    rintro p wrrr ⟨hsz,hB,v,r,sv,g,tw,rs⟩
    replace g:af wrrr b (d9 ⟨D2,A,(oA V D2),true⟩) 89:=g
    clear lt_v lt_r lt_sv lt_g lt_tw lt_rs hsz hW0
    go_upto_region 19 with(fail)
    have lt_v:=v.lt
    have lt_r:=r.lt
    have lt_sv:=sv.lt
    have lt_g:=g.lt
    have lt_tw:=tw.lt
    have lt_rs:=rs.lt
    have hW0:w.heap.size<=wrrr.heap.size:=by simpa using hB.size
    apply ay 9 [0,1,3,7,15,31,63,127,255] [] [_,_,_,_,_,_,_,(fun _=>undef),_] (fun p L w'=>wrrr.heap.size<=w'.heap.size/\co b b w w'/\af w' w.heap.size (jz V) 67/\af w' (w.heap.size+1) (bif L 7 then(aj (dU V.sp V.f (oA V D2)))else(aj fun _=>0)) 22/\af w' sb (cy (V.sp,V.f)) 126/\af w' b (d9 ⟨D2,A,(oA V D2),true⟩) 89/\af w' tw_b (ah To) 25/\af w' rs_b (ah (jv V D2)) 25) _ [(0,114),(1,115),(2,116),(3,117),(4,118),(5,119),(6,120),(8,7)] [0,1,2,3,4,5,6,7,8]
    case hn=>rfl
    case hB=>kernel_rfl
    case hds=>kernel_rfl
    case hA=>(intro p;simp only[rB,Act.put,aL,aM,aN,Lq,K6];exact rfl)
    case h0=>exact fun p=>⟨Nat.le_refl _,hB,v,r,sv,g,tw,rs⟩
    case hmore=>exact fun p L w1 w2 ⟨hsz,hB,v,r,sv,g,tw,rs⟩ hm=>⟨Nat.le_trans hsz hm.size,hB.trans (hm.mono (Nat.le_trans hW0 hsz)),v.below hm v.lt,r.below hm r.lt,sv.below hm sv.lt,g.below hm g.lt,tw.below hm tw.lt,rs.below hm rs.lt⟩
    case hs=>
     intro more
     iterate 5 (refine aH ?_)
     refine cm ?_ ?_
     ·rintro p L w1 ⟨hsz,hB,v,r,sv,g,tw,rs⟩ hk
      have L7:L 7=false:=hk.2.2 7 rfl
      exact aO _ _ rfl _ 6 rfl _ _ g (aj (oA V D2)) (JW ⟨D2,A,(oA V D2),true⟩) _ Tryz.underlying22 rfl (by rw[ak];kernel_rfl) rfl
     refine bS 6 rfl (fun p=>rfl) (fun _ _ _ h=>h) more ?_ ?_
     ·rintro p L w1 ⟨hsz,hB,v,r,sv,g,tw,rs⟩ hk
      have L7:L 7=false:=hk.2.2 7 rfl
      go_simp
      refine(CM.out _ _ sv).mono ?_
      rintro e w2 ⟨rfl,h2⟩
      first|exact⟨rfl,h2⟩|(subst h2;exact⟨rfl,Below.refl _ _⟩)
     refine aw.cons ?_ ?_
     ·refine aA 7 rfl (fun p=>rfl) (fun p=>rfl) _ _ _ rfl (fun _=>(w.heap.size+1)) 0 (fun p=>rfl) (fun p=>(aj (dU V.sp V.f (oA V D2)))) (fun p=>rfl) (fun p=>(aj fun _=>0)) (fun p=>(aj (dU V.sp V.f (oA V D2)))) 22 (fun p=>dK _ _) (fun p=>by first|(rw[ak,ak];decide)|simp[ak,ak]) (fun p=>by rw[ak];kernel_rfl) (fun p=>bF _) ?_ ?_
      ·rintro p L w1 ⟨hsz,hB,v,r,sv,g,tw,rs⟩ hk
       have L7:L 7=false:=hk.1
       rw[L7]at r
       try simp only[cond_true,cond_false]at r
       exact r
      ·rintro p L w1 ⟨hsz,hB,v,r,sv,g,tw,rs⟩ hk
       have L7:L 7=false:=hk.1
       skip
       refine⟨(by simpa using hsz),hB.row (by first|exact .inr (Nat.le_trans hW0 hp.1)|exact .inr ge_r|exact .inl ⟨Nat.le_refl _,Nat.le_refl _⟩|omega|(have:=hB.size;simp at this|-;omega)) _,v.rowOther (by first|exact ne_v_r|exact Ne.symm ne_r_v|omega) _,?_,sv.rowOther (Ne.symm ne_r_sv) _,g.rowOther (Ne.symm ne_r_g) _,tw.rowOther (Ne.symm ne_r_tw) _,rs.rowOther (Ne.symm ne_r_rs) _⟩
       rw[show cD L 7 7=true from rfl]
       exact r.row _
     refine aH ?_
     exact aw.nil
    case hV0=>exact fun p q=>aw.nil
    case he=>
    clear hB v r sv g tw rs
    rintro p wrrrr ⟨hsz,hB,v,r,sv,g,tw,rs⟩
    replace r:af wrrrr (w.heap.size+1) (aj (dU V.sp V.f (oA V D2))) 22:=r
    clear lt_v lt_r lt_sv lt_g lt_tw lt_rs hsz hW0
    go_wp2_with (fail)
    refine bodyPost_ret (aq rfl _ _ _ _ _ _ _ rfl r Tryz.underlying22 rfl (by first|kernel_rfl|(rw[ak];kernel_rfl))) rfl ?_
    exact⟨rfl,g,hB⟩
end Go.Proofs.YtbhahonkhiiilaaGreat
