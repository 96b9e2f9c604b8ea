/-
  A tick.
-/
import Derived.Test.YtbhahonkhiiilaaGreatMc
import Derived.Test.YtbhahonkhiiilaaGreatMac
import Derived.Test.YtbhahonkhiiilaaGreatCnW
set_option linter.unusedSimpArgs false
set_option linter.unusedVariables false
set_option maxHeartbeats 20000000
namespace Go.Proofs.YtbhahonkhiiilaaGreat
open Go.RowKit PM Dt
section
variable{P:Program} {Q:Exit->Act->World->Prop} {l:List Oper} {M:List Nat} {vs:List ((Nat->Nat)->Value)} {R:(Nat->Nat)->(Nat->Bool)->World->Prop} {A:(Nat->Nat)->Act} {fr:List Nat} {o:Oper}
end
theorem co.wide2 {lo hi lo' hi':Nat} {a w:World} (h:co lo hi a w) (h1:lo'<=lo) (h2:hi<=hi'):co lo' hi' a w:=⟨h.os,h.tape,h.output,h.size,fun k hk ho=>h.block k hk oa⟩
theorem wj (X:dw) (V:n_) (q:Nat->Int) (b:Nat) (w:World) (hg:af w b (d9 X) 89) (ha:∀i,i<4->bu (V.att i)) (hq:∀i,i<4->bu (q i)) (hk:ce V=true) (hD:∀i,i<3->-4194304<=X.D i/\X.D i<=4194304) (hE:fF V.att q=0) (hL:∀i,i<4->-1099511627776<=am V.att q i/\am V.att q i<=1099511627776) (hT:∀i,i<3->-1099511627776<=aB (am V.att q) i/\aB (am V.att q) i<=1099511627776):
 Calls Tryz.prog 22 #[.pointer (some ⟨b,0,none⟩),.agg (jz V),.agg (aj q)] w fun e w'=>e=.returned (.tuple #[.agg (aj (ky X V (aB (am V.att q)))),.int .i64 0])/\Below w.heap.size (w.setRow b (d9 (mo X V (fun _=>0) (aB (am V.att q))))) w':=
 (Ar X V q b w hg ha hq hk hD hE hL hT).mono fun e w' ⟨he,hb,hs⟩=>⟨he,hs.toRow hg hb⟩
theorem Ks (X:cG) (S:dw) (A b B q:Nat->Int):(⟨bJ X.Q (cO X (ky S (aF X eW) (vP X A b B q))),(bif fG (dS X.T (cM (bJ X.Q (cO X (ky S (aF X eW) (vP X A b B q)))) (fun _=>0)))then(dS X.T (cM (bJ X.Q (cO X (ky S (aF X eW) (vP X A b B q)))) (fun _=>0)))else X.T),fX X (ky S (aF X eW) (vP X A b B q)),X.f⟩:cG)=Ew X S A b B q:=by
 unfold Ew gR iF
 rw[if_pos gZ]
 cases h:fG (dS X.T (cM (bJ X.Q (cO X (ky S (aF X eW) (vP X A b B q)))) (fun _=>0)))<;>simp[h,kY,jZ,vj]
def Lu (X:cG) (S:dw) (A b B q:Nat->Int):Nat->Int:=bif fG (dS X.T (cM (bJ X.Q (cO X (ky S (aF X eW) (vP X A b B q)))) (fun _=>0)))then(cM (bJ X.Q (cO X (ky S (aF X eW) (vP X A b B q)))) (fun _=>0))else fun _=>0
theorem Ak (X:cG) (S:dw) (A b B q:Nat->Int) (lo ob:Nat) (w:World) (ho:gh lo ob w X) (k:BI X):Calls Tryz.prog 26 #[.pointer (some ⟨ob,0,none⟩),.agg (aj (ky S (aF X eW) (vP X A b B q))),.agg (ah (fun _=>0))] w fun e w'=>e=.returned (.tuple #[.agg (ah (Lu X S A b B q)),.int .i64 0])/\gh lo ob w' (Ew X S A b B q)/\co lo ob w w':=by
 have h:=C3 X lo ob (ky S (aF X eW) (vP X A b B q)) (fun _=>0) w ho k.q k.s da (k.att _).1
 rw[Ks X S A b B q]at h
 exact h
set_option maxRecDepth 100000 in
theorem z8 (X:cG) (S:dw) (Ah bh Bs tq:Nat->Int) (ob gb fb sb lo lb:Nat) (w:World) (ho:m_ (ob,gb,fb,sb) lo lb w (X,S,(Ah,bh),r4 Bs 1099511627776)) (t:ut X S Ah bh Bs tq):Calls Tryz.prog 6 #[.pointer (some ⟨lb,0,none⟩),.agg (aj tq)] w fun e w'=>e=.returned (.bool true)/\m_ (ob,gb,fb,sb) lo lb w' (Ew X S Ah bh Bs tq,Ha X S Ah bh Bs tq,(aU (fV X Ah bh Bs) (ji X),b9 (fV X Ah bh Bs) bh (ji X)),r4 Bs 1099511627776)/\co lo lb w w':=by
 obtain⟨l1,l2,l3,l4,o,gy,f,st,g⟩:=ho
 replace l1:ob<gb:=l1
 replace l2:gb<fb:=l2
 replace l3:fb<sb:=l3
 replace l4:sb<lb:=l4
 have RA:=aa (fun w (h:gh lo ob w X)=>zg X lo ob w h t.k.q t.k.s)
 have RD:=aa (fun w (hg:af w gb (aj (r4 Bs 1099511627776)) 83)=>C_ (r4 Bs 1099511627776) (aJ 4 (aX X)) (fun _=>0) gb w hg (KD t.hB) t.okR da (fun i hi=>by have:=t.rate i hi;omega) (fun i _=>⟨da,da⟩))
 rw[show xQ (r4 Bs 1099511627776) (aJ 4 (aX X)) (fun _=>0)=G_ X Bs from rfl]at RD
 have SI:=aa (fun w (h:gh lo ob w X) (hg:af w lb (Ev (ob,gb,fb,sb)) 37)=>wA X lo ob gb fb sb lb w h hg oa t.k.q)
 have SO:=aa (fun a c w el=>wJ (La.gS X.Q) a 2 c w el da)
 rw[(La.og t.k.q t.k.v).1,show s7 (La.gS X.Q) 2=ji X from rfl]at SO
 have PD:=aa (fun w (hg:af w fb (bU (Ah,bh)) 85)=>B8 Ah bh (G_ X Bs) fb w hg t.F)
 rw[t.rd.1,t.rd.2]at PD
 have CO:=aa (fun w (hg:af w fb (bU (fV X Ah bh Bs,bh)) 85)=>E4 (fV X Ah bh Bs) bh (ji X) fb w hg t.F2 t.st.I)
 rw[wQ t.F2.v t.st.v]at CO
 have F3:=t.to.1
 have SP:=aa (fun w (h:gh lo ob w X)=>uY X lo ob w h)
 have FA:=aa (fun w (h:gh lo ob w X)=>u8 X lo ob w h)
 have AT:=aa (fun w (hg:af w fb (bU (aU (fV X Ah bh Bs) (ji X),b9 (fV X Ah bh Bs) bh (ji X))) 85)=>qE (aU (fV X Ah bh Bs) (ji X)) (b9 (fV X Ah bh Bs) bh (ji X)) fb w hg F3.nz)
 have PO:=aa (fun w (hg:af w sb (d9 S) 89)=>wj S (GD X (aU (fV X Ah bh Bs) (ji X))) tq sb w hg F3.i t.hK (Ja t.k t.n _) t.s.d (wQ F3.v t.hq) (fun i hi=>by have:=qZ F3.i t.hK F3.v t.hq hi;show _<=am (aU (fV X Ah bh Bs) (ji X)) tq i/\am (aU (fV X Ah bh Bs) (ji X)) tq i<=_;omega) (fun i hi=>by have:=t.to.2 i hi;unfold vP at this;show _<=aB (am (aU (fV X Ah bh Bs) (ji X)) tq) i/\aB (am (aU (fV X Ah bh Bs) (ji X)) tq) i<=_;omega))
 rw[show ky S (GD X (aU (fV X Ah bh Bs) (ji X))) (aB (am (GD X (aU (fV X Ah bh Bs) (ji X))).att tq))=ky S (aF X eW) (vP X Ah bh Bs tq)from rfl,show mo S (GD X (aU (fV X Ah bh Bs) (ji X))) (fun _=>0) (aB (am (GD X (aU (fV X Ah bh Bs) (ji X))).att tq))=Ha X S Ah bh Bs tq from rfl]at PO
 have TK:=aa (fun w (h:gh lo ob w X)=>Ak X S Ah bh Bs tq lo ob w h t.k)
 rw[<-aQ]at TK
 clear t F3
 replace o:gh lo ob w X:=o
 replace gy:af w gb (aj (r4 Bs 1099511627776)) 83:=gy
 replace f:af w fb (bU (Ah,bh)) 85:=f
 replace st:af w sb (d9 S) 89:=st
 have hV:Hid (#[Value.int .i64 (aJ 4 (aX X) 0),.int .i64 (aJ 4 (aX X) 1),.int .i64 (aJ 4 (aX X) 2),.int .i64 (X.h 0),.int .i64 (X.h 1),.int .i64 (X.h 2),.int .i64 (X.h 3),.int .i64 X.f,.int .i64 0,.int .i64 0,.int .i64 0,.int .i64 (aU (fV X Ah bh Bs) (ji X) 0),.int .i64 (aU (fV X Ah bh Bs) (ji X) 1),.int .i64 (aU (fV X Ah bh Bs) (ji X) 2),.int .i64 (aU (fV X Ah bh Bs) (ji X) 3)]=jz (GD X (aU (fV X Ah bh Bs) (ji X)))):=rfl
 generalize GD X (aU (fV X Ah bh Bs) (ji X))=Vs at *
 generalize Ew X S Ah bh Bs tq=Xn at *
 generalize Ha X S Ah bh Bs tq=Sn at *
 generalize Lu X S Ah bh Bs tq=Tc at *
 generalize ky S (aF X eW) (vP X Ah bh Bs tq)=Cm at *
 generalize b9 (fV X Ah bh Bs) bh (ji X)=Cb at *
 generalize aU (fV X Ah bh Bs) (ji X)=Ca at *
 generalize fV X Ah bh Bs=Am at *
 generalize ji X=sp at *
 generalize G_ X Bs=Rg at *
 generalize r4 Bs 1099511627776=Gy at *
 generalize La.gS X.Q=SK at *
 generalize aJ 4 (aX X)=Rt at *
 have lolt:=o.lolt
 go_enter Tryz.func6,Tryz.ntmps6
 go_upto_region 1 with(fail)
 have q:af (w.alloc (.cells (aj tq) 23)) w.heap.size (aj tq) 23:=af.new _ _ _
 have hB:Below w.heap.size w (w.alloc (.cells (aj tq) 23)):=by go_grown
 generalize(w.alloc (.cells (aj tq) 23))=w0 at *
 have hl0:=g.lt
 replace o:=o.below hB o.lt
 replace gy:=gy.below hB gy.lt
 replace f:=f.below hB f.lt
 replace st:=st.below hB st.lt
 replace g:=g.below hB g.lt
 replace hB:co lo lb w w0:=co.of hB
 have ne_q_g:w.heap.size≠lb:=oa
 have ne_q_gy:w.heap.size≠gb:=oa
 have ne_q_f:w.heap.size≠fb:=oa
 have ne_q_st:w.heap.size≠sb:=oa
 have out_q:ob<w.heap.size:=oa
 have ne_g_gy:lb≠gb:=oa
 have ne_g_f:lb≠fb:=oa
 have ne_g_st:lb≠sb:=oa
 have out_g:ob<lb:=oa
 have ne_gy_f:gb≠fb:=oa
 have ne_gy_st:gb≠sb:=oa
 have out_gy:ob<gb:=oa
 have ne_f_st:fb≠sb:=oa
 have out_f:ob<fb:=oa
 have out_st:ob<sb:=oa
 have lt_q:=q.lt
 have lt_g:=g.lt
 have lt_gy:=gy.lt
 have lt_f:=f.lt
 have lt_st:=st.lt
 have lt_o:=o.lt
 have hW0:w.heap.size<=w0.heap.size:=by simpa using hB.size
 apply a_ 17 [0,1,3,7,0,16,48,112,240,0,1023,2047,4095,4095,0,24575,65535] [14] [_,_,_,_,_,_,_,_,_,_,_,_,_,_,(fun p=>.pointer (some ⟨p 14,0,none⟩)),(fun _=>undef),_] (fun p L w'=>w0.heap.size<=w'.heap.size/\co lo lb w w'/\af w' w.heap.size (aj tq) 23/\af w' lb (Ev (ob,gb,fb,sb)) 37/\af w' gb (aj Gy) 83/\af w' fb (bU (Ah,bh)) 85/\af w' sb (d9 S) 89/\gh lo ob w' (X)/\(L 14=true->w0.heap.size<=p 14/\af w' (p 14) (bif L 15 then(ah Rg)else(ah fun _=>0)) 25)) _ [(0,14),(1,15),(2,16),(3,17),(4,18),(5,19),(6,20),(7,21),(8,22),(9,23),(10,24),(11,13),(12,25),(13,26),(14,5),(16,6)] [0,1,2,3,4,5,6,7,8,9,10,11,12,13,14,15,16]
 case hn|hm|hB|hds|hA=>exact rA
 case h0=>exact rH
 case hmore=>exact fun p L w1 w2 ⟨hsz,hB,q,g,gy,f,st,o,h_y⟩ hm=>⟨Nat.le_trans hsz hm.size,hB.trans (hm.mono (Nat.le_trans hW0 hsz)),q.below hm q.lt,g.below hm g.lt,gy.below hm gy.lt,f.below hm f.lt,st.below hm st.lt,o.below hm o.lt,fun hl=>⟨(h_y hl).1,(h_y hl).2.below hm (h_y hl).2.lt⟩⟩
 case hs=>
  intro more
  iterate 3 (refine aH ?_)
  refine cm ?_ ?_
  ·rintro p L w1 ⟨hsz,hB,q,g,gy,f,st,o,h_y⟩ hk
   have hc:w1.cell? ⟨lb,1,none⟩=some (.pointer (some ⟨gb,0,none⟩)):=g.cellIs rfl
   go_simp
   exact⟨rfl,rfl⟩
  iterate 3 (refine aH ?_)
  refine cm ?_ ?_
  ·rintro p L w1 ⟨hsz,hB,q,g,gy,f,st,o,h_y⟩ hk
   have hc:w1.cell? ⟨lb,0,none⟩=some (.pointer (some ⟨ob,0,none⟩)):=g.cellIs rfl
   go_simp
   exact⟨rfl,rfl⟩
  refine bS 8 rfl (fun p=>rfl) (fun _ _ _ h=>h) more ?_ ?_
  ·rintro p L w1 ⟨hsz,hB,q,g,gy,f,st,o,h_y⟩ hk
   go_simp
   exact(RA.out _ o).mono rC
  refine cm ?_ ?_
  ·intros;(try simp only[ah,aj]);go_simp;exact⟨rfl,rfl⟩
  refine bS 10 rfl (fun p=>rfl) (fun _ _ _ h=>h) more ?_ ?_
  ·rintro p L w1 ⟨hsz,hB,q,g,gy,f,st,o,h_y⟩ hk
   go_simp
   rw[aQ]
   exact(RD.out _ gy).mono rC
  iterate 3 (refine aH ?_)
  refine aw.cons ?_ ?_
  ·refine aP 14 rfl (fun p=>rfl) rfl (ah fun _=>0) 25 (fun p=>rfl) ?_ ?_
   ·intro p w1
    go_simp
    first|done|rfl|rw[aQ]
   rintro p L w1 ⟨hsz,hB,q,g,gy,f,st,o,h_y⟩ hk
   have L15:L 15=false:=hk.2.2 15 rfl
   refine⟨nk hsz sd,hB.alloc (nk hW0 hsz) _,q.alloc _,g.alloc _,gy.alloc _,f.alloc _,st.alloc _,o.alloc _,fun _=>⟨hsz,?_⟩⟩
   rw[show cD L 14 15=false from L15]
   exact af.new _ _ _
  refine aw.cons ?_ ?_
  ·refine aA 15 rfl (fun p=>rfl) (fun p=>rfl) _ _ _ rfl (fun p=>p 14) 0 (fun p=>rfl) (fun p=>(ah Rg)) (fun p=>rfl) (fun p=>(ah fun _=>0)) (fun p=>(ah Rg)) 25 (fun p=>dH _ _) (fun p=>by first|(rw[ad,ad];decide)|simp[ad,ad]) (fun p=>by rw[ad];kernel_rfl) (fun p=>aG _) ?_ ?_
   ·rintro p L w1 ⟨hsz,hB,q,g,gy,f,st,o,h_y⟩ hk
    exact cg (h_y (hk.2.1 14 rfl)).2 hk.1
   ·rintro p L w1 ⟨hsz,hB,q,g,gy,f,st,o,h_y⟩ hk
    have hp:=h_y (hk.2.1 14 rfl)
    refine⟨(by simpa using hsz),hB.row (by first|exact .inr (nk hW0 hp.1)|exact .inr ge_y|exact .inl ⟨ns _,ns _⟩|omega|(have:=hB.size;simp at this|-;omega)) _,q.rowOther (nL lt_q hp.1) _,g.rowOther (nL lt_g hp.1) _,gy.rowOther (nL lt_gy hp.1) _,f.rowOther (nL lt_f hp.1) _,st.rowOther (nL lt_st hp.1) _,o.rowOther (.inr (nq lt_o hp.1)) _,fun _=>⟨hp.1,?_⟩⟩
    rw[show cD L 15 15=true from rfl]
    exact hp.2.row _
  refine aH ?_
  exact aw.nil
 case hV0=>exact rV
 case he=>
 clear hB q g gy f st o
 rintro p w0r ⟨hsz,hB,q,g,gy,f,st,o,h_y⟩
 obtain⟨le_y,y⟩:=h_y rfl
 clear h_y
 replace y:af w0r (p 14) (ah Rg) 25:=y
 have ne_q_y:w.heap.size≠p 14:=nN (nq lt_q le_y)
 have ne_g_y:lb≠p 14:=nN (nq lt_g le_y)
 have ne_gy_y:gb≠p 14:=nN (nq lt_gy le_y)
 have ne_f_y:fb≠p 14:=nN (nq lt_f le_y)
 have ne_st_y:sb≠p 14:=nN (nq lt_st le_y)
 have ne_o_y:ob≠p 14:=nN (nq lt_o le_y)
 have ge_y:w.heap.size<=p 14:=nk hW0 le_y
 have out_y:ob<p 14:=nq lt_o le_y
 generalize p 14=y_b at *
 clear lt_q lt_g lt_gy lt_f lt_st lt_o hsz hW0 RD
 go_upto_region 3 with(first
  |(go_at_call 19;with_reducible refine(SI.out _ o g).mono ?_;rintro e w5 ⟨sa,sc,rfl,hel,hb⟩;replace hB:=hB.trans (hb.mono hB.size);replace q:=q.below hb q.lt;replace g:=g.below hb g.lt;replace gy:=gy.below hb gy.lt;replace f:=f.below hb f.lt;replace st:=st.below hb st.lt;replace o:=o.below hb o.lt;replace y:=y.below hb y.lt;clear hb)
  |(go_at_call 18;with_reducible refine(SO.out _ _ _ hel).mono ?_;rintro e w6 ⟨rfl,hb⟩;replace hB:=hB.trans (hb.mono hB.size);replace q:=q.below hb q.lt;replace g:=g.below hb g.lt;replace gy:=gy.below hb gy.lt;replace f:=f.below hb f.lt;replace st:=st.below hb st.lt;replace o:=o.below hb o.lt;replace y:=y.below hb y.lt;clear hb)
  |(rw[bP];refine ag rfl _ _ _ rfl _ rfl _ rfl _ _ (af.new _ _ _) rI (by first|rfl|simp only[ak]) (by first|exact bF _|rfl) ?_))
 clear SI SO hel
 have ne_q_z:w.heap.size≠w6.heap.size:=nN q.lt
 have ne_g_z:lb≠w6.heap.size:=nN g.lt
 have ne_gy_z:gb≠w6.heap.size:=nN gy.lt
 have ne_f_z:fb≠w6.heap.size:=nN f.lt
 have ne_st_z:sb≠w6.heap.size:=nN st.lt
 have ne_y_z:y_b≠w6.heap.size:=nN y.lt
 have z:=(af.new w6 (aj fun _=>0) 23).row (aj sp)
 replace hB:=(hB.alloc hB.size (.cells (aj fun _=>0) 23)).row (g:=w6.heap.size) (.inr hB.size) (aj sp)
 have hne:∀x,x<w6.heap.size->x≠w6.heap.size:=fun x hx=>nN hx
 have out_z:ob<w6.heap.size:=o.lt
 replace q:=(q.alloc (.cells (aj fun _=>0) 23)).rowOther (hne _ q.lt) (aj sp)
 replace g:=(g.alloc (.cells (aj fun _=>0) 23)).rowOther (hne _ g.lt) (aj sp)
 replace gy:=(gy.alloc (.cells (aj fun _=>0) 23)).rowOther (hne _ gy.lt) (aj sp)
 replace f:=(f.alloc (.cells (aj fun _=>0) 23)).rowOther (hne _ f.lt) (aj sp)
 replace st:=(st.alloc (.cells (aj fun _=>0) 23)).rowOther (hne _ st.lt) (aj sp)
 replace o:=(o.alloc (.cells (aj fun _=>0) 23)).rowOther (.inr o.lt) (aj sp)
 replace y:=(y.alloc (.cells (aj fun _=>0) 23)).rowOther (hne _ y.lt) (aj sp)
 clear hne
 generalize(w6.alloc (.cells (aj fun _=>0) 23)).setRow w6.heap.size (aj sp)=w6x at *
 generalize w6.heap.size=z_b at *
 have lt_q:=q.lt
 have lt_g:=g.lt
 have lt_gy:=gy.lt
 have lt_f:=f.lt
 have lt_st:=st.lt
 have lt_o:=o.lt
 have lt_y:=y.lt
 have lt_z:=z.lt
 have hW0:w.heap.size<=w6x.heap.size:=by simpa using hB.size
 apply a_ 24 [0,1,3,7,15,31,63,127,255,511,1023,127,4095,8191,16383,32767,65535,131071,262143,524287,65535,2097151,4194303,8388607] [] [_,_,_,_,_,_,_,_,_,_,_,_,_,_,_,_,_,_,_,_,_,_,_,_] (fun p L w'=>w6x.heap.size<=w'.heap.size/\co lo lb w w'/\af w' w.heap.size (aj tq) 23/\af w' lb (Ev (ob,gb,fb,sb)) 37/\af w' gb (aj Gy) 83/\af w' fb (bif L 21 then(bU (Ca,Cb))else(bif L 12 then(bU (Am,bh))else(bU (Ah,bh)))) 85/\af w' sb (d9 S) 89/\gh lo ob w' (X)/\af w' y_b (ah Rg) 25/\af w' z_b (aj sp) 23) _ [(0,33),(1,34),(2,35),(3,36),(4,37),(5,38),(6,39),(7,40),(8,41),(9,42),(10,43),(11,44),(12,45),(13,46),(14,47),(15,48),(16,49),(17,50),(18,51),(19,52),(20,53),(21,54),(22,55),(23,56)] [0,1,2,3,4,5,6,7,8,9,10,11,12,13,14,15,16,17,18,19,20,21,22,23]
 case hn|hm|hB|hds|hA=>exact rA
 case h0=>exact rH
 case hmore=>exact fun p L w1 w2 ⟨hsz,hB,q,g,gy,f,st,o,y,z⟩ hm=>⟨Nat.le_trans hsz hm.size,hB.trans (hm.mono (Nat.le_trans hW0 hsz)),q.below hm q.lt,g.below hm g.lt,gy.below hm gy.lt,f.below hm f.lt,st.below hm st.lt,o.below hm o.lt,y.below hm y.lt,z.below hm z.lt⟩
 case hs=>
  intro more
  iterate 3 (refine aH ?_)
  iterate 2 (refine bQ _ rfl (fun p=>rW) (fun _ _ _ h=>h) (by intros;go_simp;exact⟨rfl,rfl⟩) ?_)
  iterate 2 (refine aH ?_)
  iterate 3 (refine bQ _ rfl (fun p=>rW) (fun _ _ _ h=>h) (by intros;go_simp;exact⟨rfl,rfl⟩) ?_)
  refine bQ 10 rfl (fun p=>rW) (fun _ _ _ h=>h) ?_ ?_
  ·rintro p L w1 ⟨hsz,hB,q,g,gy,f,st,o,y,z⟩ hk
   first|exact br _ _ rfl _ rfl _ _ g _ Tryz.underlying37 rfl (by first|kernel_rfl|(rw[ug];kernel_rfl)) rfl|(have hc:=g.cellIs (show _[2]?=some _ from rfl);go_simp;exact⟨rfl,rfl⟩)
  refine bQ 11 rfl (fun p=>rW) (fun _ _ _ h=>h) ?_ ?_
  ·rintro p L w1 ⟨hsz,hB,q,g,gy,f,st,o,y,z⟩ hk
   first|exact br _ _ rfl _ rfl _ _ y _ yc rfl rI rfl|(have hc:=y.cellIs (az _ (show 0<3 by omega));go_simp;exact⟨rfl,rfl⟩)
  refine aw.cons ?_ ?_
  ·refine gw 12 rfl (fun p=>rW) (fun _=>fb) (fun p=>(bU (Am,bh))) ?_ ?_
   ·rintro p L w1 ⟨hsz,hB,q,g,gy,f,st,o,y,z⟩ hk
    have L12:L 12=false:=hk.1
    have L21:L 21=false:=hk.2.2 21 rfl
    rw[L12,L21]at f
    try simp only[cond_true,cond_false]at f
    go_simp
    exact(PD.out _ f).mono rC
   ·rintro p L w1 w2 ⟨hsz,hB,q,g,gy,f,st,o,y,z⟩ hk hm
    have L21:L 21=false:=hk.2.2 21 rfl
    refine⟨nk hsz (by have:=hm.size;simpa using this),(hB.row (by first|exact .inr (nk hW0 hp.1)|exact .inr ge_f|exact .inl ⟨ns _,ns _⟩|omega|(have:=hB.size;simp at this|-;omega)) _).trans (hm.mono (nk hW0 hsz)),(q.rowOther ne_q_f _).below hm (by simpa using q.lt),(g.rowOther ne_g_f _).below hm (by simpa using g.lt),(gy.rowOther ne_gy_f _).below hm (by simpa using gy.lt),?_,(st.rowOther (Ne.symm ne_f_st) _).below hm (by simpa using st.lt),(o.rowOther (by first|exact .inr out_f|exact .inl out_f|omega) _).below hm (by simpa using o.lt),(y.rowOther (Ne.symm ne_f_y) _).below hm (by simpa using y.lt),(z.rowOther (Ne.symm ne_f_z) _).below hm (by simpa using z.lt)⟩
    rw[show cD L 12 21=false from L21,show cD L 12 12=true from rfl]
    exact(f.row _).below hm (by simpa using f.lt)
  refine bQ _ rfl (fun p=>rW) (fun _ _ _ h=>h) (by intros;go_simp;exact⟨rfl,rfl⟩) ?_
  iterate 2 (refine aH ?_)
  iterate 3 (refine bQ _ rfl (fun p=>rW) (fun _ _ _ h=>h) (by intros;go_simp;exact⟨rfl,rfl⟩) ?_)
  refine bQ 19 rfl (fun p=>rW) (fun _ _ _ h=>h) ?_ ?_
  ·rintro p L w1 ⟨hsz,hB,q,g,gy,f,st,o,y,z⟩ hk
   first|exact br _ _ rfl _ rfl _ _ g _ Tryz.underlying37 rfl (by first|kernel_rfl|(rw[ug];kernel_rfl)) rfl|(have hc:=g.cellIs (show _[2]?=some _ from rfl);go_simp;exact⟨rfl,rfl⟩)
  refine bQ 20 rfl (fun p=>rW) (fun _ _ _ h=>h) ?_ ?_
  ·rintro p L w1 ⟨hsz,hB,q,g,gy,f,st,o,y,z⟩ hk
   first|exact br _ _ rfl _ rfl _ _ z _ yb rfl rI rfl|(have hc:=z.cellIs (aD _ (show 0<4 by omega));go_simp;exact⟨rfl,rfl⟩)
  refine aw.cons ?_ ?_
  ·refine gw 21 rfl (fun p=>rW) (fun _=>fb) (fun p=>(bU (Ca,Cb))) ?_ ?_
   ·rintro p L w1 ⟨hsz,hB,q,g,gy,f,st,o,y,z⟩ hk
    have L12:L 12=true:=hk.2.1 12 rfl
    have L21:L 21=false:=hk.1
    rw[L12,L21]at f
    try simp only[cond_true,cond_false]at f
    go_simp
    exact(CO.out _ f).mono rC
   ·rintro p L w1 w2 ⟨hsz,hB,q,g,gy,f,st,o,y,z⟩ hk hm
    refine⟨nk hsz (by have:=hm.size;simpa using this),(hB.row (by first|exact .inr (nk hW0 hp.1)|exact .inr ge_f|exact .inl ⟨ns _,ns _⟩|omega|(have:=hB.size;simp at this|-;omega)) _).trans (hm.mono (nk hW0 hsz)),(q.rowOther ne_q_f _).below hm (by simpa using q.lt),(g.rowOther ne_g_f _).below hm (by simpa using g.lt),(gy.rowOther ne_gy_f _).below hm (by simpa using gy.lt),?_,(st.rowOther (Ne.symm ne_f_st) _).below hm (by simpa using st.lt),(o.rowOther (by first|exact .inr out_f|exact .inl out_f|omega) _).below hm (by simpa using o.lt),(y.rowOther (Ne.symm ne_f_y) _).below hm (by simpa using y.lt),(z.rowOther (Ne.symm ne_f_z) _).below hm (by simpa using z.lt)⟩
    rw[show cD L 21 21=true from rfl]
    exact(f.row _).below hm (by simpa using f.lt)
  refine bQ _ rfl (fun p=>rW) (fun _ _ _ h=>h) (by intros;go_simp;exact⟨rfl,rfl⟩) ?_
  refine aH ?_
  exact aw.nil
 case hV0=>exact fun p q=>aw.nil
 case he=>
 clear hB q g gy f st o y z
 rintro p w6xr ⟨hsz,hB,q,g,gy,f,st,o,y,z⟩
 replace f:af w6xr fb (bU (Ca,Cb)) 85:=f
 clear lt_q lt_g lt_gy lt_f lt_st lt_o lt_y lt_z hsz hW0 PD CO
 go_upto_region 5 with(fail)
 have lt_q:=q.lt
 have lt_g:=g.lt
 have lt_gy:=gy.lt
 have lt_f:=f.lt
 have lt_st:=st.lt
 have lt_o:=o.lt
 have lt_y:=y.lt
 have lt_z:=z.lt
 have hW0:w.heap.size<=w6xr.heap.size:=by simpa using hB.size
 apply a_ 33 [0,1,3,7,0,16,48,112,240,0,512,1536,3584,8176,0,16384,49152,114688,262128,0,524288,1572864,3670016,8388592,16777200,0,67108863,134217727,268435455,268435455,0,1610612735,4294967295] [30] [_,_,_,_,_,_,_,_,_,_,_,_,_,_,_,_,_,_,_,_,_,_,_,_,_,_,_,_,_,_,(fun p=>.pointer (some ⟨p 30,0,none⟩)),(fun _=>undef),_] (fun p L w'=>w6xr.heap.size<=w'.heap.size/\co lo lb w w'/\af w' w.heap.size (aj tq) 23/\af w' lb (Ev (ob,gb,fb,sb)) 37/\af w' gb (aj Gy) 83/\af w' fb (bU (Ca,Cb)) 85/\af w' sb (bif L 26 then(d9 Sn)else(d9 S)) 89/\gh lo ob w' (X)/\af w' y_b (ah Rg) 25/\af w' z_b (aj sp) 23/\(L 30=true->w6xr.heap.size<=p 30/\af w' (p 30) (bif L 31 then(aj Cm)else(aj fun _=>0)) 22)) _ [(0,58),(1,59),(2,60),(3,61),(4,62),(5,63),(6,64),(7,65),(8,66),(9,67),(10,68),(11,69),(12,70),(13,71),(14,72),(15,73),(16,74),(17,75),(18,76),(19,77),(20,78),(21,79),(22,80),(23,81),(24,82),(25,83),(26,84),(27,57),(28,85),(29,86),(30,9),(32,10)] [0,1,2,3,4,5,6,7,8,9,10,11,12,13,14,15,16,17,18,19,20,21,22,23,24,25,26,27,28,29,30,31,32]
 case hn|hm|hB|hds|hA=>exact rA
 case h0=>exact rH
 case hmore=>exact fun p L w1 w2 ⟨hsz,hB,q,g,gy,f,st,o,y,z,h_c⟩ hm=>⟨Nat.le_trans hsz hm.size,hB.trans (hm.mono (Nat.le_trans hW0 hsz)),q.below hm q.lt,g.below hm g.lt,gy.below hm gy.lt,f.below hm f.lt,st.below hm st.lt,o.below hm o.lt,y.below hm y.lt,z.below hm z.lt,fun hl=>⟨(h_c hl).1,(h_c hl).2.below hm (h_c hl).2.lt⟩⟩
 case hs=>
  intro more
  iterate 3 (refine aH ?_)
  refine cm ?_ ?_
  ·rintro p L w1 ⟨hsz,hB,q,g,gy,f,st,o,y,z,h_c⟩ hk
   have hc:w1.cell? ⟨lb,3,none⟩=some (.pointer (some ⟨sb,0,none⟩)):=g.cellIs rfl
   go_simp
   exact⟨rfl,rfl⟩
  iterate 3 (refine aH ?_)
  refine cm ?_ ?_
  ·rintro p L w1 ⟨hsz,hB,q,g,gy,f,st,o,y,z,h_c⟩ hk
   have hc:w1.cell? ⟨lb,0,none⟩=some (.pointer (some ⟨ob,0,none⟩)):=g.cellIs rfl
   go_simp
   exact⟨rfl,rfl⟩
  refine bS 8 rfl (fun p=>rfl) (fun _ _ _ h=>h) more ?_ ?_
  ·rintro p L w1 ⟨hsz,hB,q,g,gy,f,st,o,y,z,h_c⟩ hk
   go_simp
   exact(RA.out _ o).mono rC
  iterate 3 (refine aH ?_)
  refine cm ?_ ?_
  ·rintro p L w1 ⟨hsz,hB,q,g,gy,f,st,o,y,z,h_c⟩ hk
   have hc:w1.cell? ⟨lb,0,none⟩=some (.pointer (some ⟨ob,0,none⟩)):=g.cellIs rfl
   go_simp
   exact⟨rfl,rfl⟩
  refine bS 13 rfl (fun p=>rfl) (fun _ _ _ h=>h) more ?_ ?_
  ·rintro p L w1 ⟨hsz,hB,q,g,gy,f,st,o,y,z,h_c⟩ hk
   go_simp
   exact(SP.out _ o).mono rC
  iterate 3 (refine aH ?_)
  refine cm ?_ ?_
  ·rintro p L w1 ⟨hsz,hB,q,g,gy,f,st,o,y,z,h_c⟩ hk
   have hc:w1.cell? ⟨lb,0,none⟩=some (.pointer (some ⟨ob,0,none⟩)):=g.cellIs rfl
   go_simp
   exact⟨rfl,rfl⟩
  refine bS 18 rfl (fun p=>rfl) (fun _ _ _ h=>h) more ?_ ?_
  ·rintro p L w1 ⟨hsz,hB,q,g,gy,f,st,o,y,z,h_c⟩ hk
   go_simp
   exact(FA.out _ o).mono rC
  iterate 3 (refine aH ?_)
  refine cm ?_ ?_
  ·rintro p L w1 ⟨hsz,hB,q,g,gy,f,st,o,y,z,h_c⟩ hk
   have hc:w1.cell? ⟨lb,2,none⟩=some (.pointer (some ⟨fb,0,none⟩)):=g.cellIs rfl
   go_simp
   exact⟨rfl,rfl⟩
  refine bS 23 rfl (fun p=>rfl) (fun _ _ _ h=>h) more ?_ ?_
  ·rintro p L w1 ⟨hsz,hB,q,g,gy,f,st,o,y,z,h_c⟩ hk
   go_simp
   exact(AT.out _ f).mono rC
  refine aw.cons ?_ ?_
  ·refine eK 24 rfl (fun p=>rfl) ?_ (fun _ _ _ h=>h)
   intros;simp only[aj,ah];go_simp;exact⟨congrArg Value.agg hV.out,rfl⟩
  refine cm ?_ ?_
  ·rintro p L w1 ⟨hsz,hB,q,g,gy,f,st,o,y,z,h_c⟩ hk
   first|exact br _ _ rfl _ rfl _ _ q _ yb rfl rI rfl|(have hc:=q.cellIs (aD _ (show 0<4 by omega));go_simp;exact⟨rfl,rfl⟩)
  refine aw.cons ?_ ?_
  ·refine gw 26 rfl (fun p=>rfl) (fun _=>sb) (fun p=>(d9 Sn)) ?_ ?_
   ·rintro p L w1 ⟨hsz,hB,q,g,gy,f,st,o,y,z,h_c⟩ hk
    have L26:L 26=false:=hk.1
    rw[L26]at st
    try simp only[cond_true,cond_false]at st
    go_simp
    exact(PO.out _ st).mono rC
   ·rintro p L w1 w2 ⟨hsz,hB,q,g,gy,f,st,o,y,z,h_c⟩ hk hm
    refine⟨nk hsz (by have:=hm.size;simpa using this),(hB.row (by first|exact .inr (nk hW0 hp.1)|exact .inr ge_st|exact .inl ⟨ns _,ns _⟩|omega|(have:=hB.size;simp at this|-;omega)) _).trans (hm.mono (nk hW0 hsz)),(q.rowOther ne_q_st _).below hm (by simpa using q.lt),(g.rowOther ne_g_st _).below hm (by simpa using g.lt),(gy.rowOther ne_gy_st _).below hm (by simpa using gy.lt),(f.rowOther ne_f_st _).below hm (by simpa using f.lt),?_,(o.rowOther (by first|exact .inr out_st|exact .inl out_st|omega) _).below hm (by simpa using o.lt),(y.rowOther (Ne.symm ne_st_y) _).below hm (by simpa using y.lt),(z.rowOther (Ne.symm ne_st_z) _).below hm (by simpa using z.lt),fun hl=>⟨(h_c hl).1,((h_c hl).2.rowOther (nG (nq lt_st (h_c hl).1)) _).below hm (by simpa using(h_c hl).2.lt)⟩⟩
    rw[show cD L 26 26=true from rfl]
    exact(st.row _).below hm (by simpa using st.lt)
  iterate 3 (refine aH ?_)
  refine aw.cons ?_ ?_
  ·refine aP 30 rfl (fun p=>rfl) rfl (aj fun _=>0) 22 (fun p=>rfl) ?_ ?_
   ·intro p w1
    go_simp
    first|done|rfl|rw[dp]
   rintro p L w1 ⟨hsz,hB,q,g,gy,f,st,o,y,z,h_c⟩ hk
   have L31:L 31=false:=hk.2.2 31 rfl
   refine⟨nk hsz sd,hB.alloc (nk hW0 hsz) _,q.alloc _,g.alloc _,gy.alloc _,f.alloc _,st.alloc _,o.alloc _,y.alloc _,z.alloc _,fun _=>⟨hsz,?_⟩⟩
   rw[show cD L 30 31=false from L31]
   exact af.new _ _ _
  refine aw.cons ?_ ?_
  ·refine aA 31 rfl (fun p=>rfl) (fun p=>rfl) _ _ _ rfl (fun p=>p 30) 0 (fun p=>rfl) (fun p=>(aj Cm)) (fun p=>rfl) (fun p=>(aj fun _=>0)) (fun p=>(aj Cm)) 22 (fun p=>dK _ _) (fun p=>by first|(rw[ak,ak];decide)|simp[ak,ak]) (fun p=>by rw[ak];kernel_rfl) (fun p=>bF _) ?_ ?_
   ·rintro p L w1 ⟨hsz,hB,q,g,gy,f,st,o,y,z,h_c⟩ hk
    exact cg (h_c (hk.2.1 30 rfl)).2 hk.1
   ·rintro p L w1 ⟨hsz,hB,q,g,gy,f,st,o,y,z,h_c⟩ hk
    have hp:=h_c (hk.2.1 30 rfl)
    refine⟨(by simpa using hsz),hB.row (by first|exact .inr (nk hW0 hp.1)|exact .inr ge_c|exact .inl ⟨ns _,ns _⟩|omega|(have:=hB.size;simp at this|-;omega)) _,q.rowOther (nL lt_q hp.1) _,g.rowOther (nL lt_g hp.1) _,gy.rowOther (nL lt_gy hp.1) _,f.rowOther (nL lt_f hp.1) _,st.rowOther (nL lt_st hp.1) _,o.rowOther (.inr (nq lt_o hp.1)) _,y.rowOther (nL lt_y hp.1) _,z.rowOther (nL lt_z hp.1) _,fun _=>⟨hp.1,?_⟩⟩
    rw[show cD L 31 31=true from rfl]
    exact hp.2.row _
  refine aH ?_
  exact aw.nil
 case hV0=>exact rV
 case he=>
 clear hB q g gy f st o y z
 rintro p w6xrr ⟨hsz,hB,q,g,gy,f,st,o,y,z,h_c⟩
 obtain⟨le_c,c⟩:=h_c rfl
 clear h_c
 replace st:af w6xrr sb (d9 Sn) 89:=st
 replace c:af w6xrr (p 30) (aj Cm) 22:=c
 have ne_q_c:w.heap.size≠p 30:=nN (nq lt_q le_c)
 have ne_g_c:lb≠p 30:=nN (nq lt_g le_c)
 have ne_gy_c:gb≠p 30:=nN (nq lt_gy le_c)
 have ne_f_c:fb≠p 30:=nN (nq lt_f le_c)
 have ne_st_c:sb≠p 30:=nN (nq lt_st le_c)
 have ne_o_c:ob≠p 30:=nN (nq lt_o le_c)
 have ne_y_c:y_b≠p 30:=nN (nq lt_y le_c)
 have ne_z_c:z_b≠p 30:=nN (nq lt_z le_c)
 have ge_c:w.heap.size<=p 30:=nk hW0 le_c
 have out_c:ob<p 30:=nq lt_o le_c
 generalize p 30=c_b at *
 clear lt_q lt_g lt_gy lt_f lt_st lt_o lt_y lt_z hsz hW0 RA SP FA AT PO hV
 go_upto_region 6 with(fail)
 have lt_q:=q.lt
 have lt_g:=g.lt
 have lt_gy:=gy.lt
 have lt_f:=f.lt
 have lt_st:=st.lt
 have lt_o:=o.lt
 have lt_y:=y.lt
 have lt_z:=z.lt
 have lt_c:=c.lt
 have hW0:w.heap.size<=w6xrr.heap.size:=by simpa using hB.size
 apply a_ 13 [0,1,3,7,0,0,63,127,255,255,0,1535,4095] [10] [_,_,_,_,_,_,_,_,_,_,(fun p=>.pointer (some ⟨p 10,0,none⟩)),(fun _=>undef),_] (fun p L w'=>w6xrr.heap.size<=w'.heap.size/\co lo lb w w'/\af w' w.heap.size (aj tq) 23/\af w' lb (Ev (ob,gb,fb,sb)) 37/\af w' gb (aj Gy) 83/\af w' fb (bU (Ca,Cb)) 85/\af w' sb (d9 Sn) 89/\gh lo ob w' (bif L 6 then(Xn)else(X))/\af w' y_b (ah Rg) 25/\af w' z_b (aj sp) 23/\af w' c_b (aj Cm) 22/\(L 10=true->w6xrr.heap.size<=p 10/\af w' (p 10) (bif L 11 then(ah Tc)else(ah fun _=>0)) 25)) _ [(0,88),(1,89),(2,90),(3,91),(4,92),(5,93),(6,94),(7,87),(8,95),(9,96),(10,11),(12,12)] [0,1,2,3,4,5,6,7,8,9,10,11,12]
 case hn|hm|hB|hds|hA=>exact rA
 case h0=>exact rH
 case hmore=>exact fun p L w1 w2 ⟨hsz,hB,q,g,gy,f,st,o,y,z,c,h_d⟩ hm=>⟨Nat.le_trans hsz hm.size,hB.trans (hm.mono (Nat.le_trans hW0 hsz)),q.below hm q.lt,g.below hm g.lt,gy.below hm gy.lt,f.below hm f.lt,st.below hm st.lt,o.below hm o.lt,y.below hm y.lt,z.below hm z.lt,c.below hm c.lt,fun hl=>⟨(h_d hl).1,(h_d hl).2.below hm (h_d hl).2.lt⟩⟩
 case hs=>
  intro more
  iterate 3 (refine aH ?_)
  refine cm ?_ ?_
  ·rintro p L w1 ⟨hsz,hB,q,g,gy,f,st,o,y,z,c,h_d⟩ hk
   have hc:w1.cell? ⟨lb,0,none⟩=some (.pointer (some ⟨ob,0,none⟩)):=g.cellIs rfl
   go_simp
   exact⟨rfl,rfl⟩
  refine cm ?_ ?_
  ·rintro p L w1 ⟨hsz,hB,q,g,gy,f,st,o,y,z,c,h_d⟩ hk
   first|exact br _ _ rfl _ rfl _ _ c _ ya rfl rI rfl|(have hc:=c.cellIs (aD _ (show 0<4 by omega));go_simp;exact⟨rfl,rfl⟩)
  refine cm ?_ ?_
  ·intros;(try simp only[ah,aj]);go_simp;exact⟨rfl,rfl⟩
  refine aw.cons ?_ ?_
  ·refine rJ 6 rfl (fun p=>rfl) (fun p w1 w2=>gh lo ob w2 (Xn)/\co lo ob w1 w2) ?_ ?_
   ·rintro p L w1 ⟨hsz,hB,q,g,gy,f,st,o,y,z,c,h_d⟩ hk
    have L6:L 6=false:=hk.1
    rw[L6]at o
    try simp only[cond_true,cond_false]at o
    go_simp
    refine(TK.out _ o).mono ?_
    rintro e w2 ⟨rfl,h2,h3⟩
    exact⟨rfl,h2,h3⟩
   ·rintro p L w1 w2 ⟨hsz,hB,q,g,gy,f,st,o,y,z,c,h_d⟩ hk ⟨h2,h3⟩
    refine⟨nk hsz h3.size,hB.next (h3.wide2 (ns _) oa),q.save h3 (by first|exact .inr out_q|exact .inl out_q|omega),g.save h3 (by first|exact .inr out_g|exact .inl out_g|omega),gy.save h3 (by first|exact .inr out_gy|exact .inl out_gy|omega),f.save h3 (by first|exact .inr out_f|exact .inl out_f|omega),st.save h3 (by first|exact .inr out_st|exact .inl out_st|omega),?_,y.save h3 (by first|exact .inr out_y|exact .inl out_y|omega),z.save h3 (by first|exact .inr out_z|exact .inl out_z|omega),c.save h3 (by first|exact .inr out_c|exact .inl out_c|omega),fun hl=>⟨(h_d hl).1,(h_d hl).2.save h3 (.inr (nq lt_o (h_d hl).1))⟩⟩
    rw[show cD L 6 6=true from rfl]
    exact h2
  iterate 3 (refine aH ?_)
  refine aw.cons ?_ ?_
  ·refine aP 10 rfl (fun p=>rfl) rfl (ah fun _=>0) 25 (fun p=>rfl) ?_ ?_
   ·intro p w1
    go_simp
    first|done|rfl|rw[aQ]
   rintro p L w1 ⟨hsz,hB,q,g,gy,f,st,o,y,z,c,h_d⟩ hk
   have L11:L 11=false:=hk.2.2 11 rfl
   refine⟨nk hsz sd,hB.alloc (nk hW0 hsz) _,q.alloc _,g.alloc _,gy.alloc _,f.alloc _,st.alloc _,o.alloc _,y.alloc _,z.alloc _,c.alloc _,fun _=>⟨hsz,?_⟩⟩
   rw[show cD L 10 11=false from L11]
   exact af.new _ _ _
  refine aw.cons ?_ ?_
  ·refine aA 11 rfl (fun p=>rfl) (fun p=>rfl) _ _ _ rfl (fun p=>p 10) 0 (fun p=>rfl) (fun p=>(ah Tc)) (fun p=>rfl) (fun p=>(ah fun _=>0)) (fun p=>(ah Tc)) 25 (fun p=>dH _ _) (fun p=>by first|(rw[ad,ad];decide)|simp[ad,ad]) (fun p=>by rw[ad];kernel_rfl) (fun p=>aG _) ?_ ?_
   ·rintro p L w1 ⟨hsz,hB,q,g,gy,f,st,o,y,z,c,h_d⟩ hk
    exact cg (h_d (hk.2.1 10 rfl)).2 hk.1
   ·rintro p L w1 ⟨hsz,hB,q,g,gy,f,st,o,y,z,c,h_d⟩ hk
    have hp:=h_d (hk.2.1 10 rfl)
    refine⟨(by simpa using hsz),hB.row (by first|exact .inr (nk hW0 hp.1)|exact .inr ge_d|exact .inl ⟨ns _,ns _⟩|omega|(have:=hB.size;simp at this|-;omega)) _,q.rowOther (nL lt_q hp.1) _,g.rowOther (nL lt_g hp.1) _,gy.rowOther (nL lt_gy hp.1) _,f.rowOther (nL lt_f hp.1) _,st.rowOther (nL lt_st hp.1) _,o.rowOther (.inr (nq lt_o hp.1)) _,y.rowOther (nL lt_y hp.1) _,z.rowOther (nL lt_z hp.1) _,c.rowOther (nL lt_c hp.1) _,fun _=>⟨hp.1,?_⟩⟩
    rw[show cD L 11 11=true from rfl]
    exact hp.2.row _
  refine aH ?_
  exact aw.nil
 case hV0=>exact rV
 case he=>
 clear hB q g gy f st o y z c
 rintro p w6xrrr ⟨hsz,hB,q,g,gy,f,st,o,y,z,c,h_d⟩
 obtain⟨le_d,d⟩:=h_d rfl
 clear h_d
 replace o:gh lo ob w6xrrr (Xn):=o
 replace d:af w6xrrr (p 10) (ah Tc) 25:=d
 have ne_q_d:w.heap.size≠p 10:=nN (nq lt_q le_d)
 have ne_g_d:lb≠p 10:=nN (nq lt_g le_d)
 have ne_gy_d:gb≠p 10:=nN (nq lt_gy le_d)
 have ne_f_d:fb≠p 10:=nN (nq lt_f le_d)
 have ne_st_d:sb≠p 10:=nN (nq lt_st le_d)
 have ne_o_d:ob≠p 10:=nN (nq lt_o le_d)
 have ne_y_d:y_b≠p 10:=nN (nq lt_y le_d)
 have ne_z_d:z_b≠p 10:=nN (nq lt_z le_d)
 have ne_c_d:c_b≠p 10:=nN (nq lt_c le_d)
 have ge_d:w.heap.size<=p 10:=nk hW0 le_d
 have out_d:ob<p 10:=nq lt_o le_d
 generalize p 10=d_b at *
 clear lt_q lt_g lt_gy lt_f lt_st lt_o lt_y lt_z lt_c hsz hW0 TK
 go_wp2_with (fail)
 go_ret
 exact⟨rfl,⟨l1,l2,l3,l4,o,gy,f,st,g⟩,hB⟩
end Go.Proofs.YtbhahonkhiiilaaGreat
