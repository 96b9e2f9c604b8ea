/-
  Bodies: the readers.
-/
import Derived.Test.YtbhahonkhiiilaaGreatBdA
set_option linter.unusedSimpArgs false
set_option linter.unusedVariables false
set_option maxRecDepth 100000
set_option maxHeartbeats 4000000
namespace Go.Proofs.YtbhahonkhiiilaaGreat
open Go.RowKit PM Dt
theorem qL (X:cG) (lo b:Nat) (w:World) (ho:gh lo b w X):Calls Tryz.prog 9 #[.pointer (some ⟨b,0,none⟩)] w fun e w'=>e=.returned (.agg (aj X.Q))/\Below w.heap.size w w':=by
 obtain⟨s,hl,hu,hg,hs⟩:=ho
 have NN:=aa (fun w' (hb:Below w.heap.size w w')=>gt X.Q X.T s b w' (hg.below hb hg.lt))
 go_enter Tryz.func9,Tryz.ntmps9
 go_upto_region 1 with(fail)
 simp only[bP]
 have r:af (w.alloc (.cells (aj fun _=>0) 23)) w.heap.size (aj fun _=>0) 23:=af.new _ _ _
 have hB:Below w.heap.size w (w.alloc (.cells (aj fun _=>0) 23)):=by go_grown
 generalize(w.alloc (.cells (aj fun _=>0) 23))=w0 at *
 have g:af w0 b (iZ (X.Q,X.T,s)) 74:=hg.below hB hg.lt
 go_wp2_with (first
  |(go_at_call 27;with_reducible refine(NN.out _ hB).mono ?_;rintro e w9 ⟨rfl,rfl⟩)
  |(refine bB ?hw _ _ rfl _ 0 rfl _ _ g (aj X.Q) (DZ X.Q X.T s) _ yb rfl ?hi ?_;(case hw=>exact rW);(case hi=>exact rI))
  |(refine ag rfl _ _ _ rfl _ rfl _ rfl _ _ r rI (by first|rfl|simp only[ak]) (by first|exact bF _|rfl) ?_))
 refine bodyPost_ret (results_cell_row rfl _ _ _ _ _ _ _ rfl (r.row (aj X.Q)) yb rfl rI) rfl ?_
 refine⟨?_,Below.setRow hB oa _⟩
 rfl
theorem v8 (X:cG) (lo b:Nat) (w:World) (ho:gh lo b w X):Calls Tryz.prog 7 #[.pointer (some ⟨b,0,none⟩)] w fun e w'=>e=.returned (.agg (ah X.T))/\Below w.heap.size w w':=by
 obtain⟨s,hl,hu,hg,hs⟩:=ho
 have NN:=aa (fun w' (hb:Below w.heap.size w w')=>gt X.Q X.T s b w' (hg.below hb hg.lt))
 go_enter Tryz.func7,Tryz.ntmps7
 go_upto_region 1 with(fail)
 simp only[aQ]
 have r:af (w.alloc (.cells (ah fun _=>0) 25)) w.heap.size (ah fun _=>0) 25:=af.new _ _ _
 have hB:Below w.heap.size w (w.alloc (.cells (ah fun _=>0) 25)):=by go_grown
 generalize(w.alloc (.cells (ah fun _=>0) 25))=w0 at *
 have g:af w0 b (iZ (X.Q,X.T,s)) 74:=hg.below hB hg.lt
 go_wp2_with (first
  |(go_at_call 27;with_reducible refine(NN.out _ hB).mono ?_;rintro e w9 ⟨rfl,rfl⟩)
  |(refine bB ?hw _ _ rfl _ 4 rfl _ _ g (ah X.T) (IG X.Q X.T s) _ yc rfl ?hi ?_;(case hw=>exact rW);(case hi=>exact rI))
  |(refine ag rfl _ _ _ rfl _ rfl _ rfl _ _ r rI (by first|rfl|simp only[ad]) (by first|exact aG _|rfl) ?_))
 refine bodyPost_ret (results_cell_row rfl _ _ _ _ _ _ _ rfl (r.row (ah X.T)) yc rfl rI) rfl ?_
 refine⟨?_,Below.setRow hB oa _⟩
 rfl
theorem uY (X:cG) (lo b:Nat) (w:World) (ho:gh lo b w X):Calls Tryz.prog 23 #[.pointer (some ⟨b,0,none⟩)] w fun e w'=>e=.returned (.agg (aj X.h))/\Below w.heap.size w w':=by
 obtain⟨s,hl,hu,hg,hs⟩:=ho
 have NN:=aa (fun w' (hb:Below w.heap.size w w')=>gt X.Q X.T s b w' (hg.below hb hg.lt))
 have SP:=aa (fun w1 (hb:Below w.heap.size w w1)=>nW X.h X.f s w1 (hs.below hb hs.lt))
 go_enter Tryz.func23,Tryz.ntmps23
 go_upto_region 1 with(fail)
 simp only[dp]
 have r:af (w.alloc (.cells (aj fun _=>0) 22)) w.heap.size (aj fun _=>0) 22:=af.new _ _ _
 have hB:Below w.heap.size w (w.alloc (.cells (aj fun _=>0) 22)):=by go_grown
 generalize(w.alloc (.cells (aj fun _=>0) 22))=w0 at *
 have g:af w0 b (iZ (X.Q,X.T,s)) 74:=hg.below hB hg.lt
 have sv:af w0 s (cy (X.h,X.f)) 126:=hs.below hB hs.lt
 have gl:=hg.lt
 have sl:=hs.lt
 clear hg hs
 have ne_g_sv:b≠s:=oa
 have ne_r_g:w.heap.size≠b:=oa
 have ne_r_sv:w.heap.size≠s:=oa
 have hc:w0.cell? ⟨b,7,none⟩=some (.pointer (some ⟨s,0,none⟩)):=g.cellIs rfl
 go_wp2_with (first
  |(go_at_call 27;with_reducible refine(NN.out _ hB).mono ?_;rintro e w9 ⟨rfl,rfl⟩)
  |(go_at_call 62;with_reducible refine(SP.out _ hB).mono ?_;rintro e wc ⟨rfl,hb⟩;replace hB:=hB.trans (hb.mono hB.size);replace r:=r.below hb r.lt;clear hb)
  |(refine ag rfl _ _ _ rfl _ rfl _ rfl _ _ r rI (by first|rfl|simp only[ak]) (by first|exact bF _|rfl) ?_))
 refine bodyPost_ret (results_cell_row rfl _ _ _ _ _ _ _ rfl (r.row (aj X.h)) ya rfl rI) rfl ?_
 refine⟨?_,Below.setRow hB oa _⟩
 rfl
theorem u8 (X:cG) (lo b:Nat) (w:World) (ho:gh lo b w X):Calls Tryz.prog 24 #[.pointer (some ⟨b,0,none⟩)] w fun e w'=>e=.returned (.int .i64 X.f)/\Below w.heap.size w w':=by
 obtain⟨s,hl,hu,hg,hs⟩:=ho
 have NN:=aa (fun w' (hb:Below w.heap.size w w')=>gt X.Q X.T s b w' (hg.below hb hg.lt))
 have SP:=aa (fun w1 (hb:Below w.heap.size w w1)=>uP X.h X.f s w1 (hs.below hb hs.lt))
 have hB:Below w.heap.size w w:=Below.refl _ _
 have hc:w.cell? ⟨b,7,none⟩=some (.pointer (some ⟨s,0,none⟩)):=hg.cellIs rfl
 go_enter Tryz.func24,Tryz.ntmps24
 go_wp2_with (first
  |(go_at_call 27;with_reducible refine(NN.out _ hB).mono ?_;rintro e w9 ⟨rfl,rfl⟩)
  |(go_at_call 63;with_reducible refine(SP.out _ hB).mono ?_;rintro e wc ⟨rfl,hb⟩;replace hB:=hB.trans (hb.mono hB.size);clear hb))
 go_ret
 exact⟨rfl,hB⟩
theorem uV (X:cG) (lo b:Nat) (w:World) (ho:gh lo b w X) (hQ:∀i,i<4->bu (X.Q i)) (hI:SI X.h X.f):Calls Tryz.prog 42 #[.pointer (some ⟨b,0,none⟩)] w fun e w'=>e=.returned (.agg (ah (aX X)))/\Below w.heap.size w w':=by
 obtain⟨s,hl,hu,hg,hs⟩:=ho
 have NN:=aa (fun w' (hb:Below w.heap.size w w')=>gt X.Q X.T s b w' (hg.below hb hg.lt))
 have BA:=aa (fun w=>qS X.Q X.T w hQ)
 have SU:=aa (fun w1 (hb:af w1 s (cy (X.h,X.f)) 126)=>ux X.h X.f s w1 hb hI)
 have SB:=aa (fun w=>pH (aC X.Q X.T) (cZ X.h) w)
 clear hQ hI
 rw[show cu (aC X.Q X.T) (cZ X.h)=aX X from rfl]at SB
 go_enter Tryz.func42,Tryz.ntmps42
 go_upto_region 1 with(fail)
 simp only[aQ]
 have r:af (w.alloc (.cells (ah fun _=>0) 25)) w.heap.size (ah fun _=>0) 25:=af.new _ _ _
 have hB:Below w.heap.size w (w.alloc (.cells (ah fun _=>0) 25)):=by go_grown
 generalize(w.alloc (.cells (ah fun _=>0) 25))=w0 at *
 have g:af w0 b (iZ (X.Q,X.T,s)) 74:=hg.below hB hg.lt
 have sv:af w0 s (cy (X.h,X.f)) 126:=hs.below hB hs.lt
 have gl:=hg.lt
 have sl:=hs.lt
 clear hg hs
 have ne_g_sv:b≠s:=oa
 have ne_r_g:w.heap.size≠b:=oa
 have ne_r_sv:w.heap.size≠s:=oa
 go_upto_region 3 with(first
  |(go_at_call 27;with_reducible refine(NN.out _ hB).mono ?_;rintro e w9 ⟨rfl,rfl⟩))
 clear NN
 have lt_r:=r.lt
 have lt_g:=g.lt
 have lt_sv:=sv.lt
 have hW0:w.heap.size<=w0.heap.size:=by simpa using hB.size
 apply a_ 17 [0,1,3,7,15,0,32,96,224,480,1023,2047,4095,4095,0,24575,65535] [14] [_,_,_,_,_,_,_,_,_,_,_,_,_,_,(fun p=>.pointer (some ⟨p 14,0,none⟩)),(fun _=>undef),_] (fun p L w'=>w0.heap.size<=w'.heap.size/\Below w.heap.size w w'/\af w' w.heap.size (ah fun _=>0) 25/\af w' b (iZ (X.Q,X.T,s)) 74/\af w' s (cy (X.h,X.f)) 126/\(L 14=true->w0.heap.size<=p 14/\af w' (p 14) (bif L 15 then(ah (aC X.Q X.T))else(ah fun _=>0)) 25)) _ [(0,11),(1,12),(2,13),(3,14),(4,15),(5,16),(6,17),(7,18),(8,19),(9,20),(10,21),(11,10),(12,22),(13,23),(14,3),(16,4)] [0,1,2,3,4,5,6,7,8,9,10,11,12,13,14,15,16]
 case hn|hm|hB|hds|hA=>exact rA
 case h0=>exact rH
 case hmore=>exact rM
 case hs=>
  intro more
  refine aH ?_
  refine aH ?_
  refine aH ?_
  refine aH ?_
  refine cm ?_ ?_
  ·rintro p L w1 ⟨hsz,hB,r,g,sv,h_x⟩ hk
   exact aO _ _ rfl _ 0 rfl _ _ g (aj X.Q) (DZ X.Q X.T s) _ yb rfl rI rfl
  refine aH ?_
  refine aH ?_
  refine aH ?_
  refine aH ?_
  refine cm ?_ ?_
  ·rintro p L w1 ⟨hsz,hB,r,g,sv,h_x⟩ hk
   exact aO _ _ rfl _ 4 rfl _ _ g (ah X.T) (IG X.Q X.T s) _ yc rfl rI rfl
  refine bS 10 rfl (fun p=>rfl) (fun _ _ _ h=>h) more ?_ ?_
  ·rintro p L w1 ⟨hsz,hB,r,g,sv,h_x⟩ hk
   go_simp
   exact(BA.out _).mono rC
  refine aH ?_
  refine aH ?_
  refine aH ?_
  refine aw.cons ?_ ?_
  ·refine aP 14 rfl (fun p=>rfl) rfl (ah fun _=>0) 25 (fun p=>rfl) ?_ ?_
   ·exact rZ
   rintro p L w1 ⟨hsz,hB,r,g,sv,h_x⟩ hk
   have L15:L 15=false:=hk.2.2 15 rfl
   refine⟨nk hsz sd,hB.alloc (nk hW0 hsz) _,r.alloc _,g.alloc _,sv.alloc _,fun _=>⟨hsz,?_⟩⟩
   rw[show cD L 14 15=false from L15]
   exact af.new _ _ _
  refine aw.cons ?_ ?_
  ·refine aA 15 rfl (fun p=>rfl) (fun p=>rfl) _ _ _ rfl (fun p=>p 14) 0 (fun p=>rfl) (fun p=>(ah (aC X.Q X.T))) (fun p=>rfl) (fun p=>(ah fun _=>0)) (fun p=>(ah (aC X.Q X.T))) 25 (fun p=>dH _ _) (fun p=>by first|(rw[ad,ad];decide)|simp[ad,ad]) (fun p=>by rw[ad];kernel_rfl) (fun p=>aG _) ?_ ?_
   ·rintro p L w1 ⟨hsz,hB,r,g,sv,h_x⟩ hk
    exact cg (h_x (hk.2.1 14 rfl)).2 hk.1
   ·rintro p L w1 ⟨hsz,hB,r,g,sv,h_x⟩ hk
    have hp:=h_x (hk.2.1 14 rfl)
    refine⟨(by simpa using hsz),Below.setRow hB (nk hW0 hp.1) _,r.rowOther (nL lt_r hp.1) _,g.rowOther (nL lt_g hp.1) _,sv.rowOther (nL lt_sv hp.1) _,fun _=>⟨hp.1,?_⟩⟩
    rw[show cD L 15 15=true from rfl]
    exact hp.2.row _
  refine aH ?_
  exact aw.nil
 case hV0=>exact rV
 case he=>
 clear hB r g sv
 rintro p w0r ⟨hsz,hB,r,g,sv,h_x⟩
 obtain⟨le_x,x⟩:=h_x rfl
 clear h_x
 replace x:af w0r (p 14) (ah (aC X.Q X.T)) 25:=x
 have ne_r_x:w.heap.size≠p 14:=nN (nq lt_r le_x)
 have ne_g_x:b≠p 14:=nN (nq lt_g le_x)
 have ne_sv_x:s≠p 14:=nN (nq lt_sv le_x)
 have ge_x:w.heap.size<=p 14:=nk hW0 le_x
 generalize p 14=x_b at *
 clear lt_r lt_g lt_sv hsz hW0
 go_upto_region 4 with(fail)
 clear BA
 have lt_r:=r.lt
 have lt_g:=g.lt
 have lt_sv:=sv.lt
 have lt_x:=x.lt
 have hW0:w.heap.size<=w0r.heap.size:=by simpa using hB.size
 apply a_ 13 [0,0,2,6,14,30,63,127,255,255,0,1535,4095] [10] [_,_,_,_,_,_,_,_,_,_,(fun p=>.pointer (some ⟨p 10,0,none⟩)),(fun _=>undef),_] (fun p L w'=>w0r.heap.size<=w'.heap.size/\Below w.heap.size w w'/\af w' w.heap.size (ah fun _=>0) 25/\af w' b (iZ (X.Q,X.T,s)) 74/\af w' s (cy (X.h,X.f)) 126/\af w' x_b (ah (aC X.Q X.T)) 25/\(L 10=true->w0r.heap.size<=p 10/\af w' (p 10) (bif L 11 then(ah (aX X))else(ah fun _=>0)) 25)) _ [(0,25),(1,26),(2,27),(3,28),(4,29),(5,30),(6,31),(7,24),(8,32),(9,33),(10,5),(12,6)] [0,1,2,3,4,5,6,7,8,9,10,11,12]
 case hn|hm|hB|hds|hA=>exact rA
 case h0=>exact rH
 case hmore=>exact rM
 case hs=>
  intro more
  refine cm ?_ ?_
  ·rintro p L w1 ⟨hsz,hB,r,g,sv,x,h_y⟩ hk
   first|exact br _ _ rfl _ rfl _ _ x _ yc rfl rI rfl|(have hc:=x.cellIs (az _ (show 0<3 by omega));go_simp;exact⟨rfl,rfl⟩)
  refine aH ?_
  refine aH ?_
  refine aH ?_
  refine cm ?_ ?_
  ·rintro p L w1 ⟨hsz,hB,r,g,sv,x,h_y⟩ hk
   have hc:w1.cell? ⟨b,7,none⟩=some (.pointer (some ⟨s,0,none⟩)):=g.cellIs rfl
   go_simp
   exact⟨rfl,rfl⟩
  refine bS 5 rfl (fun p=>rfl) (fun _ _ _ h=>h) more ?_ ?_
  ·rintro p L w1 ⟨hsz,hB,r,g,sv,x,h_y⟩ hk
   go_simp
   exact(SU.out _ sv).mono rC
  refine bS 6 rfl (fun p=>rfl) (fun _ _ _ h=>h) more ?_ ?_
  ·rintro p L w1 ⟨hsz,hB,r,g,sv,x,h_y⟩ hk
   go_simp
   exact(SB.out _).mono rC
  refine aH ?_
  refine aH ?_
  refine aH ?_
  refine aw.cons ?_ ?_
  ·refine aP 10 rfl (fun p=>rfl) rfl (ah fun _=>0) 25 (fun p=>rfl) ?_ ?_
   ·exact rZ
   rintro p L w1 ⟨hsz,hB,r,g,sv,x,h_y⟩ hk
   have L11:L 11=false:=hk.2.2 11 rfl
   refine⟨nk hsz sd,hB.alloc (nk hW0 hsz) _,r.alloc _,g.alloc _,sv.alloc _,x.alloc _,fun _=>⟨hsz,?_⟩⟩
   rw[show cD L 10 11=false from L11]
   exact af.new _ _ _
  refine aw.cons ?_ ?_
  ·refine aA 11 rfl (fun p=>rfl) (fun p=>rfl) _ _ _ rfl (fun p=>p 10) 0 (fun p=>rfl) (fun p=>(ah (aX X))) (fun p=>rfl) (fun p=>(ah fun _=>0)) (fun p=>(ah (aX X))) 25 (fun p=>dH _ _) (fun p=>by first|(rw[ad,ad];decide)|simp[ad,ad]) (fun p=>by rw[ad];kernel_rfl) (fun p=>aG _) ?_ ?_
   ·rintro p L w1 ⟨hsz,hB,r,g,sv,x,h_y⟩ hk
    exact cg (h_y (hk.2.1 10 rfl)).2 hk.1
   ·rintro p L w1 ⟨hsz,hB,r,g,sv,x,h_y⟩ hk
    have hp:=h_y (hk.2.1 10 rfl)
    refine⟨(by simpa using hsz),Below.setRow hB (nk hW0 hp.1) _,r.rowOther (nL lt_r hp.1) _,g.rowOther (nL lt_g hp.1) _,sv.rowOther (nL lt_sv hp.1) _,x.rowOther (nL lt_x hp.1) _,fun _=>⟨hp.1,?_⟩⟩
    rw[show cD L 11 11=true from rfl]
    exact hp.2.row _
  refine aH ?_
  exact aw.nil
 case hV0=>exact rV
 case he=>
 clear hB r g sv x
 rintro p w0rr ⟨hsz,hB,r,g,sv,x,h_y⟩
 obtain⟨le_y,y⟩:=h_y rfl
 clear h_y
 replace y:af w0rr (p 10) (ah (aX X)) 25:=y
 have ne_r_y:w.heap.size≠p 10:=nN (nq lt_r le_y)
 have ne_g_y:b≠p 10:=nN (nq lt_g le_y)
 have ne_sv_y:s≠p 10:=nN (nq lt_sv le_y)
 have ne_x_y:x_b≠p 10:=nN (nq lt_x le_y)
 have ge_y:w.heap.size<=p 10:=nk hW0 le_y
 generalize p 10=y_b at *
 clear lt_r lt_g lt_sv lt_x hsz hW0 SU SB
 go_wp2_with (first
  |(refine ac ?hw _ _ rfl _ rfl _ _ _ _ y yc rfl ?hi ?_;(case hw=>exact rW);(case hi=>exact rI))
  |(refine ag rfl _ _ _ rfl _ rfl _ rfl _ _ r rI (by first|rfl|simp only[ad]) (by first|exact aG _|rfl) ?_))
 refine bodyPost_ret (results_cell_row rfl _ _ _ _ _ _ _ rfl (r.row (ah (aX X))) yc rfl rI) rfl ?_
 refine⟨?_,Below.setRow hB oa _⟩
 rfl
theorem zg (X:cG) (lo b:Nat) (w:World) (ho:gh lo b w X) (hQ:∀i,i<4->bu (X.Q i)) (hI:SI X.h X.f):Calls Tryz.prog 17 #[.pointer (some ⟨b,0,none⟩)] w fun e w'=>e=.returned (.agg (ah (aJ 4 (aX X))))/\Below w.heap.size w w':=by
 have MO:=aa (fun w1 (hb:Below w.heap.size w w1)=>uV X lo b w1 (ho.below hb ho.lt) hQ hI)
 have e0:IntKind.i64.wrap (4*aX X 0)=aJ 4 (aX X) 0:=by have:=pZ X.Q X.T X.h 0 oa;rw[wI];unfold aJ aX;omega
 have e1:IntKind.i64.wrap (4*aX X 1)=aJ 4 (aX X) 1:=by have:=pZ X.Q X.T X.h 1 oa;rw[wI];unfold aJ aX;omega
 have e2:IntKind.i64.wrap (4*aX X 2)=aJ 4 (aX X) 2:=by have:=pZ X.Q X.T X.h 2 oa;rw[wI];unfold aJ aX;omega
 clear hQ hI ho
 generalize aX X=Lm at *
 go_enter Tryz.func17,Tryz.ntmps17
 go_upto_region 1 with(fail)
 simp only[aQ]
 have r:af (w.alloc (.cells (ah fun _=>0) 25)) w.heap.size (ah fun _=>0) 25:=af.new _ _ _
 have hB:Below w.heap.size w (w.alloc (.cells (ah fun _=>0) 25)):=by go_grown
 generalize(w.alloc (.cells (ah fun _=>0) 25))=w0 at *
 have lt_r:=r.lt
 have hW0:w.heap.size<=w0.heap.size:=by simpa using hB.size
 apply ay 4 [0,1,3,7] [2] [_,_,(fun p=>.pointer (some ⟨p 2,0,none⟩)),(fun _=>undef)] (fun p L w'=>w0.heap.size<=w'.heap.size/\Below w.heap.size w w'/\af w' w.heap.size (ah fun _=>0) 25/\(L 2=true->w0.heap.size<=p 2/\af w' (p 2) (bif L 3 then(ah Lm)else(ah fun _=>0)) 25)) _ [(0,4),(1,5),(2,3)] [0,1,2,3]
 case hn|hB|hds|hA=>exact rA
 case h0=>exact rH
 case hmore=>exact rM
 case hs=>
  intro more
  refine aH ?_
  refine bS 1 rfl (fun p=>rfl) (fun _ _ _ h=>h) more ?_ ?_
  ·rintro p L w1 ⟨hsz,hB,r,h_x⟩ hk
   go_simp
   exact(MO.out _ hB).mono rC
  refine aw.cons ?_ ?_
  ·refine aP 2 rfl (fun p=>rfl) rfl (ah fun _=>0) 25 (fun p=>rfl) ?_ ?_
   ·exact rZ
   rintro p L w1 ⟨hsz,hB,r,h_x⟩ hk
   have L3:L 3=false:=hk.2.2 3 rfl
   refine⟨nk hsz sd,hB.alloc (nk hW0 hsz) _,r.alloc _,fun _=>⟨hsz,?_⟩⟩
   rw[show cD L 2 3=false from L3]
   exact af.new _ _ _
  refine aw.cons ?_ ?_
  ·refine aA 3 rfl (fun p=>rfl) (fun p=>rfl) _ _ _ rfl (fun p=>p 2) 0 (fun p=>rfl) (fun p=>(ah Lm)) (fun p=>rfl) (fun p=>(ah fun _=>0)) (fun p=>(ah Lm)) 25 (fun p=>dH _ _) (fun p=>by first|(rw[ad,ad];decide)|simp[ad,ad]) (fun p=>by rw[ad];kernel_rfl) (fun p=>aG _) ?_ ?_
   ·rintro p L w1 ⟨hsz,hB,r,h_x⟩ hk
    exact cg (h_x (hk.2.1 2 rfl)).2 hk.1
   ·rintro p L w1 ⟨hsz,hB,r,h_x⟩ hk
    have hp:=h_x (hk.2.1 2 rfl)
    refine⟨(by simpa using hsz),Below.setRow hB (nk hW0 hp.1) _,r.rowOther (nL lt_r hp.1) _,fun _=>⟨hp.1,?_⟩⟩
    rw[show cD L 3 3=true from rfl]
    exact hp.2.row _
  exact aw.nil
 case hV0=>exact rV
 case he=>
 clear hB r
 rintro p w0r ⟨hsz,hB,r,h_x⟩
 obtain⟨le_x,x⟩:=h_x rfl
 clear h_x
 replace x:af w0r (p 2) (ah Lm) 25:=x
 have ne_r_x:w.heap.size≠p 2:=nN (nq lt_r le_x)
 have ge_x:w.heap.size<=p 2:=nk hW0 le_x
 generalize p 2=x_b at *
 clear lt_r hsz hW0
 go_upto_region 2 with(fail)
 have lt_r:=r.lt
 have lt_x:=x.lt
 have hW0:w.heap.size<=w0r.heap.size:=by simpa using hB.size
 apply ay 11 [0,1,3,7,15,31,63,127,255,511,1023] [] [_,_,_,_,_,_,_,_,_,_,(fun _=>undef)] (fun p L w'=>w0r.heap.size<=w'.heap.size/\Below w.heap.size w w'/\af w' w.heap.size (bif L 10 then(ah (aJ 4 Lm))else(ah fun _=>0)) 25/\af w' x_b (ah Lm) 25) _ [(0,6),(1,7),(2,8),(3,9),(4,10),(5,11),(6,12),(7,13),(8,14),(9,15)] [0,1,2,3,4,5,6,7,8,9,10]
 case hn|hB|hds|hA=>exact rA
 case h0=>exact rH
 case hmore=>exact rM
 case hs=>
  intro more
  refine aH ?_
  refine cm ?_ ?_
  ·rintro p L w1 ⟨hsz,hB,r,x⟩ hk
   have hc:w1.cell? ⟨x_b,0,none⟩=some (.int .i64 (Lm 0)):=x.cellIs (az _ oa)
   go_simp
   exact⟨rfl,rfl⟩
  refine aH ?_
  refine aH ?_
  refine cm ?_ ?_
  ·rintro p L w1 ⟨hsz,hB,r,x⟩ hk
   have hc:w1.cell? ⟨x_b,1,none⟩=some (.int .i64 (Lm 1)):=x.cellIs (az _ oa)
   go_simp
   exact⟨rfl,rfl⟩
  refine aH ?_
  refine aH ?_
  refine cm ?_ ?_
  ·rintro p L w1 ⟨hsz,hB,r,x⟩ hk
   have hc:w1.cell? ⟨x_b,2,none⟩=some (.int .i64 (Lm 2)):=x.cellIs (az _ oa)
   go_simp
   exact⟨rfl,rfl⟩
  refine aH ?_
  refine cm ?_ ?_
  ·intros;(try simp only[ah,aj]);go_simp;exact⟨rfl,rfl⟩
  refine aw.cons ?_ ?_
  ·refine aA 10 rfl (fun p=>rfl) (fun p=>rfl) _ _ _ rfl (fun _=>w.heap.size) 0 (fun p=>rfl) (fun p=>(ah (aJ 4 Lm))) (fun p=>(congrArg Value.agg (sT (aJ 4 Lm)))) (fun p=>(ah fun _=>0)) (fun p=>(ah (aJ 4 Lm))) 25 (fun p=>dH _ _) (fun p=>by first|(rw[ad,ad];decide)|simp[ad,ad]) (fun p=>by rw[ad];kernel_rfl) (fun p=>aG _) ?_ ?_
   ·rintro p L w1 ⟨hsz,hB,r,x⟩ hk
    exact cg r hk.1
   ·rintro p L w1 ⟨hsz,hB,r,x⟩ hk
    refine⟨(by simpa using hsz),Below.setRow hB (by first|exact nk hW0 hp.1|exact ge_r|omega|(have:=hB.size;simp at this|-;omega)) _,?_,x.rowOther (Ne.symm ne_r_x) _⟩
    rw[show cD L 10 10=true from rfl]
    exact r.row _
  exact aw.nil
 case hV0=>exact fun p q=>aw.nil
 case he=>
 clear hB r x
 rintro p w0rr ⟨hsz,hB,r,x⟩
 replace r:af w0rr w.heap.size (ah (aJ 4 Lm)) 25:=r
 clear lt_r lt_x hsz hW0
 go_wp2_with (fail)
 refine bodyPost_ret (results_cell_row rfl _ _ _ _ _ _ _ rfl r yc rfl rI) rfl ?_
 refine⟨?_,hB⟩
 rfl
theorem CH (X:cG) (lo b:Nat) (v:Nat->Int) (w:World) (ho:gh lo b w X) (hQ:∀i,i<4->bu (X.Q i)):Calls Tryz.prog 53 #[.pointer (some ⟨b,0,none⟩),.agg (ah v)] w fun e w'=>e=.returned (.tuple #[.agg (ah (aC X.Q v)),.int .i64 (mq X.Q v)])/\Below w.heap.size w w':=by
 obtain⟨s,hl,hu,hg,hs⟩:=ho
 have NN:=aa (fun w' (hb:Below w.heap.size w w')=>gt X.Q X.T s b w' (hg.below hb hg.lt))
 have BA:=aa (fun w=>qS X.Q v w hQ)
 clear hQ
 go_enter Tryz.func53,Tryz.ntmps53
 go_upto_region 1 with(fail)
 simp only[aQ]
 have a:af ((w.alloc (.cells (ah v) 25)).alloc (.cells (ah fun _=>0) 25)) w.heap.size (ah v) 25:=(af.new _ _ _).alloc _
 have r:af ((w.alloc (.cells (ah v) 25)).alloc (.cells (ah fun _=>0) 25)) (w.heap.size+1) (ah fun _=>0) 25:=af.new' sd
 have hB:Below w.heap.size w ((w.alloc (.cells (ah v) 25)).alloc (.cells (ah fun _=>0) 25)):=by go_grown
 generalize((w.alloc (.cells (ah v) 25)).alloc (.cells (ah fun _=>0) 25))=w0 at *
 have g:af w0 b (iZ (X.Q,X.T,s)) 74:=hg.below hB hg.lt
 have sv:af w0 s (cy (X.h,X.f)) 126:=hs.below hB hs.lt
 have gl:=hg.lt
 have sl:=hs.lt
 clear hg hs
 have ne_g_sv:b≠s:=oa
 have ne_a_g:w.heap.size≠b:=oa
 have ne_a_sv:w.heap.size≠s:=oa
 have ne_r_g:(w.heap.size+1)≠b:=oa
 have ne_r_sv:(w.heap.size+1)≠s:=oa
 go_upto_region 3 with(first
  |(go_at_call 27;with_reducible refine(NN.out _ hB).mono ?_;rintro e w9 ⟨rfl,rfl⟩))
 clear NN
 have lt_a:=a.lt
 have lt_r:=r.lt
 have lt_g:=g.lt
 have lt_sv:=sv.lt
 have hW0:w.heap.size<=w0.heap.size:=by simpa using hB.size
 apply a_ 11 [0,1,3,7,15,0,63,127,127,511,1023] [] [_,_,_,_,_,_,_,_,_,(fun _=>undef),_] (fun p L w'=>w0.heap.size<=w'.heap.size/\Below w.heap.size w w'/\af w' w.heap.size (ah v) 25/\af w' (w.heap.size+1) (bif L 9 then(ah (aC X.Q v))else(ah fun _=>0)) 25/\af w' b (iZ (X.Q,X.T,s)) 74/\af w' s (cy (X.h,X.f)) 126) _ [(0,9),(1,10),(2,11),(3,12),(4,13),(5,14),(6,15),(7,16),(8,17),(10,5)] [0,1,2,3,4,5,6,7,8,9,10]
 case hn|hm|hB|hds|hA=>exact rA
 case h0=>exact rH
 case hmore=>exact rM
 case hs=>
  intro more
  refine aH ?_
  refine aH ?_
  refine aH ?_
  refine aH ?_
  refine cm ?_ ?_
  ·rintro p L w1 ⟨hsz,hB,a,r,g,sv⟩ hk
   exact aO _ _ rfl _ 0 rfl _ _ g (aj X.Q) (DZ X.Q X.T s) _ yb rfl rI rfl
  refine cm ?_ ?_
  ·rintro p L w1 ⟨hsz,hB,a,r,g,sv⟩ hk
   first|exact br _ _ rfl _ rfl _ _ a _ yc rfl rI rfl|(have hc:=a.cellIs (az _ (show 0<3 by omega));go_simp;exact⟨rfl,rfl⟩)
  refine bS 6 rfl (fun p=>rfl) (fun _ _ _ h=>h) more ?_ ?_
  ·rintro p L w1 ⟨hsz,hB,a,r,g,sv⟩ hk
   go_simp
   exact(BA.out _).mono rC
  refine aH ?_
  refine aH ?_
  refine aw.cons ?_ ?_
  ·refine aA 9 rfl (fun p=>rfl) (fun p=>rfl) _ _ _ rfl (fun _=>(w.heap.size+1)) 0 (fun p=>rfl) (fun p=>(ah (aC X.Q v))) (fun p=>rfl) (fun p=>(ah fun _=>0)) (fun p=>(ah (aC X.Q v))) 25 (fun p=>dH _ _) (fun p=>by first|(rw[ad,ad];decide)|simp[ad,ad]) (fun p=>by rw[ad];kernel_rfl) (fun p=>aG _) ?_ ?_
   ·rintro p L w1 ⟨hsz,hB,a,r,g,sv⟩ hk
    exact cg r hk.1
   ·rintro p L w1 ⟨hsz,hB,a,r,g,sv⟩ hk
    refine⟨(by simpa using hsz),Below.setRow hB (by first|exact nk hW0 hp.1|exact ge_r|omega|(have:=hB.size;simp at this|-;omega)) _,a.rowOther (by first|exact ne_a_r|exact Ne.symm ne_r_a|omega) _,?_,g.rowOther (Ne.symm ne_r_g) _,sv.rowOther (Ne.symm ne_r_sv) _⟩
    rw[show cD L 9 9=true from rfl]
    exact r.row _
  refine aH ?_
  exact aw.nil
 case hV0=>exact fun p q=>aw.nil
 case he=>
 clear hB a r g sv
 rintro p w0r ⟨hsz,hB,a,r,g,sv⟩
 replace r:af w0r (w.heap.size+1) (ah (aC X.Q v)) 25:=r
 clear lt_a lt_r lt_g lt_sv hsz hW0
 go_wp2_with (fail)
 refine bodyPost_ret (aq rfl _ _ _ _ _ _ _ rfl r yc rfl rI) rfl ?_
 refine⟨?_,hB⟩
 rfl
end Go.Proofs.YtbhahonkhiiilaaGreat
