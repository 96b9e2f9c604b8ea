/-
  Entries of the matrix of a sight.
-/
import Derived.Test.YtbhahonkhiiilaaGreatLawQ
set_option linter.unusedSimpArgs false
set_option linter.unusedVariables false
set_option maxRecDepth 100000
set_option maxHeartbeats 8000000
namespace Go.Proofs.YtbhahonkhiiilaaGreat
open Go.RowKit PM Dt
theorem Ef {w:World} {b:Nat} {a c:Int} {t:TypeId} (h:af w b #[.int .i64 a,.int .i64 c] t):iL w (.slice (some ⟨b,0,none⟩) 2 2) [a,c]:=
 Or.inr ⟨by simp,b,0,2,rfl,h.lt,fun k hk=>by
  rcases k with _|_|k
  ·exact h.cellIs rfl
  ·exact h.cellIs rfl
  ·simp at hk;omega⟩
theorem yo {a b:Int} (ha:bu a) (hb:bu b):∀k,k< [a,b].length->bu ([a,b].getD k 0):=by
 intro k hk
 have hk:k<2:=hk
 rcases(show k=0\/k=1 by omega)with rfl|rfl<;>assumption
theorem rU (a b c d:Int) (x y:Nat) (w:World) (t:TypeId) (ha:bu a) (hb:bu b) (hc:bu c) (hd:bu d) (p:af w x #[.int .i64 a,.int .i64 b] t) (q:af w y #[.int .i64 c,.int .i64 d] t):
 Calls Tryz.prog 49 #[.slice (some ⟨x,0,none⟩) 2 2,.slice (some ⟨y,0,none⟩) 2 2] w fun e w'=>e=.returned (.tuple #[.int .i64 (gK [a,b] [c,d]),.int .i64 (jY [a,b] [c,d])])/\Below w.heap.size w w':=
 ic [a,b] [c,d] _ _ w (Ef p) (Ef q) (yo ha hb) (yo hc hd)
def fu (y:e_) (lo hi:Nat):Int:=
 if hi=0 then gO y.a y.b else if lo=0 then dM y.b y.a (hi-1)else gK [y.a (lo-1),y.a (hi-1)] [y.b (hi-1),y.b (lo-1)]-(if lo=hi then gO y.a y.b else 0)
def dE (y:e_) (i k:Nat):Int:=if k<i then fu y k i else fu y i k
theorem Av {x N:Int} (hN:0<=N) (h:x*x<(N+1)* (N+1)):-N<=x/\x<=N:=by
 constructor
 ·apply Int.not_lt.1;intro hc
  have:(N+1)* (N+1)<=(-x)* (-x):=mM oa oa oa oa
  rw[Int.neg_mul_neg]at this;omega
 ·apply Int.not_lt.1;intro hc
  have:(N+1)* (N+1)<=x*x:=mM oa oa oa oa
  omega
theorem jn {f:Nat->Int} (h:lp f=true):cx f=true:=by
 cases hk:cx f with
 |true=>rfl
 |false=>unfold lp kW at h;rw[if_neg (by rw[hk];decide)]at h;simp at h
theorem dg {f:Nat->Int} (h:lp f=true):∀i,i<3->-1073741888<=f i/\f i<=1073741888:=by
 have hk:=jn h
 obtain⟨_,N,hN,_,h2,_⟩:=lZ hk
 have h3:(N:Int)<=1073741888:=by
  simp only[lp,Bool.and_eq_true,decide_eq_true_eq]at h
  omega
 have q0:=av (f 0)
 have q1:=av (f 1)
 have q2:=av (f 2)
 intro i hi
 have:f i*f i<((N:Int)+1)* ((N:Int)+1):=by
  rcases(show i=0\/i=1\/i=2 by omega)with rfl|rfl|rfl<;>omega
 have:=Av oa this
 omega
theorem ii {x y:Int} (hx:-1073741888<=x/\x<=1073741888) (hy:-1073741888<=y/\y<=1073741888):-1152921642045804544<=x*y/\x*y<=1152921642045804544:=by
 have h:=mL (a:=1073741888-y) (b:=0) (c:=1073741888+x)
 have a1:=mN (show 0<=1073741888-x by omega) (show 0<=1073741888-y by omega)
 have a2:=mN (show 0<=1073741888+x by omega) (show 0<=1073741888+y by omega)
 have a3:=mN (show 0<=1073741888+x by omega) (show 0<=1073741888-y by omega)
 have a4:=mN (show 0<=1073741888-x by omega) (show 0<=1073741888+y by omega)
 have e1:(1073741888-x)* (1073741888-y)=1152921642045804544-1073741888*x-1073741888*y+x*y:=by grind
 have e2:(1073741888+x)* (1073741888+y)=1152921642045804544+1073741888*x+1073741888*y+x*y:=by grind
 have e3:(1073741888+x)* (1073741888-y)=1152921642045804544+1073741888*x-1073741888*y-x*y:=by grind
 have e4:(1073741888-x)* (1073741888+y)=1152921642045804544-1073741888*x+1073741888*y-x*y:=by grind
 rw[e1]at a1;rw[e2]at a2;rw[e3]at a3;rw[e4]at a4
 generalize x*y=t at *
 omega
theorem oF {t:Int} (h:-3458764926137413632<=t/\t<=3458764926137413632):-4294967296<=gA t/\gA t<=4294967296:=by unfold gA;omega
theorem oZ {y:e_} (h:dX y=true):-4294967296<=gO y.a y.b/\gO y.a y.b<=4294967296:=by
 simp only[dX,Bool.and_eq_true,decide_eq_true_eq]at h
 have ha:=dg h.1
 have hb:=dg h.2.1
 unfold gO
 rw[jn h.1,jn h.2.1,if_pos (by rfl)]
 apply oF
 have m0:=ii (ha 0 oa) (hb 0 oa)
 have m1:=ii (ha 1 oa) (hb 1 oa)
 have m2:=ii (ha 2 oa) (hb 2 oa)
 unfold d3
 rw[aK,aK,aK,cJ]
 omega
theorem lS {a b c d:Int} (ha:-1073741888<=a/\a<=1073741888) (hb:-1073741888<=b/\b<=1073741888) (hc:-1073741888<=c/\c<=1073741888) (hd:-1073741888<=d/\d<=1073741888):gK [a,b] [c,d]=gA (a*c+b*d)/\-4294967296<=gA (a*c+b*d)/\gA (a*c+b*d)<=4294967296:=by
 have m0:=ii ha hc
 have m1:=ii hb hd
 have r:=oF (t:=a*c+b*d) oa
 refine⟨?_,r⟩
 unfold gK
 rw[if_neg sd,aK,aK,cJ,Int.add_zero]
 unfold dG jA
 rw[if_pos (by simp only[Bool.and_eq_true,decide_eq_true_eq];omega)]
theorem zU {y:e_} (h:dX y=true) {i:Nat} (hi:i<3):-4294967296<=dM y.b y.a i/\dM y.b y.a i<=4294967296:=by
 simp only[dX,Bool.and_eq_true,decide_eq_true_eq]at h
 have ha:=dg h.1
 have hb:=dg h.2.1
 have key:∀i,i<3->-4294967296<=fw y.b y.a i/\fw y.b y.a i<=4294967296:=fun i hi=>by
  unfold fw vV
  apply oF
  have m0:=ii (hb ((i+1) % 3) oa) (ha ((i+2) % 3) oa)
  have m1:=ii (hb ((i+2) % 3) oa) (ha ((i+1) % 3) oa)
  rw[aK,aK,cJ,Int.neg_mul]
  omega
 unfold dM
 split
 ·split
  ·exact key i hi
  ·exact⟨by show(-4294967296:Int)<=0;omega,by show(0:Int)<=4294967296;omega⟩
 ·exact⟨by show(-4294967296:Int)<=0;omega,by show(0:Int)<=4294967296;omega⟩
theorem ze {y:e_} (h:dX y=true) {lo hi:Nat} (hl:lo<=hi) (hh:hi<4):-8589934592<=fu y lo hi/\fu y lo hi<=8589934592:=by
 have d:=oZ h
 unfold fu
 split
 ·omega
 ·split
  ·have:=zU h (i:=hi-1) oa;omega
  ·simp only[dX,Bool.and_eq_true,decide_eq_true_eq]at h
   obtain⟨e,b1,b2⟩:=lS (dg h.1 (lo-1) oa) (dg h.1 (hi-1) oa) (dg h.2.1 (hi-1) oa) (dg h.2.1 (lo-1) oa)
   rw[e]
   split<;>omega
theorem Fx {y:e_} (h:dX y=true) {i k:Nat} (hi:i<4) (hk:k<4):-8589934592<=dE y i k/\dE y i k<=8589934592:=by
 unfold dE;split
 ·exact ze h oa hi
 ·exact ze h oa hk
theorem E5 (y:e_) (LO HI:Nat) (w:World) (h:dX y=true) (hhi:HI<4) (hlo:LO<=HI):Calls Tryz.prog 80 #[.agg (cT y),.int .i64 LO,.int .i64 HI] w fun e w'=>e=.returned (.int .i64 (fu y LO HI))/\Below w.heap.size w w':=by
 have DO:=aa (fun w=>vE y.a y.b w)
 have dB:=oZ h
 have hs:decide ((HI:Int)<LO)=false:=dF oa
 have hs':decide (HI<LO)=false:=dF oa
 have h0:=h
 simp only[dX,Bool.and_eq_true,decide_eq_true_eq]at h0
 by_cases c0:HI=0
 ·subst c0
  have e0:fu y LO 0=gO y.a y.b:=by unfold fu;rw[if_pos rfl]
  rw[e0]
  clear hlo hhi
  generalize gO y.a y.b=D at *
  generalize pn y.a y.b=DE at *
  go_enter Tryz.func80,Tryz.ntmps80
  go_upto_region 1 with(fail)
  have s:af (w.alloc (.cells (cT y) 111)) w.heap.size (cT y) 111:=af.new _ _ _
  have hB:Below w.heap.size w (w.alloc (.cells (cT y) 111)):=by go_grown
  generalize(w.alloc (.cells (cT y) 111))=w0 at *
  have lt_s:=s.lt
  have hW0:w.heap.size<=w0.heap.size:=by simpa using hB.size
  apply ay 10 [0,1,3,7,15,31,63,127,255,511] [] [_,_,_,_,_,_,_,_,_,_] (fun p L w'=>w0.heap.size<=w'.heap.size/\Below w.heap.size w w'/\af w' w.heap.size (cT y) 111) _ [(0,14),(1,15),(2,16),(3,17),(4,18),(5,13),(6,19),(7,20),(8,7),(9,8)] [0,1,2,3,4,5,6,7,8,9]
  case hn|hB|hds|hA=>exact rA
  case h0=>exact rH
  case hmore=>exact rM
  case hs=>
   intro more
   refine aH ?_
   refine cm ?_ ?_
   ·rintro p L w1 ⟨hsz,hB,s⟩ hk
    exact aO _ _ rfl _ 0 rfl _ _ s (ah y.a) (jG y) _ yc rfl rI rfl
   refine aH ?_
   refine cm ?_ ?_
   ·rintro p L w1 ⟨hsz,hB,s⟩ hk
    exact aO _ _ rfl _ 3 rfl _ _ s (ah y.b) (lw y) _ yc rfl rI rfl
   refine bS 4 rfl (fun p=>rfl) (fun _ _ _ h=>h) more ?_ ?_
   ·rintro p L w1 ⟨hsz,hB,s⟩ hk
    go_simp
    exact(DO.out _).mono rC
   iterate 5 (refine aH ?_)
   exact aw.nil
  case hV0=>exact fun p q=>aw.nil
  case he=>
  clear hB s
  rintro p w0r ⟨hsz,hB,s⟩
  clear lt_s hsz hW0 DO
  go_wp2_with (fail)
  go_ret
  exact⟨rfl,hB⟩
 have hz0:decide ((HI:Int)=0)=false:=dF oa
 have hz0':((HI:Int)==0)=false:=by simp;omega
 by_cases c1:LO=0
 ·skip
  have CR:=aa (fun w=>lC y.b y.a w)
  have e0:fu y LO HI=dM y.b y.a (HI-1):=by unfold fu;rw[if_neg c0,if_pos c1]
  rw[e0]
  have hz1:decide ((LO:Int)=0)=true:=dT oa
  have hz1':((LO:Int)==0)=true:=by simp;omega
  obtain⟨J,hJ⟩:∃J,HI-1=J:=⟨_,rfl⟩
  rw[hJ]
  have hj3:J<3:=oa
  have hw1:IntKind.i64.wrap ((HI:Int)-1)=(J:Int):=by rw[wI];omega
  have hd3:decide ((J:Int)<3)=true:=dT oa
  have hd3':decide (J<3)=true:=dT hj3
  have hd3i:(J:Int)<3:=oa
  generalize gO y.a y.b=D at *
  generalize pn y.a y.b=DE at *
  generalize dM y.b y.a=C at *
  generalize lL y.b y.a=CE at *
  replace hlo:=aa hlo
  replace hhi:=aa hhi
  replace c1:=aa c1
  replace c0:=aa c0
  clear h h0
  go_enter Tryz.func80,Tryz.ntmps80
  go_upto_region 1 with(fail)
  have s:af (w.alloc (.cells (cT y) 111)) w.heap.size (cT y) 111:=af.new _ _ _
  have hB:Below w.heap.size w (w.alloc (.cells (cT y) 111)):=by go_grown
  generalize(w.alloc (.cells (cT y) 111))=w0 at *
  have lt_s:=s.lt
  have hW0:w.heap.size<=w0.heap.size:=by simpa using hB.size
  apply ay 10 [0,1,3,7,15,31,63,127,255,511] [] [_,_,_,_,_,_,_,_,_,_] (fun p L w'=>w0.heap.size<=w'.heap.size/\Below w.heap.size w w'/\af w' w.heap.size (cT y) 111) _ [(0,14),(1,15),(2,16),(3,17),(4,18),(5,13),(6,19),(7,20),(8,7),(9,8)] [0,1,2,3,4,5,6,7,8,9]
  case hn|hB|hds|hA=>exact rA
  case h0=>exact rH
  case hmore=>exact rM
  case hs=>
   intro more
   refine aH ?_
   refine cm ?_ ?_
   ·rintro p L w1 ⟨hsz,hB,s⟩ hk
    exact aO _ _ rfl _ 0 rfl _ _ s (ah y.a) (jG y) _ yc rfl rI rfl
   refine aH ?_
   refine cm ?_ ?_
   ·rintro p L w1 ⟨hsz,hB,s⟩ hk
    exact aO _ _ rfl _ 3 rfl _ _ s (ah y.b) (lw y) _ yc rfl rI rfl
   refine bS 4 rfl (fun p=>rfl) (fun _ _ _ h=>h) more ?_ ?_
   ·rintro p L w1 ⟨hsz,hB,s⟩ hk
    go_simp
    exact(DO.out _).mono rC
   iterate 5 (refine aH ?_)
   exact aw.nil
  case hV0=>exact fun p q=>aw.nil
  case he=>
  clear hB s
  rintro p w0r ⟨hsz,hB,s⟩
  clear lt_s hsz hW0 DO
  go_upto_region 7 with(fail)
  have lt_s:=s.lt
  have hW0:w.heap.size<=w0r.heap.size:=by simpa using hB.size
  apply ay 11 [0,1,3,7,15,31,63,127,255,511,1023] [8] [_,_,_,_,_,_,_,_,(fun p=>.pointer (some ⟨p 8,0,none⟩)),(fun _=>undef),_] (fun p L w'=>w0r.heap.size<=w'.heap.size/\Below w.heap.size w w'/\af w' w.heap.size (cT y) 111/\(L 8=true->w0r.heap.size<=p 8/\af w' (p 8) (bif L 9 then(ah C)else(ah fun _=>0)) 25)) _ [(0,34),(1,35),(2,36),(3,37),(4,38),(5,33),(6,39),(7,40),(8,9),(10,10)] [0,1,2,3,4,5,6,7,8,9,10]
  case hn|hB|hds|hA=>exact rA
  case h0=>exact rH
  case hmore=>exact rM
  case hs=>
   intro more
   refine aH ?_
   refine cm ?_ ?_
   ·rintro p L w1 ⟨hsz,hB,s,h_x⟩ hk
    exact aO _ _ rfl _ 3 rfl _ _ s (ah y.b) (lw y) _ yc rfl rI rfl
   refine aH ?_
   refine cm ?_ ?_
   ·rintro p L w1 ⟨hsz,hB,s,h_x⟩ hk
    exact aO _ _ rfl _ 0 rfl _ _ s (ah y.a) (jG y) _ yc rfl rI rfl
   refine bS 4 rfl (fun p=>rfl) (fun _ _ _ h=>h) more ?_ ?_
   ·rintro p L w1 ⟨hsz,hB,s,h_x⟩ hk
    go_simp
    exact(CR.out _).mono rC
   iterate 3 (refine aH ?_)
   refine aw.cons ?_ ?_
   ·refine aP 8 rfl (fun p=>rfl) rfl (ah fun _=>0) 25 (fun p=>rfl) ?_ ?_
    ·exact rZ
    rintro p L w1 ⟨hsz,hB,s,h_x⟩ hk
    have L9:L 9=false:=hk.2.2 9 rfl
    refine⟨nk hsz sd,hB.alloc (nk hW0 hsz) _,s.alloc _,fun _=>⟨hsz,?_⟩⟩
    rw[show cD L 8 9=false from L9]
    exact af.new _ _ _
   refine aw.cons ?_ ?_
   ·refine aA 9 rfl (fun p=>rfl) (fun p=>rfl) _ _ _ rfl (fun p=>p 8) 0 (fun p=>rfl) (fun p=>(ah C)) (fun p=>rfl) (fun p=>(ah fun _=>0)) (fun p=>(ah C)) 25 (fun p=>sR _ _) (fun p=>by first|(rw[ad,ad];decide)|simp[ad,ad]) (fun p=>by rw[ad];kernel_rfl) (fun p=>aG _) ?_ ?_
    ·rintro p L w1 ⟨hsz,hB,s,h_x⟩ hk
     exact cg (h_x (hk.2.1 8 rfl)).2 hk.1
    ·rintro p L w1 ⟨hsz,hB,s,h_x⟩ hk
     have hp:=h_x (hk.2.1 8 rfl)
     refine⟨(by simpa using hsz),Below.setRow hB (nk hW0 hp.1) _,s.rowOther (nL lt_s hp.1) _,fun _=>⟨hp.1,?_⟩⟩
     rw[show cD L 9 9=true from rfl]
     exact hp.2.row _
   refine aH ?_
   exact aw.nil
  case hV0=>exact rV
  case he=>
  clear hB s
  rintro p w0rr ⟨hsz,hB,s,h_x⟩
  obtain⟨le_x,x⟩:=h_x rfl
  clear h_x
  replace x:af w0rr (p 8) (ah C) 25:=x
  have ne_s_x:w.heap.size≠p 8:=nN (nq lt_s le_x)
  have ge_x:w.heap.size<=p 8:=nk hW0 le_x
  generalize p 8=x_b at *
  clear lt_s hsz hW0 CR
  have hc:w0rr.cell? ⟨x_b,J,none⟩=some (.int .i64 (C J)):=x.cellIs (az _ hj3)
  go_wp2_with (fail)
  go_ret
  exact⟨rfl,hB⟩
 have hz1:decide ((LO:Int)=0)=false:=dF oa
 have hz1':((LO:Int)==0)=false:=by simp;omega
 have e0:fu y LO HI=gK [y.a (LO-1),y.a (HI-1)] [y.b (HI-1),y.b (LO-1)]-(if LO=HI then gO y.a y.b else 0):=by unfold fu;rw[if_neg c0,if_neg c1]
 rw[e0]
 obtain⟨I,hI⟩:∃I,LO-1=I:=⟨_,rfl⟩
 obtain⟨J,hJ⟩:∃J,HI-1=J:=⟨_,rfl⟩
 rw[hI,hJ]
 have hi3:I<3:=oa
 have hj3:J<3:=oa
 have hw0:IntKind.i64.wrap ((LO:Int)-1)=(I:Int):=by rw[wI];omega
 have hw1:IntKind.i64.wrap ((HI:Int)-1)=(J:Int):=by rw[wI];omega
 have hd3:decide ((J:Int)<3)=true:=dT oa
 have hd3':decide (J<3)=true:=dT hj3
 have hd3i:(J:Int)<3:=oa
 have hd4:decide ((I:Int)<3)=true:=dT oa
 have hd4':decide (I<3)=true:=dT hi3
 have hd4i:(I:Int)<3:=oa
 have ba:=dg h0.1 I hi3
 have bb:=dg h0.1 J hj3
 have bc:=dg h0.2.1 J hj3
 have bd:=dg h0.2.1 I hi3
 obtain⟨e2,e3,e4⟩:=lS ba bb bc bd
 have DT:=aa (fun x1 y1 w t p q=>rU (y.a I) (y.a J) (y.b J) (y.b I) x1 y1 w t ⟨oa,oa⟩ ⟨oa,oa⟩ ⟨oa,oa⟩ ⟨oa,oa⟩ p q)
 rw[<-e2]at e3 e4
 generalize gK [y.a I,y.a J] [y.b J,y.b I]=T at *
 generalize jY [y.a I,y.a J] [y.b J,y.b I]=TE at *
 generalize gO y.a y.b=D at *
 generalize pn y.a y.b=DE at *
 have hsub:IntKind.i64.wrap (T-D)=T-D:=by rw[wI];omega
 obtain⟨b,hb⟩:∃b,decide ((LO:Int)=(HI:Int))=b:=⟨_,rfl⟩
 have hq2:(if LO=HI then D else 0)=(bif b then D else 0):=by
  rw[<-hb];by_cases e:LO=HI
  ·rw[if_pos e,dT (show(LO:Int)=(HI:Int) by omega)];rfl
  ·rw[if_neg e,dF (show¬(LO:Int)=(HI:Int) by omega)];rfl
 rw[hq2]
 have hb2:decide (LO=HI)=b:=by rw[<-hb];by_cases e:LO=HI<;>simp[e];omega
 have hb3:((LO:Int)==(HI:Int))=b:=by rw[<-hb];rfl
 clear e0 e2 hq2 ba bb bc bd e3 e4 dB h h0
 replace hlo:=aa hlo
 replace hhi:=aa hhi
 replace hI:=aa hI
 replace hJ:=aa hJ
 replace c1:=aa c1
 replace c0:=aa c0
 go_enter Tryz.func80,Tryz.ntmps80
 go_upto_region 1 with(fail)
 have s:af (w.alloc (.cells (cT y) 111)) w.heap.size (cT y) 111:=af.new _ _ _
 have hB:Below w.heap.size w (w.alloc (.cells (cT y) 111)):=by go_grown
 generalize(w.alloc (.cells (cT y) 111))=w0 at *
 have lt_s:=s.lt
 have hW0:w.heap.size<=w0.heap.size:=by simpa using hB.size
 apply ay 10 [0,1,3,7,15,31,63,127,255,511] [] [_,_,_,_,_,_,_,_,_,_] (fun p L w'=>w0.heap.size<=w'.heap.size/\Below w.heap.size w w'/\af w' w.heap.size (cT y) 111) _ [(0,14),(1,15),(2,16),(3,17),(4,18),(5,13),(6,19),(7,20),(8,7),(9,8)] [0,1,2,3,4,5,6,7,8,9]
 case hn|hB|hds|hA=>exact rA
 case h0=>exact rH
 case hmore=>exact rM
 case hs=>
  intro more
  refine aH ?_
  refine cm ?_ ?_
  ·rintro p L w1 ⟨hsz,hB,s⟩ hk
   exact aO _ _ rfl _ 0 rfl _ _ s (ah y.a) (jG y) _ yc rfl rI rfl
  refine aH ?_
  refine cm ?_ ?_
  ·rintro p L w1 ⟨hsz,hB,s⟩ hk
   exact aO _ _ rfl _ 3 rfl _ _ s (ah y.b) (lw y) _ yc rfl rI rfl
  refine bS 4 rfl (fun p=>rfl) (fun _ _ _ h=>h) more ?_ ?_
  ·rintro p L w1 ⟨hsz,hB,s⟩ hk
   go_simp
   exact(DO.out _).mono rC
  iterate 5 (refine aH ?_)
  exact aw.nil
 case hV0=>exact fun p q=>aw.nil
 case he=>
 clear hB s
 rintro p w0r ⟨hsz,hB,s⟩
 clear lt_s hsz hW0 DO
 go_upto_region 9 with(fail)
 have lt_s:=s.lt
 have hW0:w.heap.size<=w0r.heap.size:=by simpa using hB.size
 apply a_ 28 [0,1,0,7,15,0,32,0,224,480,1023,0,2048,0,14336,30720,0,65536,0,458752,983040,2095104,4194303,8388607,16777215,16777215,33554431,134217727] [10,21] [_,_,_,_,_,_,_,_,_,_,(fun p=>(fun b=>.slice (some ⟨b,0,none⟩) 2 2) (p 10)),_,_,_,_,_,_,_,_,_,_,(fun p=>(fun b=>.slice (some ⟨b,0,none⟩) 2 2) (p 21)),_,_,_,_,_,_] (fun p L w'=>w0r.heap.size<=w'.heap.size/\Below w.heap.size w w'/\af w' w.heap.size (cT y) 111/\(L 10=true->w0r.heap.size<=p 10/\af w' (p 10) #[.int .i64 (y.a I),.int .i64 (y.a J)] 2)/\(L 21=true->w0r.heap.size<=p 21/\af w' (p 21) #[.int .i64 (y.b J),.int .i64 (y.b I)] 2)/\(L 10=true->L 21=true->p 10≠p 21)) _ [(0,46),(1,47),(2,48),(3,49),(4,50),(5,51),(6,52),(7,53),(8,54),(9,55),(10,56),(11,57),(12,58),(13,59),(14,60),(15,61),(16,62),(17,63),(18,64),(19,65),(20,66),(21,67),(22,68),(23,45),(24,69),(25,70),(26,11),(27,12)] [0,1,2,3,4,5,6,7,8,9,10,11,12,13,14,15,16,17,18,19,20,21,22,23,24,25,26,27]
 case hn|hm|hB|hds|hA=>exact rA
 case h0=>exact rH
 case hmore=>exact rM
 case hs=>
  intro more
  iterate 4 (refine aH ?_)
  refine cm ?_ ?_
  ·rintro p L w1 ⟨hsz,hB,s,h_l1,h_l2,hne_l1_l2⟩ hk
   have hc:w1.cell? ⟨w.heap.size,I,none⟩=some (.int .i64 (y.a I)):=s.cellIs (by have:=(jG y I (by rw[ad];exact hi3)).trans (az _ hi3);rwa [Nat.zero_add]at this)
   go_simp
   exact⟨rfl,rfl⟩
  iterate 4 (refine aH ?_)
  refine cm ?_ ?_
  ·rintro p L w1 ⟨hsz,hB,s,h_l1,h_l2,hne_l1_l2⟩ hk
   have hc:w1.cell? ⟨w.heap.size,J,none⟩=some (.int .i64 (y.a J)):=s.cellIs (by have:=(jG y J (by rw[ad];exact hj3)).trans (az _ hj3);rwa [Nat.zero_add]at this)
   go_simp
   exact⟨rfl,rfl⟩
  refine aw.cons ?_ ?_
  ·refine fT 10 rfl (fun p=>rfl) rfl (fun b=>.slice (some ⟨b,0,none⟩) 2 2) (fun p=>#[.int .i64 (y.a I),.int .i64 (y.a J)]) 2 (fun p=>rfl) ?_ ?_
   ·intro p w1
    simp only[ah,aj]
    go_simp
    try rfl
   rintro p L w1 ⟨hsz,hB,s,h_l1,h_l2,hne_l1_l2⟩ hk
   refine⟨nk hsz sd,hB.alloc (nk hW0 hsz) _,s.alloc _,fun _=>⟨hsz,?_⟩,fun hl=>⟨(h_l2 hl).1,(h_l2 hl).2.alloc _⟩,fun _ hl=>nG (h_l2 hl).2.lt⟩
   exact af.new _ _ _
  iterate 4 (refine aH ?_)
  refine cm ?_ ?_
  ·rintro p L w1 ⟨hsz,hB,s,h_l1,h_l2,hne_l1_l2⟩ hk
   have hc:w1.cell? ⟨w.heap.size,3+J,none⟩=some (.int .i64 (y.b J)):=s.cellIs ((lw y J (by rw[ad];exact hj3)).trans (az _ hj3))
   go_simp
   exact⟨rfl,rfl⟩
  iterate 4 (refine aH ?_)
  refine cm ?_ ?_
  ·rintro p L w1 ⟨hsz,hB,s,h_l1,h_l2,hne_l1_l2⟩ hk
   have hc:w1.cell? ⟨w.heap.size,3+I,none⟩=some (.int .i64 (y.b I)):=s.cellIs ((lw y I (by rw[ad];exact hi3)).trans (az _ hi3))
   go_simp
   exact⟨rfl,rfl⟩
  refine aw.cons ?_ ?_
  ·refine fT 21 rfl (fun p=>rfl) rfl (fun b=>.slice (some ⟨b,0,none⟩) 2 2) (fun p=>#[.int .i64 (y.b J),.int .i64 (y.b I)]) 2 (fun p=>rfl) ?_ ?_
   ·intro p w1
    simp only[ah,aj]
    go_simp
    try rfl
   rintro p L w1 ⟨hsz,hB,s,h_l1,h_l2,hne_l1_l2⟩ hk
   refine⟨nk hsz sd,hB.alloc (nk hW0 hsz) _,s.alloc _,fun hl=>⟨(h_l1 hl).1,(h_l1 hl).2.alloc _⟩,fun _=>⟨hsz,?_⟩,fun hl _=>nN (h_l1 hl).2.lt⟩
   exact af.new _ _ _
  refine bS 22 rfl (fun p=>rfl) (fun _ _ _ h=>h) more ?_ ?_
  ·rintro p L w1 ⟨hsz,hB,s,h_l1,h_l2,hne_l1_l2⟩ hk
   have hh_l1:=(h_l1 (hk.2.1 10 rfl)).2
   have hh_l2:=(h_l2 (hk.2.1 21 rfl)).2
   go_simp
   exact(DT.out _ _ _ _ hh_l1 hh_l2).mono rC
  iterate 5 (refine aH ?_)
  exact aw.nil
 case hV0=>exact rV
 case he=>
 clear hB s
 rintro p w0rr ⟨hsz,hB,s,h_l1,h_l2,hne_l1_l2⟩
 obtain⟨le_l1,l1⟩:=h_l1 rfl
 clear h_l1
 obtain⟨le_l2,l2⟩:=h_l2 rfl
 clear h_l2
 have ne_l1_l2:p 10≠p 21:=hne_l1_l2 rfl rfl
 clear hne_l1_l2
 replace l1:af w0rr (p 10) #[.int .i64 (y.a I),.int .i64 (y.a J)] 2:=l1
 replace l2:af w0rr (p 21) #[.int .i64 (y.b J),.int .i64 (y.b I)] 2:=l2
 have ne_s_l1:w.heap.size≠p 10:=nN (nq lt_s le_l1)
 have ge_l1:w.heap.size<=p 10:=nk hW0 le_l1
 have ne_s_l2:w.heap.size≠p 21:=nN (nq lt_s le_l2)
 have ge_l2:w.heap.size<=p 21:=nk hW0 le_l2
 generalize p 10=l1_b at *
 generalize p 21=l2_b at *
 clear lt_s hsz hW0 DT
 cases b
 all_goals
  go_wp2_with (fail)
  go_ret
  exact⟨by first|rfl|simp,hB⟩
theorem Fe (y:e_) (LO HI:Nat) (w:World) (h:dX y=true) (hhi:HI<4) (hlo:LO<HI):Calls Tryz.prog 80 #[.agg (cT y),.int .i64 HI,.int .i64 LO] w fun e w'=>e=.returned (.int .i64 (fu y LO HI))/\Below w.heap.size w w':=by
 have DO:=aa (fun w=>vE y.a y.b w)
 have dB:=oZ h
 have hs:decide ((LO:Int)<HI)=true:=dT oa
 have hs':decide (LO<HI)=true:=dT oa
 have h0:=h
 simp only[dX,Bool.and_eq_true,decide_eq_true_eq]at h0
 by_cases c0:HI=0
 ·omega
 have hz0:decide ((HI:Int)=0)=false:=dF oa
 have hz0':((HI:Int)==0)=false:=by simp;omega
 by_cases c1:LO=0
 ·skip
  have CR:=aa (fun w=>lC y.b y.a w)
  have e0:fu y LO HI=dM y.b y.a (HI-1):=by unfold fu;rw[if_neg c0,if_pos c1]
  rw[e0]
  have hz1:decide ((LO:Int)=0)=true:=dT oa
  have hz1':((LO:Int)==0)=true:=by simp;omega
  obtain⟨J,hJ⟩:∃J,HI-1=J:=⟨_,rfl⟩
  rw[hJ]
  have hj3:J<3:=oa
  have hw1:IntKind.i64.wrap ((HI:Int)-1)=(J:Int):=by rw[wI];omega
  have hd3:decide ((J:Int)<3)=true:=dT oa
  have hd3':decide (J<3)=true:=dT hj3
  have hd3i:(J:Int)<3:=oa
  generalize gO y.a y.b=D at *
  generalize pn y.a y.b=DE at *
  generalize dM y.b y.a=C at *
  generalize lL y.b y.a=CE at *
  replace hlo:=aa hlo
  replace hhi:=aa hhi
  replace c1:=aa c1
  replace c0:=aa c0
  clear h h0
  go_enter Tryz.func80,Tryz.ntmps80
  go_upto_region 1 with(fail)
  have s:af (w.alloc (.cells (cT y) 111)) w.heap.size (cT y) 111:=af.new _ _ _
  have hB:Below w.heap.size w (w.alloc (.cells (cT y) 111)):=by go_grown
  generalize(w.alloc (.cells (cT y) 111))=w0 at *
  have lt_s:=s.lt
  have hW0:w.heap.size<=w0.heap.size:=by simpa using hB.size
  apply ay 10 [0,1,3,7,15,31,63,127,255,511] [] [_,_,_,_,_,_,_,_,_,_] (fun p L w'=>w0.heap.size<=w'.heap.size/\Below w.heap.size w w'/\af w' w.heap.size (cT y) 111) _ [(0,14),(1,15),(2,16),(3,17),(4,18),(5,13),(6,19),(7,20),(8,7),(9,8)] [0,1,2,3,4,5,6,7,8,9]
  case hn|hB|hds|hA=>exact rA
  case h0=>exact rH
  case hmore=>exact rM
  case hs=>
   intro more
   refine aH ?_
   refine cm ?_ ?_
   ·rintro p L w1 ⟨hsz,hB,s⟩ hk
    exact aO _ _ rfl _ 0 rfl _ _ s (ah y.a) (jG y) _ yc rfl rI rfl
   refine aH ?_
   refine cm ?_ ?_
   ·rintro p L w1 ⟨hsz,hB,s⟩ hk
    exact aO _ _ rfl _ 3 rfl _ _ s (ah y.b) (lw y) _ yc rfl rI rfl
   refine bS 4 rfl (fun p=>rfl) (fun _ _ _ h=>h) more ?_ ?_
   ·rintro p L w1 ⟨hsz,hB,s⟩ hk
    go_simp
    exact(DO.out _).mono rC
   iterate 5 (refine aH ?_)
   exact aw.nil
  case hV0=>exact fun p q=>aw.nil
  case he=>
  clear hB s
  rintro p w0r ⟨hsz,hB,s⟩
  clear lt_s hsz hW0 DO
  go_upto_region 7 with(fail)
  have lt_s:=s.lt
  have hW0:w.heap.size<=w0r.heap.size:=by simpa using hB.size
  apply ay 11 [0,1,3,7,15,31,63,127,255,511,1023] [8] [_,_,_,_,_,_,_,_,(fun p=>.pointer (some ⟨p 8,0,none⟩)),(fun _=>undef),_] (fun p L w'=>w0r.heap.size<=w'.heap.size/\Below w.heap.size w w'/\af w' w.heap.size (cT y) 111/\(L 8=true->w0r.heap.size<=p 8/\af w' (p 8) (bif L 9 then(ah C)else(ah fun _=>0)) 25)) _ [(0,34),(1,35),(2,36),(3,37),(4,38),(5,33),(6,39),(7,40),(8,9),(10,10)] [0,1,2,3,4,5,6,7,8,9,10]
  case hn|hB|hds|hA=>exact rA
  case h0=>exact rH
  case hmore=>exact rM
  case hs=>
   intro more
   refine aH ?_
   refine cm ?_ ?_
   ·rintro p L w1 ⟨hsz,hB,s,h_x⟩ hk
    exact aO _ _ rfl _ 3 rfl _ _ s (ah y.b) (lw y) _ yc rfl rI rfl
   refine aH ?_
   refine cm ?_ ?_
   ·rintro p L w1 ⟨hsz,hB,s,h_x⟩ hk
    exact aO _ _ rfl _ 0 rfl _ _ s (ah y.a) (jG y) _ yc rfl rI rfl
   refine bS 4 rfl (fun p=>rfl) (fun _ _ _ h=>h) more ?_ ?_
   ·rintro p L w1 ⟨hsz,hB,s,h_x⟩ hk
    go_simp
    exact(CR.out _).mono rC
   iterate 3 (refine aH ?_)
   refine aw.cons ?_ ?_
   ·refine aP 8 rfl (fun p=>rfl) rfl (ah fun _=>0) 25 (fun p=>rfl) ?_ ?_
    ·exact rZ
    rintro p L w1 ⟨hsz,hB,s,h_x⟩ hk
    have L9:L 9=false:=hk.2.2 9 rfl
    refine⟨nk hsz sd,hB.alloc (nk hW0 hsz) _,s.alloc _,fun _=>⟨hsz,?_⟩⟩
    rw[show cD L 8 9=false from L9]
    exact af.new _ _ _
   refine aw.cons ?_ ?_
   ·refine aA 9 rfl (fun p=>rfl) (fun p=>rfl) _ _ _ rfl (fun p=>p 8) 0 (fun p=>rfl) (fun p=>(ah C)) (fun p=>rfl) (fun p=>(ah fun _=>0)) (fun p=>(ah C)) 25 (fun p=>sR _ _) (fun p=>by first|(rw[ad,ad];decide)|simp[ad,ad]) (fun p=>by rw[ad];kernel_rfl) (fun p=>aG _) ?_ ?_
    ·rintro p L w1 ⟨hsz,hB,s,h_x⟩ hk
     exact cg (h_x (hk.2.1 8 rfl)).2 hk.1
    ·rintro p L w1 ⟨hsz,hB,s,h_x⟩ hk
     have hp:=h_x (hk.2.1 8 rfl)
     refine⟨(by simpa using hsz),Below.setRow hB (nk hW0 hp.1) _,s.rowOther (nL lt_s hp.1) _,fun _=>⟨hp.1,?_⟩⟩
     rw[show cD L 9 9=true from rfl]
     exact hp.2.row _
   refine aH ?_
   exact aw.nil
  case hV0=>exact rV
  case he=>
  clear hB s
  rintro p w0rr ⟨hsz,hB,s,h_x⟩
  obtain⟨le_x,x⟩:=h_x rfl
  clear h_x
  replace x:af w0rr (p 8) (ah C) 25:=x
  have ne_s_x:w.heap.size≠p 8:=nN (nq lt_s le_x)
  have ge_x:w.heap.size<=p 8:=nk hW0 le_x
  generalize p 8=x_b at *
  clear lt_s hsz hW0 CR
  have hc:w0rr.cell? ⟨x_b,J,none⟩=some (.int .i64 (C J)):=x.cellIs (az _ hj3)
  go_wp2_with (fail)
  go_ret
  exact⟨rfl,hB⟩
 have hz1:decide ((LO:Int)=0)=false:=dF oa
 have hz1':((LO:Int)==0)=false:=by simp;omega
 have e0:fu y LO HI=gK [y.a (LO-1),y.a (HI-1)] [y.b (HI-1),y.b (LO-1)]-(if LO=HI then gO y.a y.b else 0):=by unfold fu;rw[if_neg c0,if_neg c1]
 rw[e0]
 obtain⟨I,hI⟩:∃I,LO-1=I:=⟨_,rfl⟩
 obtain⟨J,hJ⟩:∃J,HI-1=J:=⟨_,rfl⟩
 rw[hI,hJ]
 have hi3:I<3:=oa
 have hj3:J<3:=oa
 have hw0:IntKind.i64.wrap ((LO:Int)-1)=(I:Int):=by rw[wI];omega
 have hw1:IntKind.i64.wrap ((HI:Int)-1)=(J:Int):=by rw[wI];omega
 have hd3:decide ((J:Int)<3)=true:=dT oa
 have hd3':decide (J<3)=true:=dT hj3
 have hd3i:(J:Int)<3:=oa
 have hd4:decide ((I:Int)<3)=true:=dT oa
 have hd4':decide (I<3)=true:=dT hi3
 have hd4i:(I:Int)<3:=oa
 have ba:=dg h0.1 I hi3
 have bb:=dg h0.1 J hj3
 have bc:=dg h0.2.1 J hj3
 have bd:=dg h0.2.1 I hi3
 obtain⟨e2,e3,e4⟩:=lS ba bb bc bd
 have DT:=aa (fun x1 y1 w t p q=>rU (y.a I) (y.a J) (y.b J) (y.b I) x1 y1 w t ⟨oa,oa⟩ ⟨oa,oa⟩ ⟨oa,oa⟩ ⟨oa,oa⟩ p q)
 rw[<-e2]at e3 e4
 generalize gK [y.a I,y.a J] [y.b J,y.b I]=T at *
 generalize jY [y.a I,y.a J] [y.b J,y.b I]=TE at *
 generalize gO y.a y.b=D at *
 generalize pn y.a y.b=DE at *
 have hsub:IntKind.i64.wrap (T-D)=T-D:=by rw[wI];omega
 obtain⟨b,hb⟩:∃b,decide ((LO:Int)=(HI:Int))=b:=⟨_,rfl⟩
 have hq2:(if LO=HI then D else 0)=(bif b then D else 0):=by
  rw[<-hb];by_cases e:LO=HI
  ·rw[if_pos e,dT (show(LO:Int)=(HI:Int) by omega)];rfl
  ·rw[if_neg e,dF (show¬(LO:Int)=(HI:Int) by omega)];rfl
 rw[hq2]
 have hb2:decide (LO=HI)=b:=by rw[<-hb];by_cases e:LO=HI<;>simp[e];omega
 have hb3:((LO:Int)==(HI:Int))=b:=by rw[<-hb];rfl
 clear e0 e2 hq2 ba bb bc bd e3 e4 dB h h0
 replace hlo:=aa hlo
 replace hhi:=aa hhi
 replace hI:=aa hI
 replace hJ:=aa hJ
 replace c1:=aa c1
 replace c0:=aa c0
 go_enter Tryz.func80,Tryz.ntmps80
 go_upto_region 1 with(fail)
 have s:af (w.alloc (.cells (cT y) 111)) w.heap.size (cT y) 111:=af.new _ _ _
 have hB:Below w.heap.size w (w.alloc (.cells (cT y) 111)):=by go_grown
 generalize(w.alloc (.cells (cT y) 111))=w0 at *
 have lt_s:=s.lt
 have hW0:w.heap.size<=w0.heap.size:=by simpa using hB.size
 apply ay 10 [0,1,3,7,15,31,63,127,255,511] [] [_,_,_,_,_,_,_,_,_,_] (fun p L w'=>w0.heap.size<=w'.heap.size/\Below w.heap.size w w'/\af w' w.heap.size (cT y) 111) _ [(0,14),(1,15),(2,16),(3,17),(4,18),(5,13),(6,19),(7,20),(8,7),(9,8)] [0,1,2,3,4,5,6,7,8,9]
 case hn|hB|hds|hA=>exact rA
 case h0=>exact rH
 case hmore=>exact rM
 case hs=>
  intro more
  refine aH ?_
  refine cm ?_ ?_
  ·rintro p L w1 ⟨hsz,hB,s⟩ hk
   exact aO _ _ rfl _ 0 rfl _ _ s (ah y.a) (jG y) _ yc rfl rI rfl
  refine aH ?_
  refine cm ?_ ?_
  ·rintro p L w1 ⟨hsz,hB,s⟩ hk
   exact aO _ _ rfl _ 3 rfl _ _ s (ah y.b) (lw y) _ yc rfl rI rfl
  refine bS 4 rfl (fun p=>rfl) (fun _ _ _ h=>h) more ?_ ?_
  ·rintro p L w1 ⟨hsz,hB,s⟩ hk
   go_simp
   exact(DO.out _).mono rC
  iterate 5 (refine aH ?_)
  exact aw.nil
 case hV0=>exact fun p q=>aw.nil
 case he=>
 clear hB s
 rintro p w0r ⟨hsz,hB,s⟩
 clear lt_s hsz hW0 DO
 go_upto_region 9 with(fail)
 have lt_s:=s.lt
 have hW0:w.heap.size<=w0r.heap.size:=by simpa using hB.size
 apply a_ 28 [0,1,0,7,15,0,32,0,224,480,1023,0,2048,0,14336,30720,0,65536,0,458752,983040,2095104,4194303,8388607,16777215,16777215,33554431,134217727] [10,21] [_,_,_,_,_,_,_,_,_,_,(fun p=>(fun b=>.slice (some ⟨b,0,none⟩) 2 2) (p 10)),_,_,_,_,_,_,_,_,_,_,(fun p=>(fun b=>.slice (some ⟨b,0,none⟩) 2 2) (p 21)),_,_,_,_,_,_] (fun p L w'=>w0r.heap.size<=w'.heap.size/\Below w.heap.size w w'/\af w' w.heap.size (cT y) 111/\(L 10=true->w0r.heap.size<=p 10/\af w' (p 10) #[.int .i64 (y.a I),.int .i64 (y.a J)] 2)/\(L 21=true->w0r.heap.size<=p 21/\af w' (p 21) #[.int .i64 (y.b J),.int .i64 (y.b I)] 2)/\(L 10=true->L 21=true->p 10≠p 21)) _ [(0,46),(1,47),(2,48),(3,49),(4,50),(5,51),(6,52),(7,53),(8,54),(9,55),(10,56),(11,57),(12,58),(13,59),(14,60),(15,61),(16,62),(17,63),(18,64),(19,65),(20,66),(21,67),(22,68),(23,45),(24,69),(25,70),(26,11),(27,12)] [0,1,2,3,4,5,6,7,8,9,10,11,12,13,14,15,16,17,18,19,20,21,22,23,24,25,26,27]
 case hn|hm|hB|hds|hA=>exact rA
 case h0=>exact rH
 case hmore=>exact rM
 case hs=>
  intro more
  iterate 4 (refine aH ?_)
  refine cm ?_ ?_
  ·rintro p L w1 ⟨hsz,hB,s,h_l1,h_l2,hne_l1_l2⟩ hk
   have hc:w1.cell? ⟨w.heap.size,I,none⟩=some (.int .i64 (y.a I)):=s.cellIs (by have:=(jG y I (by rw[ad];exact hi3)).trans (az _ hi3);rwa [Nat.zero_add]at this)
   go_simp
   exact⟨rfl,rfl⟩
  iterate 4 (refine aH ?_)
  refine cm ?_ ?_
  ·rintro p L w1 ⟨hsz,hB,s,h_l1,h_l2,hne_l1_l2⟩ hk
   have hc:w1.cell? ⟨w.heap.size,J,none⟩=some (.int .i64 (y.a J)):=s.cellIs (by have:=(jG y J (by rw[ad];exact hj3)).trans (az _ hj3);rwa [Nat.zero_add]at this)
   go_simp
   exact⟨rfl,rfl⟩
  refine aw.cons ?_ ?_
  ·refine fT 10 rfl (fun p=>rfl) rfl (fun b=>.slice (some ⟨b,0,none⟩) 2 2) (fun p=>#[.int .i64 (y.a I),.int .i64 (y.a J)]) 2 (fun p=>rfl) ?_ ?_
   ·intro p w1
    simp only[ah,aj]
    go_simp
    try rfl
   rintro p L w1 ⟨hsz,hB,s,h_l1,h_l2,hne_l1_l2⟩ hk
   refine⟨nk hsz sd,hB.alloc (nk hW0 hsz) _,s.alloc _,fun _=>⟨hsz,?_⟩,fun hl=>⟨(h_l2 hl).1,(h_l2 hl).2.alloc _⟩,fun _ hl=>nG (h_l2 hl).2.lt⟩
   exact af.new _ _ _
  iterate 4 (refine aH ?_)
  refine cm ?_ ?_
  ·rintro p L w1 ⟨hsz,hB,s,h_l1,h_l2,hne_l1_l2⟩ hk
   have hc:w1.cell? ⟨w.heap.size,3+J,none⟩=some (.int .i64 (y.b J)):=s.cellIs ((lw y J (by rw[ad];exact hj3)).trans (az _ hj3))
   go_simp
   exact⟨rfl,rfl⟩
  iterate 4 (refine aH ?_)
  refine cm ?_ ?_
  ·rintro p L w1 ⟨hsz,hB,s,h_l1,h_l2,hne_l1_l2⟩ hk
   have hc:w1.cell? ⟨w.heap.size,3+I,none⟩=some (.int .i64 (y.b I)):=s.cellIs ((lw y I (by rw[ad];exact hi3)).trans (az _ hi3))
   go_simp
   exact⟨rfl,rfl⟩
  refine aw.cons ?_ ?_
  ·refine fT 21 rfl (fun p=>rfl) rfl (fun b=>.slice (some ⟨b,0,none⟩) 2 2) (fun p=>#[.int .i64 (y.b J),.int .i64 (y.b I)]) 2 (fun p=>rfl) ?_ ?_
   ·intro p w1
    simp only[ah,aj]
    go_simp
    try rfl
   rintro p L w1 ⟨hsz,hB,s,h_l1,h_l2,hne_l1_l2⟩ hk
   refine⟨nk hsz sd,hB.alloc (nk hW0 hsz) _,s.alloc _,fun hl=>⟨(h_l1 hl).1,(h_l1 hl).2.alloc _⟩,fun _=>⟨hsz,?_⟩,fun hl _=>nN (h_l1 hl).2.lt⟩
   exact af.new _ _ _
  refine bS 22 rfl (fun p=>rfl) (fun _ _ _ h=>h) more ?_ ?_
  ·rintro p L w1 ⟨hsz,hB,s,h_l1,h_l2,hne_l1_l2⟩ hk
   have hh_l1:=(h_l1 (hk.2.1 10 rfl)).2
   have hh_l2:=(h_l2 (hk.2.1 21 rfl)).2
   go_simp
   exact(DT.out _ _ _ _ hh_l1 hh_l2).mono rC
  iterate 5 (refine aH ?_)
  exact aw.nil
 case hV0=>exact rV
 case he=>
 clear hB s
 rintro p w0rr ⟨hsz,hB,s,h_l1,h_l2,hne_l1_l2⟩
 obtain⟨le_l1,l1⟩:=h_l1 rfl
 clear h_l1
 obtain⟨le_l2,l2⟩:=h_l2 rfl
 clear h_l2
 have ne_l1_l2:p 10≠p 21:=hne_l1_l2 rfl rfl
 clear hne_l1_l2
 replace l1:af w0rr (p 10) #[.int .i64 (y.a I),.int .i64 (y.a J)] 2:=l1
 replace l2:af w0rr (p 21) #[.int .i64 (y.b J),.int .i64 (y.b I)] 2:=l2
 have ne_s_l1:w.heap.size≠p 10:=nN (nq lt_s le_l1)
 have ge_l1:w.heap.size<=p 10:=nk hW0 le_l1
 have ne_s_l2:w.heap.size≠p 21:=nN (nq lt_s le_l2)
 have ge_l2:w.heap.size<=p 21:=nk hW0 le_l2
 generalize p 10=l1_b at *
 generalize p 21=l2_b at *
 clear lt_s hsz hW0 DT
 cases b
 all_goals
  go_wp2_with (fail)
  go_ret
  exact⟨by first|rfl|simp,hB⟩
theorem CB (y:e_) (i k:Nat) (w:World) (h:dX y=true) (hi:i<4) (hk:k<4):Calls Tryz.prog 80 #[.agg (cT y),.int .i64 i,.int .i64 k] w fun e w'=>e=.returned (.int .i64 (dE y i k))/\Below w.heap.size w w':=by
 unfold dE
 by_cases c:k<i
 ·rw[if_pos c];exact Fe y k i w h hi c
 ·rw[if_neg c];exact E5 y i k w h hk oa
end Go.Proofs.YtbhahonkhiiilaaGreat
