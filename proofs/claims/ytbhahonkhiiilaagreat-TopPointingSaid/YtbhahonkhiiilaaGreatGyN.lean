/-
  The calls of chapter 21, as they lie in memory.
-/
import Derived.Test.YtbhahonkhiiilaaGreatEcA
set_option linter.unusedSimpArgs false
set_option linter.unusedVariables false
namespace Go.Proofs.YtbhahonkhiiilaaGreat
section
open Go.RowKit PM Dt
theorem ia {a d:Int} (hd:0<d) (hd2:d<=1099511627776) (ha:bu a):-d<=2* (d*bG a 1 d-a)/\2* (d*bG a 1 d-a)<=d:=by
 rw[wN hd hd2 ha]
 have h1:=Int.emod_add_mul_ediv (2*a+d) (2*d)
 have h2:=Int.emod_nonneg (2*a+d) (show 2*d≠0 by omega)
 have h3:=Int.emod_lt_of_pos (2*a+d) (show 0<2*d by omega)
 generalize(2*a+d)/(2*d)=y at *
 generalize(2*a+d) % (2*d)=m at *
 have e:2*d*y=2* (d*y):=by grind
 omega
theorem lK (Q D:Nat->Int):bJ Q D=cC Q (aJ 2 D):=by
 unfold bJ cC
 have:zV D=zV (aJ 2 D):=Bool.eq_iff_iff.2 ⟨fun k=>p_ fun i hi=>by
  have:D i=0:=beq_iff_eq.1 (by unfold zV at k;exact List.all_eq_true.1 k i (List.mem_range.2 hi))
  show 2*D i=0;omega,fun k=>p_ fun i hi=>by
  have:2*D i=0:=beq_iff_eq.1 (by unfold zV at k;exact List.all_eq_true.1 k i (List.mem_range.2 hi))
  omega⟩
 rw[this]
theorem Eq (Q h:Nat->Int):fL Q h=cC Q h:=rfl
theorem xw {A b p off:Nat->Int} (F:FI A b) (hoff:bO (am A p)=off) (hbe:fF A p=0) (ho:∀i,i<3->-2091900<=off i/\off i<=2091900) (hb:∀i,i<3->-8388608<=b i/\b i<=8388608):
 aU A p=fL A (aS off 4)/\(∀i,i<3->-2<=4*aS off 4 i-off i/\4*aS off 4 i-off i<=2)/\
  (aE off 1048576=true->∀i,i<3->∃w,(-16<=32*w-off i/\32*w-off i<=16)/\b9 A b p i=b i-w)/\(aE off 1048576=false->b9 A b p=b):=by
 refine⟨by unfold aU;rw[if_pos hbe,hoff],fun i hi=>?_,fun hs i hi=>?_,fun hs=>?_⟩
 ·have b1:=ho i hi
  have:=ia (a:=off i) (d:=4) da da ⟨oa,oa⟩
  show-2<=4*bG (off i) 1 4-off i/\4*bG (off i) 1 4-off i<=2
  omega
 ·have hw0:∀i,i<3->-16<=32*aS off 32 i-off i/\32*aS off 32 i-off i<=16:=fun i hi=>by
   have b1:=ho i hi
   have:=ia (a:=off i) (d:=32) da da ⟨oa,oa⟩
   show-16<=32*bG (off i) 1 32-off i/\32*bG (off i) 1 32-off i<=16
   omega
  have e1:b9 A b p=p7 b off:=by unfold b9;rw[hoff,if_pos ⟨hbe,hs⟩]
  have hBs:aE b 268435456=true:=cP fun j hj=>by have:=F.b j hj;omega
  have e2:=ff hBs (B:=aS off 32) (fun j hj=>by have:=hw0 j hj;have:=ho j hj;omega) i hi
  have e3:ec (fq (cu b (aS off 32)) (cu b (aS off 32)) (cu b (aS off 32))) 1 i=cu b (aS off 32) i:=by simp[ec,fq]
  refine⟨aS off 32 i,hw0 i hi,?_⟩
  rw[e1]
  unfold p7
  rw[e3,e2]
  have b2:=hb i hi
  have b3:=hw0 i hi
  have b4:=ho i hi
  generalize aS off 32 i=w at *
  unfold aI
  split<;>(try split)<;>omega
 ·unfold b9
  rw[hoff,if_neg (by rw[hs];exact fun h=>absurd h.2 da)]
structure Tk (u:Bool) (n E e E2 e2:Int):Prop where
 on:u=true->(-(1073741824*1048701)<=E/\E<=1073741824*1048701)/\(-(1073741824*141)<=32* (1073741824*e2)-(32* (1073741824*e)-E)/\32* (1073741824*e2)-(32* (1073741824*e)-E)<=1073741824*141)/\
  (-(64* (1073741824*n))<=64*E2-(47*E+32* (1073741824*e))/\64*E2-(47*E+32* (1073741824*e))<=64* (1073741824*n))
 off:u=false->e2=e/\(-(4* (1073741824*n))<=4*E2-(3*E+2* (1073741824*e))/\4*E2-(3*E+2* (1073741824*e))<=4* (1073741824*n))
def JJ (L Em:Int):Int:=(Em+32781)/2+(130*L+409600)/32768+2
def K5 (L m d:Int):Int:=(1073741824* (2836* (L*m)+1430* (L*d)+2001* (m*d))+1000* (3* (L*L*m)+L*L*d))/1152921504606846976000+17
def nF (L m Em:Int):Int:=K5 (L+2*JJ L Em) ((3*m+170)/4+1) (JJ L Em)+(130*L+409600)/32768+47
theorem kx {c:Nat->Int} {C:Int} (hC:0<=C) (hC2:C<=1073741824) (h:vv c<=C*C):aE c 1073741824=true:=cP fun i hi=>by have:=bY hC h hi;omega
theorem uq {A b B Q l R p:Nat->Int} {m L Em:Int} (F:FI A b) (hJ:∀i,i<4->bu (Q i)) (hQ:au Q=true) (hB:∀i,i<3->-262144<=B i/\B i<=262144) (hEm:Em<=450000) (he:∀i,i<3->-Em<=b i-B i/\b i-B i<=Em)
 (hm0:0<=m) (hm:m<=2090000) (hE:∀i,i<3->-(1073741824*m)<=eD A Q (i+1)/\eD A Q (i+1)<=1073741824*m) (h0:0<=eD A Q 0)
 (hK:∀i,i<4->bu (p i)) (hp:au p=true) (hz:vv (fun i=>am p Q (i+1))<=101*101)
 (hL0:0<=L) (hL1:L<=66000000) (hl:4*vv l<=L*L) (hR:∀i,i<3->-(130*L+409600)<=65536* (R i-l i)/\65536* (R i-l i)<=130*L+409600):
 (∀i,i<3->Tk (aE (bO (am A p)) 1048576) (nF L m Em) (eD A Q (i+1)) (b i-B i) (eD (eg (aU A p) (b9 A b p) (fun i=>4*R i+B i)) (bJ Q l) (i+1)) (b9 A b p i-B i))/\
   0<=eD (eg (aU A p) (b9 A b p) (fun i=>4*R i+B i)) (bJ Q l) 0/\(m<=1048451->aE (bO (am A p)) 1048576=true):=by
 have hEm0:0<=Em:=by have:=he 0 oa;omega
 have hg:vv (aJ 2 l)<=L*L:=by
  have:vv (aJ 2 l)=4*vv l:=by unfold aJ vv;grind
  omega
 have lb:=fun i (hi:i<3)=>bY hL0 hg hi
 have nr:Nr A Q (2*m):=by
  have:=dI (x:=qw (eD A Q)) (B:=1073741824*m) oa hE
  unfold Nr
  have e:2* (1073741824*m)* (2* (1073741824*m))=(1073741824* (2*m))* (1073741824* (2*m)):=by grind
  omega
 have E0:=sB F.i F.v hJ hQ (x:=2*m) oa oa nr h0
 have so:=jg F.i F.v hJ hQ hK hp oa (z:=101) da da hz
 have hbe:fF A p=0:=by unfold fF;rw[F.v,hp];rfl
 obtain⟨off,hoff⟩:∃off,bO (am A p)=off:=⟨_,rfl⟩
 have hoi:∀i,off i=am A p (i+1):=fun i=>by rw[<-hoff];rfl
 have soc:∀i,i<3->-(1073741824*125)<=1073741824*off i-eD A Q (i+1)/\1073741824*off i-eD A Q (i+1)<=1073741824*125:=fun i hi=>by
  rw[hoi];exact bY (v:=fun i=>1073741824*am A p (i+1)-eD A Q (i+1)) da so hi
 have ho:∀i,i<3->-2091900<=off i/\off i<=2091900:=fun i hi=>by
  have a:=soc i hi
  have c:=hE i hi
  omega
 obtain⟨cQ,cg,cb1,cb2⟩:=xw F hoff hbe ho (fun i hi=>by have:=hB i hi;have:=he i hi;omega)
 have F2:=F.cor hK
 rw[hoff]
 rw[cQ]at F2|-
 obtain⟨c,hcc⟩:∃c,aS off 4=c:=⟨_,rfl⟩
 rw[hcc]at cg F2|-
 have hc:vv (fun i=>4294967296*c i-eD A Q (i+1))<=(1073741824*129)* (1073741824*129):=by
  have a:=dI (B:=2147483648) (x:=fun i=>1073741824* (4*c i-off i)) da fun i hi=>by
   have:=cg i hi
   show-2147483648<=1073741824* (4*c i-off i)/\1073741824* (4*c i-off i)<=2147483648
   omega
  have t:=cE (z:=fun i=>4294967296*c i-eD A Q (i+1)) da da a so fun i hi=>by
   show 4294967296*c i-eD A Q (i+1)=1073741824* (4*c i-off i)+(1073741824*am A p (i+1)-eD A Q (i+1))
   rw[<-hoi];omega
  exact iT t da
 have cb:∀i,i<3->-523100<=c i/\c i<=523100:=fun i hi=>by
  have a:=cg i hi
  have d:=ho i hi
  omega
 have csm:aE c 1073741824=true:=cP fun i hi=>by have:=cb i hi;omega
 have cn:vv c<=1020000000000:=by
  have q:=fun i hi=>(bR (cb i hi).1 (cb i hi).2 (cb i hi).1 (cb i hi).2).2
  have q0:=q 0 oa
  have q1:=q 1 oa
  have q2:=q 2 oa
  unfold vv;omega
 have T1:=zA F.i F.v hJ hQ csm cn (z:=129) da hc da E0.1 E0.2 fun i hi=>by have:=hE i hi;omega
 have rqc:nn (rq c)<=1082098000*1082098000:=by have:=eS c;unfold vv at cn;omega
 obtain⟨y1,hy1⟩:∃y1,y1=2*m+1000:=⟨_,rfl⟩
 obtain⟨n1,z1⟩:=sF F.i F.v hJ hQ csm rqc (x:=2*m) (z:=129) (y:=y1) da da hc oa oa E0.2 nr oa
 have E1:=sB F2.i F2.v hJ hQ (x:=y1) oa oa n1 z1
 have e2:∀i,i<3->-(Em+32780)<=b9 A b p i-B i/\b9 A b p i-B i<=Em+32780:=fun i hi=>by
  have e:=he i hi
  cases hs:aE off 1048576 with
  | true=>
    obtain⟨w,w1,w2⟩:=cb1 hs i hi
    have o1:=(cR _ _).1 ((bp off _).1 hs i hi)
    rw[w2];omega
  |false=>rw[cb2 hs];omega
 have hrs:aE (fun i=>4*R i+B i) 268435456=true:=cP fun i hi=>by
  have a:=hR i hi
  have c:=lb i hi
  have c:-L<=2*l i/\2*l i<=L:=c
  have:=hB i hi
  omega
 have hP:eg (fL A c) (b9 A b p) (fun i=>4*R i+B i)=fL (fL A c) (aS (cu (fun i=>4*R i+B i) (b9 A b p)) 2):=by unfold eg;rw[if_pos hrs]
 rw[hP]
 obtain⟨h,hh⟩:∃h,aS (cu (fun i=>4*R i+B i) (b9 A b p)) 2=h:=⟨_,rfl⟩
 rw[hh]
 have h2:∀i,i<3->-1<=2*h i-(4*R i+B i-b9 A b p i)/\2*h i-(4*R i+B i-b9 A b p i)<=1:=fun i hi=>by
  have e:h i=bG (4*R i+B i-b9 A b p i) 1 2:=by rw[<-hh];unfold aS;rw[ff hrs F2.b i hi]
  have a:=(cR _ _).1 ((bp _ _).1 hrs i hi)
  have c:=F2.b i hi
  have:=ia (a:=4*R i+B i-b9 A b p i) (d:=2) da da ⟨oa,oa⟩
  rw[e];omega
 obtain⟨d,hd⟩:∃d,d=JJ L Em:=⟨_,rfl⟩
 have d1:0<=d/\d<=510000:=by rw[hd];unfold JJ;omega
 have dl:∀i,i<3->-d<=aJ 2 l i-h i/\aJ 2 l i-h i<=d:=fun i hi=>by
  have a:=hR i hi
  have c:=e2 i hi
  have k:=h2 i hi
  rw[hd];unfold JJ
  show _<=2*l i-h i/\2*l i-h i<=_
  omega
 have vd:=dI (B:=d) (x:=fun i=>-(aJ 2 l i-h i)) d1.1 fun i hi=>by have:=dl i hi;show-d<=-(aJ 2 l i-h i)/\-(aJ 2 l i-h i)<=d;omega
 have vh:vv h<=(L+2*d)* (L+2*d):=cE (X:=L) (Y:=2*d) hL0 oa hg vd fun i hi=>by show h i=aJ 2 l i+-(aJ 2 l i-h i);omega
 have vg:vv (aJ 2 l)<=(L+2*d)* (L+2*d):=iT hg (mM oa oa hL0 oa)
 have hsm:=kx (show 0<=L+2*d by omega) oa vh
 have gsm:=kx (show 0<=L+2*d by omega) oa vg
 have Lb:=mM (show L+2*d<=68000000 by omega) (show L+2*d<=68000000 by omega) oa da
 have rqh:nn (rq h)<=1082098000*1082098000:=by have:=eS h;unfold vv at vh;omega
 have rqg:nn (rq (aJ 2 l))<=1082098000*1082098000:=by have:=eS (aJ 2 l);unfold vv at vg;omega
 obtain⟨m1,hm1⟩:∃m1,m1=(3*m+170)/4+1:=⟨_,rfl⟩
 obtain⟨ep,hep⟩:∃ep,ep=K5 (L+2*d) m1 d:=⟨_,rfl⟩
 have T2:=z6 (ep:=ep) F2.i F2.v hJ hQ hsm gsm (L:=L+2*d) (m:=m1) (d:=d) oa oa vh vg oa oa d1.1 oa (fun i hi=>by
  have a:=T1 i hi
  have c2:=hE i hi
  show-(1073741824*m1)<=eD (cC A c) Q (i+1)/\eD (cC A c) Q (i+1)<=1073741824*m1
  omega) dl E1.1 E1.2 (by
  rw[hep];unfold K5
  generalize 1073741824* (2836* ((L+2*d)*m1)+1430* ((L+2*d)*d)+2001* (m1*d))+1000* (3* ((L+2*d)* (L+2*d)*m1)+(L+2*d)* (L+2*d)*d)=X
  omega)
 have nv:vv (fun i=>aJ 2 l i-h i)<=(2*d)* (2*d):=by
  have e:vv (fun i=>-(aJ 2 l i-h i))=vv (fun i=>aJ 2 l i-h i):=by unfold vv;grind
  rw[<-e];exact vd
 obtain⟨_,z3⟩:=yN F2.i F2.v hJ hQ hsm gsm rqh rqg (x:=y1) (y:=2*y1+4*d+10) (De:=2*d) oa oa nv oa oa n1 oa
 have hn:nF L m Em=ep+(130*L+409600)/32768+47:=by unfold nF;rw[hep,hd,hm1]
 rw[Eq (fL A c) h,lK]
 refine⟨fun i hi=>⟨fun hs=>?_,fun hs=>?_⟩,z3,fun hm2=>cP fun i hi=>by have a:=soc i hi;have c:=hE i hi;omega⟩
 ·obtain⟨w,w1,w2⟩:=cb1 hs i hi
  have o1:=(cR _ _).1 ((bp off _).1 hs i hi)
  have a:=T2 i hi
  have a':=T1 i hi
  have k:=h2 i hi
  have r:=hR i hi
  have s:=soc i hi
  have a:-(1073741824*ep)<=eD (cC (fL A c) h) (cC Q (aJ 2 l)) (i+1)-eD (cC A c) Q (i+1)-1073741824* (2*l i-h i)/\eD (cC (fL A c) h) (cC Q (aJ 2 l)) (i+1)-eD (cC A c) Q (i+1)-1073741824* (2*l i-h i)<=1073741824*ep:=a
  rw[hn]
  generalize eD (cC (fL A c) h) (cC Q (aJ 2 l)) (i+1)=x at *
  generalize eD (cC A c) Q (i+1)=y at *
  generalize b9 A b p i=b2 at *
  subst w2
  omega
 ·have a:=T2 i hi
  have a':=T1 i hi
  have k:=h2 i hi
  have r:=hR i hi
  have s:=soc i hi
  have a:-(1073741824*ep)<=eD (cC (fL A c) h) (cC Q (aJ 2 l)) (i+1)-eD (cC A c) Q (i+1)-1073741824* (2*l i-h i)/\eD (cC (fL A c) h) (cC Q (aJ 2 l)) (i+1)-eD (cC A c) Q (i+1)-1073741824* (2*l i-h i)<=1073741824*ep:=a
  have w2:b9 A b p i=b i:=by rw[cb2 hs]
  rw[hn]
  generalize eD (cC (fL A c) h) (cC Q (aJ 2 l)) (i+1)=x at *
  generalize eD (cC A c) Q (i+1)=y at *
  generalize b9 A b p i=b2 at *
  omega
theorem ox {A b B Q l R p:Nat->Int} {x L De:Int} (F:FI A b) (hJ:∀i,i<4->bu (Q i)) (hQ:au Q=true) (hB:∀i,i<3->-262144<=B i/\B i<=262144) (hb:∀i,i<3->b i=0) (hs:aE (bO (am A p)) 1048576=false)
 (hx0:0<=x) (hx:x<=130000000) (hn:Nr A Q x) (h0:0<=eD A Q 0)
 (hK:∀i,i<4->bu (p i)) (hp:au p=true) (hz:vv (fun i=>am p Q (i+1))<=101*101)
 (hL0:0<=L) (hL1:L<=120000000) (hl:4*vv l<=L*L) (hR:vv (fun i=>65536* (R i-l i))<=(130*L+409600)* (130*L+409600)) (hR2:∀i,i<3->-34603008<=R i/\R i<=34603008)
 (hDe:0<=De) (hDe1:De<=1300000) (hDe2:32768*454060+2* (130*L+409600)+65536<=65536*De):
 b9 A b p=b/\(∀y1 y,30075*x+19331900<=40000*y1->1015700*y1+1007900*De+9000000<=1000000*y->Nr (eg (aU A p) (b9 A b p) (fun i=>4*R i+B i)) (bJ Q l) y/\0<=eD (eg (aU A p) (b9 A b p) (fun i=>4*R i+B i)) (bJ Q l) 0)/\
  (∀x' y1 y2,0<=x'->Nr (eg (aU A p) (b9 A b p) (fun i=>4*R i+B i)) (bJ Q l) x'->10004*x'+10004*De+100000<=10000*y1->13347*y1+6466000<=10000*y2->Nr A Q y2):=by
 have hm4:vv (aJ 2 l)=4*vv l:=by unfold aJ vv;grind
 have lb:=fun i (hi:i<3)=>bY (v:=aJ 2 l) hL0 oa hi
 have E0:=qM F.i F.v hJ hQ hx0 hx hn h0
 have so:=jg F.i F.v hJ hQ hK hp oa (z:=101) da da hz
 have hbe:fF A p=0:=by unfold fF;rw[F.v,hp];rfl
 obtain⟨off,hoff⟩:∃off,bO (am A p)=off:=⟨_,rfl⟩
 have hoi:∀i,off i=am A p (i+1):=fun i=>by rw[<-hoff];rfl
 rw[hoff]at hs
 have eb:=fun i (hi:i<3)=>bY (v:=qw (eD A Q)) oa hn hi
 have sb:=fun i (hi:i<3)=>bY da so hi
 have ho:∀i,i<3->-130002000<=off i/\off i<=130002000:=fun i hi=>by
  have a:=sb i hi
  have c:=eb i hi
  have c:-(1073741824*x)<=eD A Q (i+1)/\eD A Q (i+1)<=1073741824*x:=c
  rw[hoi];omega
 have cQ:aU A p=fL A (aS off 4):=by unfold aU;rw[if_pos hbe,hoff]
 have cB:b9 A b p=b:=by
  unfold b9
  rw[hoff,if_neg (by rw[hs];exact fun h=>absurd h.2 da)]
 have cg:∀i,i<3->-2<=4*aS off 4 i-off i/\4*aS off 4 i-off i<=2:=fun i hi=>by
  have b1:=ho i hi
  have:=ia (a:=off i) (d:=4) da da ⟨oa,oa⟩
  show-2<=4*bG (off i) 1 4-off i/\4*bG (off i) 1 4-off i<=2
  omega
 have F2:=F.cor hK
 rw[cB]at F2|-
 rw[cQ]at F2|-
 refine⟨rfl,?_⟩
 obtain⟨c,hcc⟩:∃c,aS off 4=c:=⟨_,rfl⟩
 rw[hcc]at cg F2|-
 have hc:vv (fun i=>4294967296*c i-eD A Q (i+1))<=(1073741824*1900)* (1073741824*1900):=by
  have a:=dI (B:=2147483648) (x:=fun i=>1073741824* (4*c i-off i)) da fun i hi=>by
   have:=cg i hi
   show-2147483648<=1073741824* (4*c i-off i)/\1073741824* (4*c i-off i)<=2147483648
   omega
  have t:=cE (z:=fun i=>4294967296*c i-eD A Q (i+1)) da da a so fun i hi=>by
   show 4294967296*c i-eD A Q (i+1)=1073741824* (4*c i-off i)+(1073741824*am A p (i+1)-eD A Q (i+1))
   rw[hoi];omega
  exact iT t da
 have cb:∀i,i<3->-33000000<=c i/\c i<=33000000:=fun i hi=>by
  have a:=cg i hi
  have d:=ho i hi
  omega
 have csm:aE c 1073741824=true:=cP fun i hi=>by have:=cb i hi;omega
 have cn:nn (rq c)<=1074256896*1074256896:=by
  have a:=cE (z:=fun i=>4294967296*c i) da oa hc hn fun i hi=>by
   show 4294967296*c i=(4294967296*c i-eD A Q (i+1))+eD A Q (i+1);omega
  have e:vv (fun i=>4294967296*c i)=18446744073709551616*vv c:=by unfold vv;grind
  rw[e]at a
  have d:=mM (show 1073741824*1900+1073741824*x<=1073741824*130001900 by omega) (show 1073741824*1900+1073741824*x<=1073741824*130001900 by omega) oa da
  have hn2:nn (rq c)=1152921504606846976+vv c:=by have:=eS c;unfold vv;omega
  omega
 have hrs:aE (fun i=>4*R i+B i) 268435456=true:=cP fun i hi=>by
  have a:=hR2 i hi
  have:=hB i hi
  omega
 have hP:eg (fL A c) b (fun i=>4*R i+B i)=fL (fL A c) (aS (cu (fun i=>4*R i+B i) b) 2):=by unfold eg;rw[if_pos hrs]
 rw[hP]
 obtain⟨h,hh⟩:∃h,aS (cu (fun i=>4*R i+B i) b) 2=h:=⟨_,rfl⟩
 rw[hh]
 have h2:∀i,i<3->-1<=2*h i-(4*R i+B i)/\2*h i-(4*R i+B i)<=1:=fun i hi=>by
  have e:h i=bG (4*R i+B i-b i) 1 2:=by rw[<-hh];unfold aS;rw[ff hrs F2.b i hi]
  have a:=(cR _ _).1 ((bp _ _).1 hrs i hi)
  have z:=hb i hi
  have:=ia (a:=4*R i+B i-b i) (d:=2) da da ⟨oa,oa⟩
  rw[e];omega
 have hsm:aE h 1073741824=true:=cP fun i hi=>by
  have:=h2 i hi
  have:=hR2 i hi
  have:=hB i hi
  omega
 have gsm:aE (aJ 2 l) 1073741824=true:=cP fun i hi=>by have:=lb i hi;omega
 have hBn:vv (fun i=>-(32768*B i))<=(32768*454060)* (32768*454060):=by
  have q:=fun i hi=>(bR (hB i hi).1 (hB i hi).2 (hB i hi).1 (hB i hi).2).2
  have q0:=q 0 oa
  have q1:=q 1 oa
  have q2:=q 2 oa
  have e:vv (fun i=>-(32768*B i))=1073741824* (B 0*B 0+B 1*B 1+B 2*B 2):=by unfold vv;grind
  rw[e];omega
 have hRn:vv (fun i=>-(2* (65536* (R i-l i))))<=(2* (130*L+409600))* (2* (130*L+409600)):=by
  have e:vv (fun i=>-(2* (65536* (R i-l i))))=4*vv (fun i=>65536* (R i-l i)):=by unfold vv;grind
  have e2:(2* (130*L+409600))* (2* (130*L+409600))=4* ((130*L+409600)* (130*L+409600)):=by grind
  rw[e,e2];omega
 have hrn:vv (fun i=>65536* (aJ 2 l i-h i)-(-(32768*B i)+-(2* (65536* (R i-l i)))))<=(65536:Int)*65536:=by
  have:=dI (B:=32768) (x:=fun i=>65536* (aJ 2 l i-h i)-(-(32768*B i)+-(2* (65536* (R i-l i))))) da fun i hi=>by
   have:=h2 i hi
   show-32768<=65536* (2*l i-h i)-(-(32768*B i)+-(2* (65536* (R i-l i))))/\65536* (2*l i-h i)-(-(32768*B i)+-(2* (65536* (R i-l i))))<=32768
   omega
  exact this
 have hd:vv (fun i=>aJ 2 l i-h i)<=De*De:=by
  have t1:=cE (z:=fun i=>-(32768*B i)+-(2* (65536* (R i-l i)))) da oa hBn hRn fun i hi=>rfl
  have t2:=cE (z:=fun i=>65536* (aJ 2 l i-h i)) (X:=32768*454060+2* (130*L+409600)) (Y:=65536) oa da t1 hrn fun i hi=>by
   show 65536* (aJ 2 l i-h i)=(-(32768*B i)+-(2* (65536* (R i-l i))))+(65536* (aJ 2 l i-h i)-(-(32768*B i)+-(2* (65536* (R i-l i)))));omega
  exact cF (v:=fun i=>aJ 2 l i-h i) (N:=65536) da oa t2 oa
 have lR:=fun i (hi:i<3)=>bY oa hR hi
 have hhn:vv h<=(L+De)* (L+De):=by
  have neg:vv (fun i=>-(aJ 2 l i-h i))=vv (fun i=>aJ 2 l i-h i):=by unfold vv;grind
  exact cE (x:=aJ 2 l) (y:=fun i=>-(aJ 2 l i-h i)) (z:=h) hL0 hDe oa (by rw[neg];exact hd) fun i hi=>by show h i=aJ 2 l i+-(aJ 2 l i-h i);omega
 have nh:nn (rq h)=1152921504606846976+vv h:=by have:=eS h;unfold vv;omega
 have ng:nn (rq (aJ 2 l))=1152921504606846976+vv (aJ 2 l):=by have:=eS (aJ 2 l);unfold vv;omega
 have HH:=mM (show L+De<=121300000 by omega) (show L+De<=121300000 by omega) oa da
 have LL:=mM hL1 hL1 hL0 da
 have v1:=fm h
 have v2:=fm (aJ 2 l)
 rw[Eq (fL A c) h,lK]
 refine⟨fun y1 y w1 w2=>?_,fun x' y1 y2 w0 hx' w1 w2=>?_⟩
 ·obtain⟨y0,hy0⟩:∃y0,y0=(30075*x+19331900+39999)/40000:=⟨_,rfl⟩
  obtain⟨n1,z1⟩:=sF F.i F.v hJ hQ csm (iT cn da) (z:=1900) (y:=y0) da da hc hx0 E0.1 E0.2 hn oa
  have E2:=qM F2.i F2.v hJ hQ (x:=y0) oa oa n1 z1
  have q:y0<=y1:=by
   apply bC;intro hq
   have:y1+1<=y0:=oa
   omega
  exact yN F2.i F2.v hJ hQ hsm gsm oa oa hDe oa hd oa E2.1 n1 oa
 ·--a scale that fits both
  obtain⟨S,hS⟩:∃S,S=(if nn (rq h)<=nn (rq (aJ 2 l))then nn (rq (aJ 2 l))else nn (rq h)):=⟨_,rfl⟩
  have S1:nn (rq h)<=S/\nn (rq (aJ 2 l))<=S/\(S=nn (rq (aJ 2 l))\/S=nn (rq h)):=by
   rw[hS];split<;>omega
  obtain⟨K,k1,k2,k3,k4⟩:=mW (S:=S) oa oa
  have cs:=km (h 0) (h 1) (h 2) (aJ 2 l 0-h 0) (aJ 2 l 1-h 1) (aJ 2 l 2-h 2)
  have m1:(h 0*h 0+h 1*h 1+h 2*h 2)* ((aJ 2 l 0-h 0)* (aJ 2 l 0-h 0)+(aJ 2 l 1-h 1)* (aJ 2 l 1-h 1)+(aJ 2 l 2-h 2)* (aJ 2 l 2-h 2))<=(L+De)* (L+De)* (De*De):=mM hhn hd (fm fun i=>aJ 2 l i-h i) (av _)
  have ab:=bI (x:=h 0* (aJ 2 l 0-h 0)+h 1* (aJ 2 l 1-h 1)+h 2* (aJ 2 l 2-h 2)) (p:=(L+De)*De) (mN oa hDe) (by
   have e:(L+De)*De* ((L+De)*De)=(L+De)* (L+De)* (De*De):=by grind
   rw[e];exact iT cs m1)
  have LD:(L+De)*De<=157690000000000:=by
   have:=mM (show L+De<=121300000 by omega) hDe1 hDe da
   omega
  have DD:De*De<=1690000000000:=by
   have:=mM hDe1 hDe1 hDe da
   omega
  have hd':(aJ 2 l 0-h 0)* (aJ 2 l 0-h 0)+(aJ 2 l 1-h 1)* (aJ 2 l 1-h 1)+(aJ 2 l 2-h 2)* (aJ 2 l 2-h 2)<=De*De:=hd
  have vg:vv (aJ 2 l)=vv h+2* (h 0* (aJ 2 l 0-h 0)+h 1* (aJ 2 l 1-h 1)+h 2* (aJ 2 l 2-h 2))+((aJ 2 l 0-h 0)* (aJ 2 l 0-h 0)+(aJ 2 l 1-h 1)* (aJ 2 l 1-h 1)+(aJ 2 l 2-h 2)* (aJ 2 l 2-h 2)):=by unfold vv;grind
  have n1:=sU F2.i F2.v hJ hQ hsm gsm k1 k2 oa oa oa hDe hd w0 hx' w1
  exact sj F.i F.v hJ hQ csm cn (z:=1900) da hc oa oa E0.2 n1 oa
end
section
open Go.RowKit PM Dt
structure Bn where
 P0:Int
 P1:Int
 P2:Int
 P3:Int
 o:Int
structure oV (x:Bn) (E e:Int):Prop where
 a:-x.P0<=e/\e<=x.P0
 b:-(20* (1073741824*x.P1))<=20* (1073741824*e)-E/\20* (1073741824*e)-E<=20* (1073741824*x.P1)
 c:-(10* (1073741824*x.P2))<=10* (1073741824*e)-E/\10* (1073741824*e)-E<=10* (1073741824*x.P2)
 d:-(32* (1073741824*x.P3))<=32* (1073741824*e)-5*E/\32* (1073741824*e)-5*E<=32* (1073741824*x.P3)
 o:-(1073741824*x.o)<=E/\E<=1073741824*x.o
def tJ (a b:Int):Int:=if a<=b then b else a
theorem iM (a b:Int):a<=tJ a b/\b<=tJ a b:=by unfold tJ;split<;>omega
def Bn.mx (x y:Bn):Bn:=⟨tJ x.P0 y.P0,tJ x.P1 y.P1,tJ x.P2 y.P2,tJ x.P3 y.P3,tJ x.o y.o⟩
def Bn.on (x:Bn) (q n:Int):Bn:=⟨(3*x.P0+5*x.P1+43)/8,(3780*x.P1+2460*x.P2+320*n+66399)/6400,(4480*x.P2+992*x.P3+576*n+65759)/5760,(472*x.P3+q+80*n+2911)/512,(47*q+32*x.P0+64*n+63)/64⟩
def Bn.off (x:Bn) (n:Int):Bn:=⟨x.P0,(9*x.P0+30*x.P1+2*n+39)/40,(8*x.P1+11*x.P2+2*n+19)/20,(48*x.P3+11*x.P0+10*n+63)/64,(3*x.o+2*x.P0+4*n+3)/4⟩
def jF (a b:Int):Int:=if a<=b then a else b
def Bn.step (x:Bn) (L:Int):Bn:=bif decide (x.o<=1048451)then x.on x.o (nF L x.o x.P0)else(x.on (jF x.o 1048701) (nF L x.o x.P0)).mx (x.off (nF L x.o x.P0))
def Bn.le (x y:Bn):Bool:=decide (x.P0<=y.P0)&&(decide (x.P1<=y.P1)&&(decide (x.P2<=y.P2)&&(decide (x.P3<=y.P3)&&decide (x.o<=y.o))))
theorem Bn.le_iff {x y:Bn}:x.le y=true↔x.P0<=y.P0/\x.P1<=y.P1/\x.P2<=y.P2/\x.P3<=y.P3/\x.o<=y.o:=by simp only[Bn.le,Bool.and_eq_true,decide_eq_true_eq]
variable{x y:Bn} {E e E2 e2 n q:Int}
theorem oV.mono (h:oV x E e) (hle:x.le y=true):oV y E e:=by
 obtain⟨h0,h1,h2,h3,h4⟩:=Bn.le_iff.1 hle
 obtain⟨a,b,c,d,o⟩:=h
 exact⟨oa,oa,oa,oa,oa⟩
theorem Bn.le_mx (x y:Bn):x.le (x.mx y)=true/\y.le (x.mx y)=true:=⟨Bn.le_iff.2 ⟨(iM _ _).1,(iM _ _).1,(iM _ _).1,(iM _ _).1,(iM _ _).1⟩,Bn.le_iff.2 ⟨(iM _ _).2,(iM _ _).2,(iM _ _).2,(iM _ _).2,(iM _ _).2⟩⟩
theorem yx (h:oV x E e) (hq:-(1073741824*q)<=E/\E<=1073741824*q) (t:Tk true n E e E2 e2):oV (x.on q n) E2 e2:=by
 obtain⟨_,t2,t3⟩:=t.on rfl
 obtain⟨a,b,c,d,o⟩:=h
 refine⟨?_,?_,?_,?_,?_⟩<;>unfold Bn.on<;>dsimp only<;>omega
theorem Ed (h:oV x E e) (t:Tk false n E e E2 e2):oV (x.off n) E2 e2:=by
 obtain⟨rfl,t3⟩:=t.off rfl
 obtain⟨a,b,c,d,o⟩:=h
 refine⟨?_,?_,?_,?_,?_⟩<;>unfold Bn.off<;>dsimp only<;>omega
theorem Az {u:Bool} {L:Int} (h:oV x E e) (hu:x.o<=1048451->u=true) (t:Tk u (nF L x.o x.P0) E e E2 e2):oV (x.step L) E2 e2:=by
 unfold Bn.step
 by_cases ho:x.o<=1048451
 ·rw[dT ho,cond_true]
  have:=hu ho
  subst this
  exact yx h h.o t
 ·rw[dF ho,cond_false]
  cases u with
  | true=>
    refine(yx h ?_ t).mono (Bn.le_mx _ _).1
    have a:=(t.on rfl).1
    have b:=h.o
    unfold jF;split<;>omega
  |false=>exact(Ed h t).mono (Bn.le_mx _ _).2
def Bn.ent:Bn:=⟨262144,314580,367015,426004,1048701⟩
theorem Er {n:Int} (he:-262144<=e/\e<=262144) (hE:-(1073741824*1048701)<=E/\E<=1073741824*1048701):oV Bn.ent E e:=by
 refine⟨?_,?_,?_,?_,?_⟩<;>unfold Bn.ent<;>dsimp only<;>omega
end
section
open Go.RowKit PM Dt
structure jK (x:Bn) (A b B Q:Nat->Int):Prop where
 F:FI A b
 h:∀i,i<3->oV x (eD A Q (i+1)) (b i-B i)
 s:0<=eD A Q 0
def dL (A b B p R:Nat->Int):Nat->Int:=eg (aU A p) (b9 A b p) (fun i=>4*R i+B i)
structure qr (p Q:Nat->Int):Prop where
 I:∀i,i<4->bu (p i)
 v:au p=true
 z:vv (fun i=>am p Q (i+1))<=101*101
variable{x y:Bn} {A b B Q p l R:Nat->Int} {L:Int}
theorem jK.mono (h:jK x A b B Q) (hle:x.le y=true):jK y A b B Q:=⟨h.F,fun i hi=>(h.h i hi).mono hle,h.s⟩
def Bn.fit (x:Bn):Bool:=decide (0<=x.o)&&(decide (x.o<=2090000)&&decide (x.P0<=450000))
theorem Bn.fit_iff {x:Bn}:x.fit=true↔0<=x.o/\x.o<=2090000/\x.P0<=450000:=by simp only[Bn.fit,Bool.and_eq_true,decide_eq_true_eq]
theorem jK.step (h:jK x A b B Q) (hJ:∀i,i<4->bu (Q i)) (hQ:au Q=true) (hB:∀i,i<3->-262144<=B i/\B i<=262144) (hx:x.fit=true) (st:qr p Q)
 (hL0:0<=L) (hL1:L<=66000000) (hl:4*vv l<=L*L) (hR:∀i,i<3->-(130*L+409600)<=65536* (R i-l i)/\65536* (R i-l i)<=130*L+409600):
 jK (x.step L) (dL A b B p R) (b9 A b p) B (bJ Q l):=by
 obtain⟨x0,x1,x2⟩:=Bn.fit_iff.1 hx
 obtain⟨tk,s,sm⟩:=uq h.F hJ hQ hB x2 (fun i hi=>(h.h i hi).a) x0 x1 (fun i hi=>(h.h i hi).o) h.s st.I st.v st.z hL0 hL1 hl hR
 exact⟨(h.F.cor st.I).pred _,fun i hi=>Az (h.h i hi) sm (tk i hi),s⟩
theorem y6 (F:FI A b) (hJ:∀i,i<4->bu (Q i)) (hQ:au Q=true) (hB:∀i,i<3->-262144<=B i/\B i<=262144) (hb:∀i,i<3->b i=0) (h0:8796093022208<=eD A Q 0) (st:qr p Q) (hs:aE (bO (am A p)) 1048576=true):jK Bn.ent A b B Q:=by
 have so:=jg F.i F.v hJ hQ st.I st.v h0 (z:=101) da da st.z
 refine⟨F,fun i hi=>Er (n:=0) (by have:=hB i hi;have:=hb i hi;omega) ?_,oa⟩
 have a:=bY (v:=fun i=>1073741824*am A p (i+1)-eD A Q (i+1)) da so hi
 have o1:-1048576<=am A p (i+1)/\am A p (i+1)<=1048576:=(cR _ _).1 ((bp _ _).1 hs i hi)
 omega
theorem jK.quiet {m:Int} (F:FI A b) (hJ:∀i,i<4->bu (Q i)) (hQ:au Q=true) (hB:∀i,i<3->-262144<=B i/\B i<=262144) (hb:∀i,i<3->b i=0) (hm0:0<=m) (hm:m<=2090000) (hE:∀i,i<3->-(1073741824*m)<=eD A Q (i+1)/\eD A Q (i+1)<=1073741824*m) (h0:0<=eD A Q 0) (st:qr p Q)
 (hL0:0<=L) (hL1:L<=66000000) (hl:4*vv l<=L*L) (hR:∀i,i<3->-(130*L+409600)<=65536* (R i-l i)/\65536* (R i-l i)<=130*L+409600) (hs:aE (bO (am A p)) 1048576=false):
 1048451<m/\FI (dL A b B p R) (b9 A b p)/\(∀i,i<3->b9 A b p i=0)/\(∀i,i<3->-(1073741824* ((3*m+524288+4*nF L m 262144+3)/4))<=eD (dL A b B p R) (bJ Q l) (i+1)/\eD (dL A b B p R) (bJ Q l) (i+1)<=1073741824* ((3*m+524288+4*nF L m 262144+3)/4))/\0<=eD (dL A b B p R) (bJ Q l) 0:=by
 have be:∀i,i<3->-262144<=b i-B i/\b i-B i<=262144:=fun i hi=>by have:=hB i hi;have:=hb i hi;omega
 obtain⟨tk,s,sm⟩:=uq F hJ hQ hB da be hm0 hm hE h0 st.I st.v st.z hL0 hL1 hl hR
 refine⟨?_,(F.cor st.I).pred _,fun i hi=>?_,fun i hi=>?_,s⟩
 ·apply bC;intro hc
  rw[sm oa]at hs;cases hs
 ·have:=((tk i hi).off hs).1
  have:=hb i hi
  omega
 ·obtain⟨_,t⟩:=(tk i hi).off hs
  have:=be i hi
  have:=hE i hi
  show-(1073741824* ((3*m+524288+4*nF L m 262144+3)/4))<=eD (eg (aU A p) (b9 A b p) (fun i=>4*R i+B i)) (bJ Q l) (i+1)/\eD (eg (aU A p) (b9 A b p) (fun i=>4*R i+B i)) (bJ Q l) (i+1)<=1073741824* ((3*m+524288+4*nF L m 262144+3)/4)
  omega
end
end Go.Proofs.YtbhahonkhiiilaaGreat
