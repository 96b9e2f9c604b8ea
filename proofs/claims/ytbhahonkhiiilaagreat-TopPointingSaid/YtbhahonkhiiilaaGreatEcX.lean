/-
  The estimate's beginning. No program in sight.
-/
import Derived.Test.YtbhahonkhiiilaaGreatTqG
set_option linter.unusedSimpArgs false
set_option linter.unusedVariables false
namespace Go.Proofs.YtbhahonkhiiilaaGreat
section
open Go.RowKit PM Dt
theorem jS (x:Nat->Int):vv (fun i=>-x i)=vv x:=by unfold vv;grind
theorem zW {v:Int} (h0:0<=v) (h1:v<=3600000000000000):∃m:Int,0<=m/\m<=60000001/\v<=m*m/\∀Z,0<=Z->v<=Z*Z->m-1<=Z:=by
 obtain⟨N,hN⟩:∃N,fY v.toNat=N:=⟨_,rfl⟩
 have h4:v.toNat<4^200:=Nat.lt_of_le_of_lt (show v.toNat<=3600000000000000 by omega) da
 have hr:N<60000001:=by rw[<-hN];exact(fc h4).2 oa
 have hu1:v.toNat<(N+1)* (N+1):=(fc h4).1 oa
 have hu2:N*N<=v.toNat:=(gN h4).1 oa
 have a:v<((N:Int)+1)* ((N:Int)+1):=by
  have:((v.toNat:Nat):Int)<(((N+1)* (N+1):Nat):Int):=by exact_mod_cast hu1
  push_cast at this
  omega
 have c:(N:Int)*N<=v:=by
  have:((N*N:Nat):Int)<=((v.toNat:Nat):Int):=by exact_mod_cast hu2
  push_cast at this
  omega
 refine⟨N+1,oa,oa,oa,fun Z hZ h=>?_⟩
 apply bC;intro hc
 have:=mM (show Z<=(N:Int)-1 by omega) (show Z<=(N:Int)-1 by omega) hZ oa
 have e:((N:Int)-1)* ((N:Int)-1)=(N:Int)*N-2*N+1:=by grind
 omega
theorem PF.start {X:cG} {S:dw} {B:Nat->Int} (r:RI X S) (hB:∀i,i<3->-262144<=B i/\B i<=262144):∃m0,0<=m0/\m0<=60000000/\vv (aX X)<=m0*m0/\(∀Z,0<=Z->vv (aX X)<=Z*Z->m0-1<=Z)/\PF 0 X (eg X.Q (fun _=>0) (fun i=>4*aX X i+B i)) (fun _=>0) B m0:=by
 have mb:=gB r.b
 have vM:vv (aX X)<=3592104488497152:=by
  have q:=fun i hi=>(bR (mb i hi).1 (mb i hi).2 (mb i hi).1 (mb i hi).2).2
  have q0:=q 0 oa
  have q1:=q 1 oa
  have q2:=q 2 oa
  unfold vv;omega
 obtain⟨m0,p0,p1,p2,p3⟩:=zW (fm (aX X)) oa
 have p4:=p3 59940000 da oa
 have hF:FI X.Q (fun _=>0):=FI.new r.b.q r.b.v
 have hrs:aE (fun i=>4*aX X i+B i) 268435456=true:=cP fun i hi=>by have:=mb i hi;have:=hB i hi;omega
 have hP:eg X.Q (fun _=>0) (fun i=>4*aX X i+B i)=fL X.Q (aS (cu (fun i=>4*aX X i+B i) (fun _=>0)) 2):=by unfold eg;rw[if_pos hrs]
 have F:=hF.pred (fun i=>4*aX X i+B i)
 rw[hP]at F|-
 obtain⟨h,hh⟩:∃h,aS (cu (fun i=>4*aX X i+B i) (fun _=>0)) 2=h:=⟨_,rfl⟩
 rw[hh]at F|-
 have h2:∀i,i<3->-1<=2*h i-(4*aX X i+B i)/\2*h i-(4*aX X i+B i)<=1:=fun i hi=>by
  have e:h i=bG (4*aX X i+B i-0) 1 2:=by rw[<-hh];unfold aS;rw[ff hrs (fun i hi=>by show-16777216<=(0:Int)/\(0:Int)<=16777216;decide) i hi]
  have a:=(cR _ _).1 ((bp _ _).1 hrs i hi)
  have:=ia (a:=4*aX X i+B i-0) (d:=2) da da ⟨oa,oa⟩
  rw[e];omega
 have bn:vv (fun i=>2*h i-4*aX X i)<=454062*454062:=by
  have q:=fun i hi=>(fun(hh:-262145<=2*h i-4*aX X i/\2*h i-4*aX X i<=262145)=>(bR hh.1 hh.2 hh.1 hh.2).2) (by have:=h2 i hi;have:=hB i hi;omega)
  have q0:=q 0 oa
  have q1:=q 1 oa
  have q2:=q 2 oa
  show(2*h 0-4*aX X 0)* (2*h 0-4*aX X 0)+(2*h 1-4*aX X 1)* (2*h 1-4*aX X 1)+(2*h 2-4*aX X 2)* (2*h 2-4*aX X 2)<=_
  omega
 have hM4:vv (fun i=>4*aX X i)<=(4*59940000)* (4*59940000):=by
  have:=ef 4 (aX X);omega
 have vh2:=cE (z:=fun i=>2*h i) da da hM4 bn fun i hi=>by show 2*h i=4*aX X i+(2*h i-4*aX X i);omega
 have vh:vv h<=120110000*120110000:=by have:=ef 2 h;omega
 have hsm:=kx (C:=120110000) da da vh
 have g0:aE (fun _=>0) 1073741824=true:=da
 obtain⟨N,P,hP',hN,q1,q2,law⟩:=mB (A:=X.Q) (Q:=X.Q) r.b.q r.b.v r.b.q r.b.v hsm g0 (K:=1080440000) da (by have:=eS h;unfold vv at vh;omega) da
 have eQ:cC X.Q (fun _=>0)=X.Q:=by unfold cC;rw[if_pos da]
 rw[eQ]at law
 obtain⟨_,l1,u1⟩:=bm r.b.q r.b.v
 have y0:pe (cj (rq h)) (pe (eD X.Q X.Q) (rq fun _=>0)) 0=1152921504606846976*nn X.Q:=by
  have r0:∀h:Nat->Int,rq h 0=1073741824:=fun h=>rfl
  have r1:∀h:Nat->Int,rq h 1=h 0:=fun h=>rfl
  have r2:∀h:Nat->Int,rq h 2=h 1:=fun h=>rfl
  have r3:∀h:Nat->Int,rq h 3=h 2:=fun h=>rfl
  simp only[pe,cj,eD,nn];rw[r0,r1,r2,r3,r0,r1,r2,r3];grind
 have yv:∀i,i<3->pe (cj (rq h)) (pe (eD X.Q X.Q) (rq fun _=>0)) (i+1)=-(1073741824*nn X.Q*h i):=fun i hi=>by
  have r0:∀h:Nat->Int,rq h 0=1073741824:=fun h=>rfl
  have r1:∀h:Nat->Int,rq h 1=h 0:=fun h=>rfl
  have r2:∀h:Nat->Int,rq h 2=h 1:=fun h=>rfl
  have r3:∀h:Nat->Int,rq h 3=h 2:=fun h=>rfl
  rcases(show i=0\/i=1\/i=2 by omega)with rfl|rfl|rfl<;>simp only[pe,cj,eD,nn]<;>rw[r0,r1,r2,r3,r0,r1,r2,r3]<;>grind
 have E0:0<=eD (cC X.Q h) X.Q 0:=by
  have l:=law 0 oa
  rw[y0]at l
  have a:1152921504606846976* (1073741820*1073741820)<=1152921504606846976*nn X.Q:=oa
  have b:=mL a (show 0<=P by omega)
  apply bC;intro hc
  have d:=mL (show eD (cC X.Q h) X.Q 0<=0 by omega) (show 0<=N by omega)
  omega
 have rb:vv (fun i=>N*eD (cC X.Q h) X.Q (i+1)+P* (1073741824*nn X.Q)*h i)<=(N*8589934800)* (N*8589934800):=by
  have:=dI (B:=N*4294967400) (x:=fun i=>N*eD (cC X.Q h) X.Q (i+1)+P* (1073741824*nn X.Q)*h i) oa fun i hi=>by
   have l:=law (i+1) oa
   rw[yv i hi]at l
   have e:P*-(1073741824*nn X.Q*h i)=-(P* (1073741824*nn X.Q)*h i):=by grind
   show _<=N*eD (cC X.Q h) X.Q (i+1)+P* (1073741824*nn X.Q)*h i/\N*eD (cC X.Q h) X.Q (i+1)+P* (1073741824*nn X.Q)*h i<=_
   omega
  have e:2* (N*4294967400)=N*8589934800:=oa
  rw[e]at this;exact this
 have K0:0<P* (1073741824*nn X.Q):=Int.mul_pos hP' oa
 have sch:∀H:Int,vv h<=H*H->vv (fun i=>P* (1073741824*nn X.Q)*h i)<=(P* (1073741824*nn X.Q)*H)* (P* (1073741824*nn X.Q)*H):=fun H hH=>by
  rw[ef (P* (1073741824*nn X.Q)) h]
  have a:=mL hH (av (P* (1073741824*nn X.Q)))
  have e:(P* (1073741824*nn X.Q)*H)* (P* (1073741824*nn X.Q)*H)=P* (1073741824*nn X.Q)* (P* (1073741824*nn X.Q))* (H*H):=by grind
  rw[e];exact a
 have Pq:P*nn X.Q<=P* (1073741829*1073741829):=mL oa oa
 have Pq2:P* (1073741820*1073741820)<=P*nn X.Q:=mL l1 oa
 have eP:P* (1073741824*nn X.Q)=1073741824* (P*nn X.Q):=by grind
 refine⟨m0,p0,oa,p2,p3,.inl ⟨F,fun i hi=>rfl,?_,E0,fun _ x hx hn=>?_,fun x hx=>?_⟩⟩
 ·have t:=cE (z:=fun i=>N*eD (cC X.Q h) X.Q (i+1)) (X:=P* (1073741824*nn X.Q)*120110000) (Y:=N*8589934800) (mN oa da) oa (x:=fun i=>-(P* (1073741824*nn X.Q)*h i)) (y:=fun i=>N*eD (cC X.Q h) X.Q (i+1)+P* (1073741824*nn X.Q)*h i) (by rw[jS fun i=>P* (1073741824*nn X.Q)*h i];exact sch _ vh) rb fun i hi=>by
   show N*eD (cC X.Q h) X.Q (i+1)=-(P* (1073741824*nn X.Q)*h i)+(N*eD (cC X.Q h) X.Q (i+1)+P* (1073741824*nn X.Q)*h i);omega
  refine cF (v:=qw (eD (cC X.Q h) X.Q)) hN (Int.add_nonneg (mN oa da) oa) t ?_
  show _<=N* (1073741824*121000000)
  omega
 ·show 1974000*m0<=1000000*x+230000000000
  obtain⟨H,hH⟩:∃H,H=(10126*x+110000)/10000:=⟨_,rfl⟩
  have nE:vv (fun i=>N*eD (cC X.Q h) X.Q (i+1))<=(N* (1073741824*x))* (N* (1073741824*x)):=by
   have:=ef N (qw (eD (cC X.Q h) X.Q))
   have e2:vv (fun i=>N*eD (cC X.Q h) X.Q (i+1))=N*N*vv (qw (eD (cC X.Q h) X.Q)):=this
   rw[e2]
   have a:=mL hn (av N)
   have e:(N* (1073741824*x))* (N* (1073741824*x))=N*N* ((1073741824*x)* (1073741824*x)):=by grind
   rw[e];exact a
  have t:=cE (z:=fun i=>P* (1073741824*nn X.Q)*h i) (X:=N* (1073741824*x)) (Y:=N*8589934800) (mN oa oa) oa (x:=fun i=>-(N*eD (cC X.Q h) X.Q (i+1))) (y:=fun i=>N*eD (cC X.Q h) X.Q (i+1)+P* (1073741824*nn X.Q)*h i) (by rw[jS fun i=>N*eD (cC X.Q h) X.Q (i+1)];exact nE) rb fun i hi=>by
   show P* (1073741824*nn X.Q)*h i=-(N*eD (cC X.Q h) X.Q (i+1))+(N*eD (cC X.Q h) X.Q (i+1)+P* (1073741824*nn X.Q)*h i);omega
  have vH:vv h<=H*H:=by
   refine cF (v:=h) K0 (Int.add_nonneg (mN oa oa) oa) t ?_
   have a:N* (1073741824*x)+N*8589934800=N* (1073741824*x+8589934800):=by grind
   have n1:N*1000000<=1012600* (P*nn X.Q):=oa
   have b:=mR n1 (show 0<=1073741824*x+8589934800 by omega)
   have e1:N*1000000* (1073741824*x+8589934800)=1000000* (N* (1073741824*x+8589934800)):=by grind
   have e2:1012600* (P*nn X.Q)* (1073741824*x+8589934800)=P*nn X.Q* (1012600* (1073741824*x+8589934800)):=by grind
   have c:=mL (show 1012600* (1073741824*x+8589934800)<=1000000* (1073741824*H) by omega) (show 0<=P*nn X.Q by omega)
   have e3:P*nn X.Q* (1000000* (1073741824*H))=1000000* (P* (1073741824*nn X.Q)*H):=by grind
   rw[a];omega
  have hH2:vv (fun i=>2*h i)<=(2*H)* (2*H):=by
   have:=ef 2 h
   have e:(2*H)* (2*H)=2*2* (H*H):=by grind
   omega
  have tm:=cE (z:=fun i=>4*aX X i) (X:=2*H) (Y:=454062) oa da hH2 (show vv (fun i=>-(2*h i-4*aX X i))<=_ by rw[jS fun i=>2*h i-4*aX X i];exact bn) fun i hi=>by show 4*aX X i=2*h i+-(2*h i-4*aX X i);omega
  have vm:vv (aX X)<=((2*H+454065)/4)* ((2*H+454065)/4):=by
   refine cF (v:=aX X) (N:=4) da oa tm oa
  have:=p3 _ oa vm
  omega
 ·have hx:2000200*m0+227110000000<=1000000*x:=hx
  have hM:vv (fun i=>4*aX X i)<=(4*m0)* (4*m0):=by
   have:=ef 4 (aX X)
   have e:(4*m0)* (4*m0)=4*4* (m0*m0):=by grind
   omega
  have v2:=cE (z:=fun i=>2*h i) oa da hM bn fun i hi=>by show 2*h i=4*aX X i+(2*h i-4*aX X i);omega
  have vH:vv h<=(2*m0+227031)* (2*m0+227031):=cF (v:=h) (N:=2) da oa v2 oa
  have t:=cE (z:=fun i=>N*eD (cC X.Q h) X.Q (i+1)) (X:=P* (1073741824*nn X.Q)* (2*m0+227031)) (Y:=N*8589934800) (mN oa oa) oa (x:=fun i=>-(P* (1073741824*nn X.Q)*h i)) (y:=fun i=>N*eD (cC X.Q h) X.Q (i+1)+P* (1073741824*nn X.Q)*h i) (by rw[jS fun i=>P* (1073741824*nn X.Q)*h i];exact sch _ vH) rb fun i hi=>by
   show N*eD (cC X.Q h) X.Q (i+1)=-(P* (1073741824*nn X.Q)*h i)+(N*eD (cC X.Q h) X.Q (i+1)+P* (1073741824*nn X.Q)*h i);omega
  refine cF (v:=qw (eD (cC X.Q h) X.Q)) hN (Int.add_nonneg (mN oa oa) oa) t ?_
  have n1:10000000* (P*nn X.Q)<=10000001*N:=oa
  have b:=mR n1 (show 0<=1073741824* (2*m0+227031) by omega)
  have e1:10000000* (P*nn X.Q)* (1073741824* (2*m0+227031))=10000000* (P* (1073741824*nn X.Q)* (2*m0+227031)):=by grind
  have e2:10000001*N* (1073741824* (2*m0+227031))=N* (10000001* (1073741824* (2*m0+227031))):=by grind
  have c:=mL (show 10000001* (1073741824* (2*m0+227031))+10000000*8589934800<=10000000* (1073741824*x) by omega) (show 0<=N by omega)
  have e3:N* (10000001* (1073741824* (2*m0+227031))+10000000*8589934800)=N* (10000001* (1073741824* (2*m0+227031)))+10000000* (N*8589934800):=by grind
  have e4:N* (10000000* (1073741824*x))=10000000* (N* (1073741824*x)):=by grind
  omega
end
section
open Go.RowKit PM Dt
def GE (j:Nat):Int:=jF (262144* ((j:Int)+1)) 4194304
def mF (j:Nat):Int:=34642*GE j/10000+1
def tS (j:Nat):Int:=[14500000,11306322,8871007,7014837,5600950,4524825,3706643,3085444,2614678,2258796,1990647,1789498,1639516,1528609,1447544,1389267,1348393,1317178].getD j 0
def tO (j:Nat):Int:=[2090000,2090000,2090000,2090000,2090000,2090000,2090000,2090000,2090000,2090000,1990647,1708169,1497439,1341259,1226670,1143888,1085510,1039957].getD j 0
def oC (j:Nat):Int:=if j<8 then 1560000 else 1060000
def ny:Bn:=⟨324268,313572,304148,298497,984968⟩
def nC (j:Nat):Int:=[3059909,2457321,1999518,1652287,1389497,1191191,1083001,930680,878969,885210,891449,897690,903930,910171,916412,922651,922651,922651,922651,922651,922651,922651,922651,922651,922651,922651,922651,922651].getD j 0
def A7 (x:Int):Int:=(x+132)/4+1
def Jn (e:Int) (j:Nat):Int:=17321* ((e+1)/2+(130*mF j+409600)/32768+2)/10000+1
def Bn.good:Nat->Nat->Bn->Bool
 |0,j,x=>x.le ny
 |f+1,j,x=>(x.fit&&(decide (x.o<=oC j)&&decide (x.P0<=420000)))&&Bn.good f (j+1) (x.step (mF j))
theorem Cn:∀a:Nat,a<=20->Bn.good 28 0 (tT a)=true:=by decide+kernel
theorem Dr:∀j:Nat,j<=17->Bn.good (28-j) j Bn.ent=true:=by decide+kernel
theorem x_:∀j:Nat,j<28->0<=mF j/\mF j<=66000000/\12* (GE j*GE j)<=mF j*mF j/\A7 (17321*oC (j+1)/10000+1)+Jn 420000 j<=nC j:=by decide+kernel
theorem vX:∀j:Nat,j<17->0<=tS j/\tS j<=130000000/\1015700* ((30075*tS j+19371899)/40000)+1007900*qs (mF j)+9000000<=1000000*tS (j+1):=by decide+kernel
theorem He:∀j:Nat,j<17->0<=qs (mF j)/\qs (mF j)<=1300000/\0<=tS (j+1)/\A7 (tS (j+1))+Jn 262144 j<=nC j:=by decide+kernel
theorem Iz:∀j:Nat,j<17->10<=j->0<=tO j/\tO j<=2090000/\(3*tO j+524288+4*nF (mF j) (tO j) 262144+3)/4<=tO (j+1):=by decide+kernel
variable{A b B Q p l R:Nat->Int} {j:Nat}
structure QA (j:Nat) (A b Q:Nat->Int):Prop where
 F:FI A b
 z:∀i,i<3->b i=0
 n:Nr A Q (tS j)
 s:0<=eD A Q 0
 o:10<=j->∀i,i<3->-(1073741824*tO j)<=eD A Q (i+1)/\eD A Q (i+1)<=1073741824*tO j
 j:j<=17
def PG (j:Nat) (A b B Q:Nat->Int):Prop:=QA j A b Q\/∃x,jK x A b B Q/\Bn.good (28-j) j x=true
theorem o6 {x:Int} (F:FI A b) (hJ:∀i,i<4->bu (Q i)) (hQ:au Q=true) (h0:8796093022208<=eD A Q 0) (hx:0<=x) (hx2:x<=130000000) (hn:Nr A Q x) (st:qr p Q):∃c,aU A p=cC A c/\vv c<=A7 x*A7 x:=by
 have so:=jg F.i F.v hJ hQ st.I st.v h0 (z:=101) da da st.z
 have hbe:fF A p=0:=by unfold fF;rw[F.v,st.v];rfl
 refine⟨aS (bO (am A p)) 4,by unfold aU;rw[if_pos hbe];rfl,?_⟩
 have t:=cE (z:=fun i=>1073741824*am A p (i+1)) da oa so hn fun i hi=>by
  show 1073741824*am A p (i+1)=(1073741824*am A p (i+1)-eD A Q (i+1))+eD A Q (i+1);omega
 have t2:vv (fun i=>am A p (i+1))<=(x+125)* (x+125):=cF (v:=fun i=>am A p (i+1)) (N:=1073741824) da oa t oa
 have cb:=fun i (hi:i<3)=>bY oa t2 hi
 have e4:vv (fun i=>4*aS (bO (am A p)) 4 i-am A p (i+1))<=4*4:=dI (B:=2) da fun i hi=>by
  have b1:=cb i hi
  have:=ia (a:=am A p (i+1)) (d:=4) da da ⟨oa,oa⟩
  show-2<=4*bG (am A p (i+1)) 1 4-am A p (i+1)/\4*bG (am A p (i+1)) 1 4-am A p (i+1)<=2
  omega
 have t3:=cE (z:=fun i=>4*aS (bO (am A p)) 4 i) oa da t2 e4 fun i hi=>by
  show 4*aS (bO (am A p)) 4 i=am A p (i+1)+(4*aS (bO (am A p)) 4 i-am A p (i+1));omega
 exact cF (v:=aS (bO (am A p)) 4) (N:=4) da oa t3 (by unfold A7;omega)
theorem oM {e L:Int} (F:FI A b) (hB:∀i,i<3->-262144<=B i/\B i<=262144) (he:∀i,i<3->-e<=b i-B i/\b i-B i<=e) (he1:e<=450000) (hR2:∀i,i<3->-34603008<=R i/\R i<=34603008) (hL0:0<=L) (hR:∀i,i<3->-(130*L+409600)<=65536* (R i-l i)/\65536* (R i-l i)<=130*L+409600):
 ∃h,eg A b (fun i=>4*R i+B i)=cC A h/\∀i,i<3->-((e+1)/2+(130*L+409600)/32768+2)<=2*l i-h i/\2*l i-h i<=(e+1)/2+(130*L+409600)/32768+2:=by
 have hrs:aE (fun i=>4*R i+B i) 268435456=true:=cP fun i hi=>by have:=hR2 i hi;have:=hB i hi;omega
 refine⟨aS (cu (fun i=>4*R i+B i) b) 2,by unfold eg;rw[if_pos hrs];rfl,fun i hi=>?_⟩
 have e1:aS (cu (fun i=>4*R i+B i) b) 2 i=bG (4*R i+B i-b i) 1 2:=by unfold aS;rw[ff hrs F.b i hi]
 have a:=(cR _ _).1 ((bp _ _).1 hrs i hi)
 have c:=F.b i hi
 have:=ia (a:=4*R i+B i-b i) (d:=2) da da ⟨oa,oa⟩
 have r:=hR i hi
 have h:=he i hi
 rw[e1];omega
theorem xA {v:Nat->Int} {c:Int} (hc:0<=c) (h:∀i,i<3->-c<=v i/\v i<=c):vv v<=(17321*c/10000+1)* (17321*c/10000+1):=by
 have q:=fun i hi=>(bR (h i hi).1 (h i hi).2 (h i hi).1 (h i hi).2).2
 have q0:=q 0 oa
 have q1:=q 1 oa
 have q2:=q 2 oa
 have a:=mM (show 17321*c<=10000* (17321*c/10000+1) by omega) (show 17321*c<=10000* (17321*c/10000+1) by omega) oa oa
 have e1:17321*c* (17321*c)=300017041* (c*c):=by grind
 have e2:10000* (17321*c/10000+1)* (10000* (17321*c/10000+1))=100000000* ((17321*c/10000+1)* (17321*c/10000+1)):=by grind
 have:=av c
 unfold vv;omega
theorem vU {x:Int} (F:FI A b) (hJ:∀i,i<4->bu (Q i)) (hQ:au Q=true) (h0:0<=eD A Q 0) (hx0:0<=x) (hx:x<=130000000) (hn:Nr A Q x):8796093022208<=eD A Q 0:=by
 have:=qM F.i F.v hJ hQ hx0 hx hn h0;omega
theorem jK.nr {x:Bn} (h:jK x A b B Q) (h0:0<=x.o):Nr A Q (17321*x.o/10000+1):=by
 have q:=fun i hi=>(bR (h.h i hi).o.1 (h.h i hi).o.2 (h.h i hi).o.1 (h.h i hi).o.2).2
 have q0:eD A Q 1*eD A Q 1<=_:=q 0 oa
 have q1:eD A Q 2*eD A Q 2<=_:=q 1 oa
 have q2:eD A Q 3*eD A Q 3<=_:=q 2 oa
 have a:=mM (show 17321*x.o<=10000* (17321*x.o/10000+1) by omega) (show 17321*x.o<=10000* (17321*x.o/10000+1) by omega) oa oa
 have e1:17321*x.o* (17321*x.o)=300017041* (x.o*x.o):=by grind
 have e2:10000* (17321*x.o/10000+1)* (10000* (17321*x.o/10000+1))=100000000* ((17321*x.o/10000+1)* (17321*x.o/10000+1)):=by grind
 have e3:1073741824*x.o* (1073741824*x.o)=1152921504606846976* (x.o*x.o):=by grind
 have e4:1073741824* (17321*x.o/10000+1)* (1073741824* (17321*x.o/10000+1))=1152921504606846976* ((17321*x.o/10000+1)* (17321*x.o/10000+1)):=by grind
 have:=av x.o
 show eD A Q 1*eD A Q 1+eD A Q 2*eD A Q 2+eD A Q 3*eD A Q 3<=_
 rw[e4]
 rw[e3]at q0 q1 q2
 omega
theorem ui {f j:Nat} {x:Bn} (h:Bn.good (f+1) j x=true):x.fit=true/\x.o<=oC j/\x.P0<=420000/\Bn.good f (j+1) (x.step (mF j))=true:=by
 simp only[Bn.good,Bool.and_eq_true,decide_eq_true_eq]at h
 exact⟨h.1.1,h.1.2.1,h.1.2.2,h.2⟩
def mU (pi:Int) (A b B Q l R p A' Q':Nat->Int):Prop:=∃h:Nat->Int,∃d c:Int,0<=d/\0<=c/\d+c<=pi/\A'=cC (aU A p) h/\vv (fun i=>2*l i-h i)<=d*d/\∀p',qr p' Q'->∃c',aU A' p'=cC A' c'/\vv c'<=c*c
theorem jK.o0 {x:Bn} (h:jK x A b B Q):0<=x.o:=by have:=(h.h 0 oa).o;omega
theorem Cj {x:Bn} (hj:j<=28) (h:Bn.good (28-j) j x=true):x.o<=oC j/\x.P0<=420000:=by
 by_cases e:j=28
 ·subst e
  obtain⟨h0,_,_,_,h4⟩:=Bn.le_iff.1 (show x.le ny=true from h)
  have e0:ny.P0=324268:=rfl
  have e4:ny.o=984968:=rfl
  have e5:oC 28=1060000:=rfl
  rw[e5];omega
 ·obtain⟨f,hf⟩:∃f,28-j=f+1:=⟨27-j,oa⟩
  rw[hf]at h
  obtain⟨_,a,b,_⟩:=ui h
  exact⟨a,b⟩
theorem G7 {e:Int} (he:0<=e) (hL:0<=mF j):0<=(e+1)/2+(130*mF j+409600)/32768+2/\0<=Jn e j:=by
 unfold Jn;generalize mF j=L at *;omega
theorem IA (L:Int):32768*454060+2* (130*L+409600)+65536<=65536*qs L:=by unfold qs;omega
theorem CS {x:Int} (h:0<=x):0<=A7 x:=by unfold A7;omega
theorem JH (j:Nat):oC j<=1560000:=by unfold oC;split<;>omega
theorem PG.step (h:PG j A b B Q) (hj:j<28) (hJ:∀i,i<4->bu (Q i)) (hQ:au Q=true) (hB:∀i,i<3->-262144<=B i/\B i<=262144) (st:qr p Q) (sl:∀i,i<3->-GE j<=l i/\l i<=GE j)
 (lg:vv (fun i=>65536* (R i-l i))<=(130*mF j+409600)* (130*mF j+409600)) (hR2:∀i,i<3->-34603008<=R i/\R i<=34603008) (hJ':∀i,i<4->bu (bJ Q l i)) (hQ':au (bJ Q l)=true):
 PG (j+1) (dL A b B p R) (b9 A b p) B (bJ Q l)/\mU (nC j) A b B Q l R p (dL A b B p R) (bJ Q l):=by
 obtain⟨L0,L1,L2,pi1⟩:=x_ j hj
 have hl:=q8 sl L2
 have hR:=fun i (hi:i<3)=>bY (v:=fun i=>65536* (R i-l i)) oa lg hi
 have learn:∀x,jK x A b B Q->Bn.good (28-j) j x=true->PG (j+1) (dL A b B p R) (b9 A b p) B (bJ Q l)/\mU (nC j) A b B Q l R p (dL A b B p R) (bJ Q l):=fun x M g=>by
  obtain⟨f,hf⟩:∃f,28-j=f+1:=⟨27-j,oa⟩
  rw[hf]at g
  obtain⟨ft,_,_,g2⟩:=ui g
  rw[show f=28-(j+1) by omega]at g2
  have M2:=M.step hJ hQ hB ft st L0 L1 hl hR
  obtain⟨o1,o2⟩:=Cj oa g2
  have o0:=M2.o0
  have oc:=JH (j+1)
  refine⟨.inr ⟨_,M2,g2⟩,?_⟩
  obtain⟨h,e1,e2⟩:=oM (e:=420000) (M.F.cor st.I) hB (fun i hi=>by have:=(M2.h i hi).a;omega) da hR2 L0 hR
  have dk:=G7 (e:=420000) da L0
  refine⟨h,Jn 420000 j,A7 (17321*oC (j+1)/10000+1),dk.2,CS oa,(by rw[Int.add_comm];exact pi1),e1,xA dk.1 e2,fun p' st'=>?_⟩
  have nr:=(M2.nr o0).mono oa (show 17321* (x.step (mF j)).o/10000+1<=17321*oC (j+1)/10000+1 by omega)
  exact o6 M2.F hJ' hQ' (vU M2.F hJ' hQ' M2.s oa oa nr) oa oa nr st'
 rcases h with h|⟨x,M,g⟩
 ·have n1:0<=tS j/\tS j<=130000000:=by
   by_cases e:j<17
   ·obtain⟨a,b,_⟩:=vX j e;exact⟨a,b⟩
   ·have:j=17:=by have:=h.j;omega
    subst this;decide+kernel
  have E0:=qM h.F.i h.F.v hJ hQ n1.1 n1.2 h.n h.s
  cases hsm:aE (bO (am A p)) 1048576 with
  |true=>exact learn Bn.ent (y6 h.F hJ hQ hB h.z oa st hsm) (Dr j h.j)
  | false=>
    have hl2:4*vv l<=mF j*mF j:=hl
    by_cases e17:j=17
    ·subst e17
     obtain⟨a,_⟩:=jK.quiet h.F hJ hQ hB h.z (m:=tO 17) (by decide+kernel) (by decide+kernel) (h.o da) h.s st L0 L1 hl hR hsm
     exact absurd a (by decide+kernel)
    have hj17:j<17:=by have:=h.j;omega
    obtain⟨a0,a1,a2⟩:=vX j hj17
    obtain⟨b0,b1,b2,b3⟩:=He j hj17
    obtain⟨cb,up,_⟩:=ox h.F hJ hQ hB h.z hsm a0 a1 h.n h.s st.I st.v st.z L0 oa hl lg hR2 b0 b1 (IA _)
    obtain⟨m1,s1⟩:=up ((30075*tS j+19371899)/40000) (tS (j+1)) oa a2
    have F2:FI (dL A b B p R) (b9 A b p):=(h.F.cor st.I).pred _
    have z2:∀i,i<3->b9 A b p i=0:=fun i hi=>by rw[cb];exact h.z i hi
    have hS1:tS (j+1)<=130000000:=by
     by_cases e:j+1<17
     ·exact(vX (j+1) e).2.1
     ·have:j=16:=oa
      subst this;decide+kernel
    refine⟨.inl ⟨F2,z2,m1,s1,fun h10=>?_,oa⟩,?_⟩
    ·by_cases e10:10<=j
     ·obtain⟨c0,c1,c2⟩:=Iz j hj17 e10
      obtain⟨_,_,_,q,_⟩:=jK.quiet h.F hJ hQ hB h.z c0 c1 (h.o e10) h.s st L0 L1 hl hR hsm
      intro i hi
      have:=q i hi
      omega
     ·have:j=9:=oa
      subst this
      intro i hi
      exact bY (V:=1073741824*tS 10) (v:=qw (eD (dL A b B p R) (bJ Q l))) (mN da b2) m1 hi
    ·obtain⟨h',e1,e2⟩:=oM (e:=262144) (h.F.cor st.I) hB (fun i hi=>by have:=z2 i hi;have:=hB i hi;omega) da hR2 L0 hR
     have dk:=G7 (e:=262144) da L0
     refine⟨h',Jn 262144 j,A7 (tS (j+1)),dk.2,CS b2,(by rw[Int.add_comm];exact b3),e1,xA dk.1 e2,fun p' st'=>?_⟩
     exact o6 F2 hJ' hQ' (vU F2 hJ' hQ' s1 b2 hS1 m1) b2 hS1 m1 st'
 ·exact learn x M g
end
end Go.Proofs.YtbhahonkhiiilaaGreat
