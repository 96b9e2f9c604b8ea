/-
  The star's error and the correction, by norms, for any angle. No program in sight.
-/
import Derived.Test.YtbhahonkhiiilaaGreatTqA
set_option linter.unusedSimpArgs false
set_option linter.unusedVariables false
namespace Go.Proofs.YtbhahonkhiiilaaGreat
section
open Go.RowKit PM Dt
theorem GM {x y:Nat->Int} (h:∀i,i<4->x i=y i):nn x=nn y:=by
 unfold nn;rw[h 0 oa,h 1 oa,h 2 oa,h 3 oa]
theorem jg {A Q p:Nat->Int} {z:Int} (hI:∀i,i<4->bu (A i)) (hA:au A=true) (hJ:∀i,i<4->bu (Q i)) (hQ:au Q=true) (hK:∀i,i<4->bu (p i)) (hp:au p=true)
 (h0:8796093022208<=eD A Q 0) (hz0:0<=z) (hz1:z<=4096) (hz:vv (fun i=>am p Q (i+1))<=z*z):
 vv (fun i=>1073741824*am A p (i+1)-eD A Q (i+1))<=(1073741824* (z+24))* (1073741824* (z+24)):=by
 obtain⟨_,l1,u1⟩:=bm hJ hQ
 obtain⟨_,l2,u2⟩:=bm hK hp
 obtain⟨_,l3,u3⟩:=bm hI hA
 obtain⟨b0,s,hs,e,he⟩:=dJ hK hp hJ hQ
 have hss:s*s=1:=by rcases hs with rfl|rfl<;>rfl
 obtain⟨F,hF⟩:∃F:Nat->Int,F=fun j=>s*eD Q p j:=⟨_,rfl⟩
 have sw:=FY p Q
 have fn:nn F=nn Q*nn p:=by rw[hF];have:=c_ s (eD Q p);rw[hss,kT]at this;unfold sc at this;omega
 have lo:1073741820*1073741820* (1073741820*1073741820)<=nn Q*nn p:=mM l1 l2 da oa
 have up:nn Q*nn p<=1073741829*1073741829* (1073741829*1073741829):=mM oa oa (aT p) da
 have ev:vv (fun i=>e (i+1))<=1073741824*1073741824:=by
  have:=dI (B:=536870912) (x:=fun i=>e (i+1)) da fun i hi=>(he (i+1) oa).1
  omega
 have bz:vv (fun i=>1073741824*am p Q (i+1))<=(1073741824*z)* (1073741824*z):=by
  have:=ef 1073741824 fun i=>am p Q (i+1)
  rw[this]
  have e:(1073741824*z)* (1073741824*z)=1073741824*1073741824* (z*z):=by grind
  omega
 have neg:∀x:Nat->Int,vv (fun i=>-x i)=vv x:=fun x=>by unfold vv;grind
 have fv:vv (qw F)<=(1073741824*z+1073741824)* (1073741824*z+1073741824):=by
  have t:=cE (X:=1073741824*z) (Y:=1073741824) (z:=qw F) (x:=fun i=>-(1073741824*am p Q (i+1))) (y:=fun i=>e (i+1)) oa da (by rw[neg fun i=>1073741824*am p Q (i+1)];exact bz) ev fun i hi=>by
   have a:=(he (i+1) oa).2
   show F (i+1)=-(1073741824*am p Q (i+1))+e (i+1)
   rw[hF]
   show s*eD Q p (i+1)=_
   rw[sw.2 i hi]
   have:s*-eD p Q (i+1)=-(s*eD p Q (i+1)):=by grind
   omega
  exact t
 have zz:(1073741824*z+1073741824)* (1073741824*z+1073741824)<=4399120252928*4399120252928:=mM oa oa oa da
 have fe:=jC F
 have hF0:-536870912<=F 0:=by
  have a:=he 0 oa
  rw[hF]
  show-536870912<=s*eD Q p 0
  rw[sw.1]
  omega
 have v0:=fm (qw F)
 have F0l:1152921495000000000<=F 0:=by
  apply bC;intro hc
  have:=(bR (P:=1152921495000000000) (R:=1152921495000000000) (a:=F 0) (b:=F 0) oa oa oa oa).2
  omega
 have F0u:F 0<=1152921516500000000:=by
  apply bC;intro hc
  have:=mM (show 1152921516500000000<=F 0 by omega) (show 1152921516500000000<=F 0 by omega) da oa
  omega
 obtain⟨G,hG⟩:∃G:Nat->Int,G=fun j=>if j=0 then F 0-nn Q else F j:=⟨_,rfl⟩
 have gn:nn G<=(1073741824*z+1073741824+22000000000)* (1073741824*z+1073741824+22000000000):=by
  have e:nn G=(F 0-nn Q)* (F 0-nn Q)+vv (qw F):=by rw[jC,hG];rfl
  have a:=(bR (P:=22000000000) (R:=22000000000) (a:=F 0-nn Q) (b:=F 0-nn Q) oa oa oa oa).2
  have e2:(1073741824*z+1073741824+22000000000)* (1073741824*z+1073741824+22000000000)=(1073741824*z+1073741824)* (1073741824*z+1073741824)+2* (22000000000* (1073741824*z+1073741824))+22000000000*22000000000:=by grind
  omega
 have enn:nn (eD A Q)<=1152921515344265241*1152921515344265241:=by
  rw[kT]
  have:=mM (show nn A<=1073741829*1073741829 by omega) (show nn Q<=1073741829*1073741829 by omega) (aT Q) da
  exact iT this da
 have dif:∀i,i<4->nn Q* (s*eD A p i-eD A Q i)=pe (eD A Q) G i:=fun i hi=>by
  have v:=IY A Q p i hi
  have e1:nn Q* (s*eD A p i-eD A Q i)=s* (nn Q*eD A p i)-nn Q*eD A Q i:=by grind
  rw[e1,v,hG,hF]
  generalize eD A Q=X
  generalize eD Q p=Y
  rcases(show i=0\/i=1\/i=2\/i=3 by omega)with rfl|rfl|rfl|rfl<;>simp[pe]<;>grind
 have dn:nn (fun i=>nn Q* (s*eD A p i-eD A Q i))<=(1152921515344265241* (1073741824*z+23073741824))* (1152921515344265241* (1073741824*z+23073741824)):=by
  have e:nn (fun i=>nn Q* (s*eD A p i-eD A Q i))=nn (pe (eD A Q) G):=by
   exact GM dif
  rw[e,dR]
  have a:=mM enn gn (aT G) da
  have e2:(1152921515344265241* (1073741824*z+23073741824))* (1152921515344265241* (1073741824*z+23073741824))=1152921515344265241*1152921515344265241* ((1073741824*z+1073741824+22000000000)* (1073741824*z+1073741824+22000000000)):=by grind
  rw[e2];exact a
 have dn2:nn (fun i=>s*eD A p i-eD A Q i)<=(1073741824*z+23100000000)* (1073741824*z+23100000000):=by
  have e:nn (fun i=>nn Q* (s*eD A p i-eD A Q i))=nn Q*nn Q*nn (fun i=>s*eD A p i-eD A Q i):=c_ (nn Q) fun i=>s*eD A p i-eD A Q i
  rw[e]at dn
  have a:1152921515344265241* (1073741824*z+23073741824)<=nn Q* (1073741824*z+23100000000):=by
   have:=mR l1 (show 0<=1073741824*z+23100000000 by omega)
   omega
  have b:=mM a a (mN da oa) (mN oa oa)
  have e2:nn Q* (1073741824*z+23100000000)* (nn Q* (1073741824*z+23100000000))=nn Q*nn Q* ((1073741824*z+23100000000)* (1073741824*z+23100000000)):=by grind
  rw[e2]at b
  exact mC (iT dn b) (Int.mul_pos oa oa)
 have c0:=cK (i:=0) oa dn2 oa
 have w:=uC (s:=s) hI hA hK hp hs oa
 have wv:vv (fun i=>1073741824*am A p (i+1)-s*eD A p (i+1))<=1073741824*1073741824:=by
  have:=dI (B:=536870912) (x:=fun i=>1073741824*am A p (i+1)-s*eD A p (i+1)) da fun i hi=>w (i+1) oa
  omega
 have t:=cE (X:=1073741824) (Y:=1073741824*z+23100000000) (z:=fun i=>1073741824*am A p (i+1)-eD A Q (i+1)) da (show 0<=1073741824*z+23100000000 by omega) wv (ey dn2) fun i hi=>by
  show 1073741824*am A p (i+1)-eD A Q (i+1)=1073741824*am A p (i+1)-s*eD A p (i+1)+(s*eD A p (i+1)-eD A Q (i+1));omega
 refine iT t (mM oa oa oa oa)
theorem Bv (E c:Nat->Int):(∀i,i<3->4*pe (cj (rq c)) (pe E (rq fun _=>0)) (i+1)=(4611686018427387904-E 0)*E (i+1)-pe (qv fun j=>4294967296*c j-E (j+1)) E (i+1))/\
 4*pe (cj (rq c)) (pe E (rq fun _=>0)) 0=4611686018427387904*E 0+(4294967296*c 0*E 1+4294967296*c 1*E 2+4294967296*c 2*E 3):=by
 have r0:∀h:Nat->Int,rq h 0=1073741824:=fun h=>rfl
 have r1:∀h:Nat->Int,rq h 1=h 0:=fun h=>rfl
 have r2:∀h:Nat->Int,rq h 2=h 1:=fun h=>rfl
 have r3:∀h:Nat->Int,rq h 3=h 2:=fun h=>rfl
 constructor
 ·intro i hi
  rcases(show i=0\/i=1\/i=2 by omega)with rfl|rfl|rfl<;>simp only[pe,cj,qv]<;>rw[r0,r1,r2,r3,r0,r1,r2,r3]<;>grind
 ·simp only[pe,cj]
  rw[r0,r1,r2,r3,r0,r1,r2,r3]
  grind
theorem qX {A Q c:Nat->Int} {K z:Int} (hI:∀i,i<4->bu (A i)) (hA:au A=true) (hJ:∀i,i<4->bu (Q i)) (hQ:au Q=true) (hs:aE c 1073741824=true) (hK:1073741824<=K) (h2:nn (rq c)<=K*K) (hz:0<=z)
 (hc:vv (fun i=>4294967296*c i-eD A Q (i+1))<=(1073741824*z)* (1073741824*z)) (hE0:0<=eD A Q 0):
 ∃N P:Int,0<P/\0<N/\P* (1073741818*1073741818)<=N/\N* (1073741816*1073741816)<=P* (K*K)* (1073741829*1073741829)/\
  (∀X,0<=X->vv (qw (eD A Q))<=X*X->vv (fun i=>4*N*eD (cC A c) Q (i+1))<=(P* ((4611686018427387904-eD A Q 0)*X+1152921515344265241* (1073741824*z))+N*34359739200)* (P* ((4611686018427387904-eD A Q 0)*X+1152921515344265241* (1073741824*z))+N*34359739200))/\
  (∀X,0<=X->vv (qw (eD (cC A c) Q))<=X*X->vv (fun i=>P* (4611686018427387904-eD A Q 0)*eD A Q (i+1))<=(N* (4*X+34359739200)+P* (1152921515344265241* (1073741824*z)))* (N* (4*X+34359739200)+P* (1152921515344265241* (1073741824*z))))/\
  P* (4611686018427387904*eD A Q 0-1152921515344265241* (1073741824*z))<=4* (N* (eD (cC A c) Q 0+4294967400)):=by
 have g0:aE (fun _=>0) 1073741824=true:=da
 have k0:nn (rq fun _=>0)<=K*K:=by
  have:nn (rq fun _=>0)=1073741824*1073741824:=da
  have:=mM hK hK da oa
  omega
 obtain⟨N,P,hP,hN,p1,p2,law⟩:=mB hI hA hJ hQ hs g0 hK h2 k0
 have eQ:cC Q (fun _=>0)=Q:=by unfold cC;rw[if_pos da]
 rw[eQ]at law
 obtain⟨_,l1,u1⟩:=bm hI hA
 obtain⟨_,l2,u2⟩:=bm hJ hQ
 have en:nn (eD A Q)<=1152921515344265241*1152921515344265241:=by
  rw[kT]
  have:=mM (show nn A<=1073741829*1073741829 by omega) (show nn Q<=1073741829*1073741829 by omega) (aT Q) da
  exact iT this da
 refine⟨N,P,hP,hN,p1,p2,?_⟩
 generalize eD (cC A c) Q=D' at *
 generalize eD A Q=E at *
 obtain⟨yv,y0⟩:=Bv E c
 have E0u:E 0<=1152921515344265241:=(cK da en (i:=0) oa).2
 have hEv:=ey en
 generalize pe (cj (rq c)) (pe E (rq fun _=>0))=Y at *
 obtain⟨S,hS⟩:∃S:Nat->Int,S=fun i=>pe (qv fun j=>4294967296*c j-E (j+1)) E (i+1):=⟨_,rfl⟩
 obtain⟨Sb,hSb⟩:∃Sb,Sb=1152921515344265241* (1073741824*z):=⟨_,rfl⟩
 have Sb0:0<=Sb:=oa
 have sv:vv S<=Sb*Sb:=by
  have a:nn (pe (qv fun j=>4294967296*c j-E (j+1)) E)<=Sb*Sb:=by
   rw[dR,qP]
   have:=mM hc en (aT E) (av _)
   have e:Sb*Sb=(1073741824*z)* (1073741824*z)* (1152921515344265241*1152921515344265241):=by rw[hSb];grind
   rw[e];exact this
  have:=ey a
  rw[hS];exact this
 have yS2:∀i,i<3->4*Y (i+1)=(4611686018427387904-E 0)*E (i+1)-S i:=fun i hi=>by rw[yv i hi,hS]
 rw[<-hSb]
 obtain⟨k,hk⟩:∃k,k=4611686018427387904-E 0:=⟨_,rfl⟩
 rw[<-hk]at yS2|-
 have k0:0<=k:=oa
 have rb:vv (fun i=>4* (N*D' (i+1)-P*Y (i+1)))<=(N*34359739200)* (N*34359739200):=by
  have:=dI (B:=4* (N*4294967400)) (x:=fun i=>4* (N*D' (i+1)-P*Y (i+1))) oa fun i hi=>by
   have:=law (i+1) oa
   show _<=4* (N*D' (i+1)-P*Y (i+1))/\4* (N*D' (i+1)-P*Y (i+1))<=_
   omega
  have e:2* (4* (N*4294967400))=N*34359739200:=oa
  rw[e]at this;exact this
 have neg:∀x:Nat->Int,vv (fun i=>-x i)=vv x:=fun x=>by unfold vv;grind
 have psv:vv (fun i=>P*S i)<=(P*Sb)* (P*Sb):=by
  rw[ef P S]
  have a:=mL sv (show 0<=P*P from av P)
  have e:(P*Sb)* (P*Sb)=P*P* (Sb*Sb):=by grind
  rw[e];exact a
 have PS0:0<=P*Sb:=mN oa Sb0
 have N0:0<=N*34359739200:=oa
 refine⟨fun X hX0 hX=>?_,fun X hX0 hX=>?_,?_⟩
 ·have a1:vv (fun i=>P*k*E (i+1))<=(P* (k*X))* (P* (k*X)):=by
   have:=ef (P*k) (qw E)
   have e2:vv (fun i=>P*k*E (i+1))=P*k* (P*k)*vv (qw E):=this
   rw[e2]
   have a:=mL hX (show 0<=P*k* (P*k)from av _)
   have e:(P* (k*X))* (P* (k*X))=P*k* (P*k)* (X*X):=by grind
   rw[e];exact a
  have PX0:0<=P* (k*X):=mN oa (mN k0 hX0)
  have a2:vv (fun i=>-(P*S i))<=(P*Sb)* (P*Sb):=by rw[neg fun i=>P*S i];exact psv
  have a:=cE (z:=fun i=>4* (P*Y (i+1))) PX0 PS0 a1 a2 fun i hi=>by
   show 4* (P*Y (i+1))=P*k*E (i+1)+-(P*S i)
   have:=yS2 i hi
   have e:4* (P*Y (i+1))=P* (4*Y (i+1)):=by grind
   rw[e,this];grind
  have b:=cE (z:=fun i=>4*N*D' (i+1)) (Int.add_nonneg PX0 PS0) N0 a rb fun i hi=>by
   show 4*N*D' (i+1)=4* (P*Y (i+1))+4* (N*D' (i+1)-P*Y (i+1))
   grind
  have e:P* (k*X)+P*Sb=P* (k*X+Sb):=by grind
  rw[e]at b;exact b
 ·have nv:vv (fun i=>4*N*D' (i+1))<=(4*N*X)* (4*N*X):=by
   have:=ef (4*N) (qw D')
   have e2:vv (fun i=>4*N*D' (i+1))=4*N* (4*N)*vv (qw D'):=this
   rw[e2]
   have a:=mL hX (show 0<=4*N* (4*N)from av _)
   have e:(4*N*X)* (4*N*X)=4*N* (4*N)* (X*X):=by grind
   rw[e];exact a
  have NX0:0<=4*N*X:=mN oa hX0
  have rb2:vv (fun i=>-(4* (N*D' (i+1)-P*Y (i+1))))<=(N*34359739200)* (N*34359739200):=by rw[neg fun i=>4* (N*D' (i+1)-P*Y (i+1))];exact rb
  have a:=cE (z:=fun i=>4* (P*Y (i+1))) NX0 N0 nv rb2 fun i hi=>by
   show 4* (P*Y (i+1))=4*N*D' (i+1)+-(4* (N*D' (i+1)-P*Y (i+1)))
   grind
  have b:=cE (z:=fun i=>P*k*E (i+1)) (Int.add_nonneg NX0 N0) PS0 a psv fun i hi=>by
   show P*k*E (i+1)=4* (P*Y (i+1))+P*S i
   have:=yS2 i hi
   have e:4* (P*Y (i+1))=P* (4*Y (i+1)):=by grind
   rw[e,this];grind
  have e3:4*N*X+N*34359739200=N* (4*X+34359739200):=by grind
  rw[e3]at b;exact b
 ·have l:=(law 0 oa).1
  have cs:=km (4294967296*c 0-E 1) (4294967296*c 1-E 2) (4294967296*c 2-E 3) (E 1) (E 2) (E 3)
  have hc':(4294967296*c 0-E 1)* (4294967296*c 0-E 1)+(4294967296*c 1-E 2)* (4294967296*c 1-E 2)+(4294967296*c 2-E 3)* (4294967296*c 2-E 3)<=(1073741824*z)* (1073741824*z):=hc
  have hE':E 1*E 1+E 2*E 2+E 3*E 3<=1152921515344265241*1152921515344265241:=hEv
  have n1:=av (E 1)
  have n2:=av (E 2)
  have n3:=av (E 3)
  have m:=mM hc' hE' oa (av _)
  have ab:=bI (x:=(4294967296*c 0-E 1)*E 1+(4294967296*c 1-E 2)*E 2+(4294967296*c 2-E 3)*E 3) (p:=Sb) Sb0 (by
   have e:Sb*Sb=(1073741824*z)* (1073741824*z)* (1152921515344265241*1152921515344265241):=by rw[hSb];grind
   rw[e];exact iT cs m)
  have e:4294967296*c 0*E 1+4294967296*c 1*E 2+4294967296*c 2*E 3=((4294967296*c 0-E 1)*E 1+(4294967296*c 1-E 2)*E 2+(4294967296*c 2-E 3)*E 3)+(E 1*E 1+E 2*E 2+E 3*E 3):=by grind
  have hY:4611686018427387904*E 0-Sb<=4*Y 0:=by rw[y0,e];omega
  have PY:=mL hY (show 0<=P by omega)
  have e4:P* (4*Y 0)=4* (P*Y 0):=by grind
  have e5:4* (N* (D' 0+4294967400))=4* (N*D' 0)+4* (N*4294967400):=by grind
  omega
end
section
open Go.RowKit PM Dt
def Nr (A Q:Nat->Int) (x:Int):Prop:=vv (qw (eD A Q))<=(1073741824*x)* (1073741824*x)
theorem cF {v:Nat->Int} {N X Y:Int} (hN:0<N) (hX:0<=X) (h:vv (fun i=>N*v i)<=X*X) (hXY:X<=N*Y):vv v<=Y*Y:=by
 rw[ef N v]at h
 have a:=mM hXY hXY hX oa
 have e:N*Y* (N*Y)=N*N* (Y*Y):=by grind
 rw[e]at a
 exact mC (iT h a) (Int.mul_pos hN hN)
theorem qM {A Q:Nat->Int} {x:Int} (hI:∀i,i<4->bu (A i)) (hA:au A=true) (hJ:∀i,i<4->bu (Q i)) (hQ:au Q=true) (hx0:0<=x) (hx:x<=130000000) (h:Nr A Q x) (h0:0<=eD A Q 0):
 1144440000000000000<=eD A Q 0/\eD A Q 0<=1152921515344265241:=by
 obtain⟨_,l1,u1⟩:=bm hI hA
 obtain⟨_,l2,u2⟩:=bm hJ hQ
 have lo:1073741820*1073741820* (1073741820*1073741820)<=nn A*nn Q:=mM l1 l2 da oa
 have up:nn A*nn Q<=1073741829*1073741829* (1073741829*1073741829):=mM oa oa (aT Q) da
 rw[<-kT]at lo up
 have e:=jC (eD A Q)
 have v0:=fm (qw (eD A Q))
 unfold Nr at h
 have xx:(1073741824*x)* (1073741824*x)<=139586437120000000*139586437120000000:=mM oa oa oa da
 constructor
 ·apply bC;intro hc
  have:=mM (show eD A Q 0<=1144440000000000000 by omega) (show eD A Q 0<=1144440000000000000 by omega) h0 da
  omega
 ·apply bC;intro hc
  have:=mM (show 1152921515344265242<=eD A Q 0 by omega) (show 1152921515344265242<=eD A Q 0 by omega) da h0
  omega
variable{A Q h g c:Nat->Int} {x y De z K:Int}
theorem yN (hI:∀i,i<4->bu (A i)) (hA:au A=true) (hJ:∀i,i<4->bu (Q i)) (hQ:au Q=true) (hs:aE h 1073741824=true) (gs:aE g 1073741824=true) (h2:nn (rq h)<=1082098000*1082098000) (g2:nn (rq g)<=1082098000*1082098000)
 (hDe:0<=De) (hDe2:De<=4000000) (hd:vv (fun i=>g i-h i)<=De*De) (hx:0<=x) (hE0:1144440000000000000<=eD A Q 0) (hn:Nr A Q x) (hy:1015700*x+1007900*De+9000000<=1000000*y):Nr (cC A h) (cC Q g) y/\0<=eD (cC A h) (cC Q g) 0:=by
 obtain⟨N,P,hP,hN,p1,p2,up,_,sc0⟩:=yt hI hA hJ hQ hs gs (K:=1082098000) da h2 g2 hDe hd
 have nR:=aT (rq h)
 have hr:1152921504606846976<=nn (rq h):=by
  have:=eS h
  have:=av (h 0)
  have:=av (h 1)
  have:=av (h 2)
  omega
 constructor
 ·have u:=up (1073741824*x) oa hn
  have T0:0<=nn (rq h)* (1073741824*x)+1082098000*1152921515344265241*De:=Int.add_nonneg (mN nR oa) oa
  have t1:nn (rq h)* (1073741824*x)<=1082098000*1082098000* (1073741824*x):=mR h2 oa
  have t2:nn (rq h)* (1073741824*x)+1082098000*1152921515344265241*De<=1073741818*1073741818* (1073741824*y-8589934800):=oa
  have t3:=mL t2 (show 0<=P by omega)
  have t4:=mR p1 (show 0<=1073741824*y-8589934800 by omega)
  have e1:P* (1073741818*1073741818* (1073741824*y-8589934800))=P* (1073741818*1073741818)* (1073741824*y-8589934800):=by grind
  have e2:N* (1073741824*y-8589934800)=N* (1073741824*y)-N*8589934800:=by grind
  have e3:P* (nn (rq h)* (1073741824*x)+1082098000*1152921515344265241*De)=P* (nn (rq h)* (1073741824*x)+1082098000*1152921515344265241*De):=rfl
  exact cF (v:=qw (eD (cC A h) (cC Q g))) hN (Int.add_nonneg (mN oa T0) oa) u oa
 ·have a:1152921504606846976*1144440000000000000<=nn (rq h)*eD A Q 0:=mM hr hE0 da nR
  have b:=mL a (show 0<=P by omega)
  have c:P* (1082098000*1152921515344265241*De)<=P* (1082098000*1152921515344265241*4000000):=mL oa oa
  apply bC;intro hc
  have d:=mL (show eD (cC A h) (cC Q g) 0+4294967400<=4294967400 by omega) (show 0<=N by omega)
  omega
theorem sF (hI:∀i,i<4->bu (A i)) (hA:au A=true) (hJ:∀i,i<4->bu (Q i)) (hQ:au Q=true) (hs:aE c 1073741824=true) (h2:nn (rq c)<=1082098000*1082098000) (hz:0<=z) (hz2:z<=8192)
 (hc:vv (fun i=>4294967296*c i-eD A Q (i+1))<=(1073741824*z)* (1073741824*z)) (hx:0<=x) (hE0:1144440000000000000<=eD A Q 0) (hE1:eD A Q 0<=1152921515344265241) (hn:Nr A Q x) (hy:30075*x+10001*z+330000<=40000*y):Nr (cC A c) Q y/\0<=eD (cC A c) Q 0:=by
 obtain⟨N,P,hP,hN,p1,p2,up,_,sc0⟩:=qX hI hA hJ hQ hs (K:=1082098000) da h2 hz hc oa
 constructor
 ·have u:=up (1073741824*x) oa hn
  have t1:(4611686018427387904-eD A Q 0)* (1073741824*x)<=3467246018427387904* (1073741824*x):=mR oa oa
  have t0:0<=(4611686018427387904-eD A Q 0)* (1073741824*x):=mN oa oa
  have t2:(4611686018427387904-eD A Q 0)* (1073741824*x)+1152921515344265241* (1073741824*z)<=1073741818*1073741818* (4294967296*y-34359739200):=oa
  have t3:=mL t2 (show 0<=P by omega)
  have t4:=mR p1 (show 0<=4294967296*y-34359739200 by omega)
  have e1:P* (1073741818*1073741818* (4294967296*y-34359739200))=P* (1073741818*1073741818)* (4294967296*y-34359739200):=by grind
  have e2:N* (4294967296*y-34359739200)=N* (4294967296*y)-N*34359739200:=by grind
  have e3:4*N* (1073741824*y)=N* (4294967296*y):=by grind
  exact cF (v:=qw (eD (cC A c) Q)) (N:=4*N) oa (Int.add_nonneg (mN oa oa) oa) u oa
 ·have b:=mL (show 4000000000000000000000000000000000000<=4611686018427387904*eD A Q 0-1152921515344265241* (1073741824*z) by omega) (show 0<=P by omega)
  apply bC;intro hc
  have d:=mL (show eD (cC A c) Q 0+4294967400<=4294967400 by omega) (show 0<=N by omega)
  omega
theorem sU (hI:∀i,i<4->bu (A i)) (hA:au A=true) (hJ:∀i,i<4->bu (Q i)) (hQ:au Q=true) (hs:aE h 1073741824=true) (gs:aE g 1073741824=true) (hK:1073741824<=K) (hK2:K<=1082098000) (h2:nn (rq h)<=K*K) (g2:nn (rq g)<=K*K) (hKR:10000* (K*K)<=10003*nn (rq h))
 (hDe:0<=De) (hd:vv (fun i=>g i-h i)<=De*De) (hx:0<=x) (hn:Nr (cC A h) (cC Q g) x) (hy:10004*x+10004*De+100000<=10000*y):Nr A Q y:=by
 obtain⟨N,P,hP,hN,p1,p2,_,dn,_⟩:=yt hI hA hJ hQ hs gs hK h2 g2 hDe hd
 have u:=dn (1073741824*x) oa hn
 have nR:=aT (rq h)
 have hr:1152921504606846976<=nn (rq h):=by
  have:=eS h
  have:=av (h 0)
  have:=av (h 1)
  have:=av (h 2)
  omega
 have PR:=mL hKR (show 0<=P by omega)
 have e1:P* (10000* (K*K))=10000* (P* (K*K)):=by grind
 have e2:P* (10003*nn (rq h))=10003* (P*nn (rq h)):=by grind
 rw[e1,e2]at PR
 have NR:1000000*N<=1000301* (P*nn (rq h)):=oa
 have KK:K*K*De<=K*K*De:=iR _
 have kz:10000* (K*1152921515344265241*De)<=nn (rq h)* (10003*1073741835*De):=by
  have a:K*1152921515344265241<=K*K*1073741835:=by
   have:=mL (show 1152921515344265241<=K*1073741835 by omega) (show 0<=K by omega)
   have e:K* (K*1073741835)=K*K*1073741835:=by grind
   omega
  have b:10000* (K*1152921515344265241)<=10003*nn (rq h)*1073741835:=oa
  have c:=mR b hDe
  have e3:10000* (K*1152921515344265241)*De=10000* (K*1152921515344265241*De):=by grind
  have e4:10003*nn (rq h)*1073741835*De=nn (rq h)* (10003*1073741835*De):=by grind
  omega
 have kzP:=mL kz (show 0<=P by omega)
 have e5:P* (10000* (K*1152921515344265241*De))=10000* (P* (K*1152921515344265241*De)):=by grind
 have e6:P* (nn (rq h)* (10003*1073741835*De))=P*nn (rq h)* (10003*1073741835*De):=by grind
 rw[e5,e6]at kzP
 have nx:=mR NR (show 0<=1073741824*x+8589934800 by omega)
 have e7:1000000*N* (1073741824*x+8589934800)=1000000* (N* (1073741824*x+8589934800)):=by grind
 have e8:1000301* (P*nn (rq h))* (1073741824*x+8589934800)=P*nn (rq h)* (1000301* (1073741824*x+8589934800)):=by grind
 rw[e7,e8]at nx
 have PR0:0<P*nn (rq h):=Int.mul_pos hP oa
 have fin:1000301* (1073741824*x+8589934800)+100* (10003*1073741835*De)<=1000000* (1073741824*y):=oa
 have fP:=mL fin (show 0<=P*nn (rq h) by omega)
 have e9:P*nn (rq h)* (1000301* (1073741824*x+8589934800)+100* (10003*1073741835*De))=P*nn (rq h)* (1000301* (1073741824*x+8589934800))+100* (P*nn (rq h)* (10003*1073741835*De)):=by grind
 have e10:P*nn (rq h)* (1000000* (1073741824*y))=1000000* (P*nn (rq h)* (1073741824*y)):=by grind
 rw[e9,e10]at fP
 exact cF (v:=qw (eD A Q)) PR0 (Int.add_nonneg (mN oa oa) (mN oa (mN (mN oa da) hDe))) u oa
theorem sj (hI:∀i,i<4->bu (A i)) (hA:au A=true) (hJ:∀i,i<4->bu (Q i)) (hQ:au Q=true) (hs:aE c 1073741824=true) (h2:nn (rq c)<=1074256896*1074256896) (hz:0<=z)
 (hc:vv (fun i=>4294967296*c i-eD A Q (i+1))<=(1073741824*z)* (1073741824*z)) (hx:0<=x) (hE0:0<=eD A Q 0) (hE1:eD A Q 0<=1152921515344265241) (hn:Nr (cC A c) Q x) (hy:13347*x+3340*z+120000<=10000*y):Nr A Q y:=by
 obtain⟨N,P,hP,hN,p1,p2,_,dn,_⟩:=qX hI hA hJ hQ hs (K:=1074256896) da h2 hz hc hE0
 have u:=dn (1073741824*x) oa hn
 have k3:3458764503083122663<=4611686018427387904-eD A Q 0:=oa
 generalize 4611686018427387904-eD A Q 0=k at *
 have Pk:P*3458764503083122663<=P*k:=mL k3 oa
 have NP:N<=P*1154028000000000000:=oa
 have nx:=mR NP (show 0<=4* (1073741824*x)+34359739200 by omega)
 have e8:P*1154028000000000000* (4* (1073741824*x)+34359739200)=P* (1154028000000000000* (4* (1073741824*x)+34359739200)):=by grind
 rw[e8]at nx
 have fin:1154028000000000000* (4* (1073741824*x)+34359739200)+1152921515344265241* (1073741824*z)<=3458764503083122663* (1073741824*y):=oa
 have fP:=mL fin (show 0<=P by omega)
 have e9:P* (1154028000000000000* (4* (1073741824*x)+34359739200)+1152921515344265241* (1073741824*z))=P* (1154028000000000000* (4* (1073741824*x)+34359739200))+P* (1152921515344265241* (1073741824*z)):=by grind
 have e10:P* (3458764503083122663* (1073741824*y))=P*3458764503083122663* (1073741824*y):=by grind
 rw[e9,e10]at fP
 have y0:0<=1073741824*y:=oa
 have g:=mR Pk y0
 exact cF (v:=qw (eD A Q)) (N:=P*k) (Int.mul_pos hP oa) (Int.add_nonneg (mN oa oa) (mN oa oa)) u oa
end
end Go.Proofs.YtbhahonkhiiilaaGreat
