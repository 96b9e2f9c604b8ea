/-
  What is left between an estimate that turns and a target: one turn, by any half turn. No program in sight.
-/
import Derived.Test.YtbhahonkhiiilaaGreatEcX
set_option linter.unusedSimpArgs false
set_option linter.unusedVariables false
namespace Go.Proofs.YtbhahonkhiiilaaGreat
section
open Go.RowKit PM Dt
theorem lh {s:Int} (h:s=1\/s=-1):s*s=1:=by rcases h with rfl|rfl<;>rfl
theorem Ct {A q h:Nat->Int} (hI:∀i,i<4->bu (A i)) (hA:au A=true) (hJ:∀i,i<4->bu (q i)) (hq:au q=true) (hs:aE h 1073741824=true) {K:Int} (hK:1073741824<=K) (hK2:K<=1075000000) (h2:nn (rq h)<=K*K)
 (hI':∀i,i<4->bu (cC A h i)) (hA':au (cC A h)=true):
 ∃g N P:Int,(g=1\/g=-1)/\0<P/\0<N/\P*1073741812<=N/\N* (1073741816*1073741816*1073741824)<=P* (K*K* (1073741829*1073741829))/\
  ∀i,i<4->-(6*N)<=N* (g*am (cC A h) q i)-P*pe (cj (rq h)) (am A q) i/\N* (g*am (cC A h) q i)-P*pe (cj (rq h)) (am A q) i<=6*N:=by
 have g0:aE (fun _=>0) 1073741824=true:=da
 obtain⟨N,P,hP,hN,p1,p2,law⟩:=mB (A:=A) (Q:=q) hI hA hJ hq hs g0 hK h2 (by
  have:nn (rq fun _=>0)=1073741824*1073741824:=da
  rw[this];exact mM hK hK da oa)
 have eq:cC q (fun _=>0)=q:=by unfold cC;rw[if_pos da]
 rw[eq]at law
 obtain⟨_,s,hs1,e,he⟩:=dJ hI hA hJ hq
 obtain⟨_,s',hs2,e',he'⟩:=dJ hI' hA' hJ hq
 have ss:=lh hs1
 have ss':=lh hs2
 refine⟨s*s',N,P*1073741824,by rcases hs1 with rfl|rfl<;>rcases hs2 with rfl|rfl<;>decide,oa,hN,oa,?_,fun i hi=>?_⟩
 ·have a:P*1073741824* (K*K* (1073741829*1073741829))=1073741824* (P* (K*K)* (1073741829*1073741829)):=by grind
  rw[a];omega
 ·have ne:nn e<=1073741824*1073741824:=by
   have:=gH (B:=536870912) fun i hi=>(he i hi).1
   omega
  have nr:nn (cj (rq h))=nn (rq h):=by unfold nn cj;grind
  have np:nn (pe (cj (rq h)) e)<=(1073741824*K)* (1073741824*K):=by
   rw[dR,nr]
   have a:=mM h2 ne (aT _) (mN oa oa)
   have b:K*K* (1073741824*1073741824)=1073741824*K* (1073741824*K):=by grind
   omega
  have cp:=cK (show 0<=1073741824*K by omega) np hi
  have pq:pe (cj (rq h)) (pe (eD A q) (rq fun _=>0)) i=1073741824* (s* (1073741824*pe (cj (rq h)) (am A q) i)-s*pe (cj (rq h)) e i):=by
   have r0:rq (fun _=>0) 0=1073741824:=rfl
   have r1:rq (fun _=>0) 1=0:=rfl
   have r2:rq (fun _=>0) 2=0:=rfl
   have r3:rq (fun _=>0) 3=0:=rfl
   have x:∀j,j<4->eD A q j=s* (1073741824*am A q j)-s*e j:=fun j hj=>by
    have:=(he j hj).2
    have y:s* (1073741824*am A q j)-s*e j=s*s*eD A q j:=by rw[this];grind
    rw[y,ss];omega
   have x0:=x 0 oa
   have x1:=x 1 oa
   have x2:=x 2 oa
   have x3:=x 3 oa
   generalize cj (rq h)=r at *
   rcases(show i=0\/i=1\/i=2\/i=3 by omega)with rfl|rfl|rfl|rfl<;>simp only[pe]<;>rw[r0,r1,r2,r3,x0,x1,x2,x3]<;>grind
  have l:=law i hi
  rw[pq]at l
  obtain⟨e1,e2⟩:=he' i hi
  have y:s'* (1073741824*am (cC A h) q i)=eD (cC A h) q i+s'*e' i:=by
   rw[e2]
   have:s'* (s'*eD (cC A h) q i+e' i)=s'*s'*eD (cC A h) q i+s'*e' i:=by grind
   rw[this,ss'];omega
  have se:∀{t x X:Int},(t=1\/t=-1)->-X<=x->x<=X->-X<=t*x/\t*x<=X:=fun ht h1 h2=>by rcases ht with rfl|rfl<;>omega
  have b1:=se hs2 e1.1 e1.2
  have b2:=se hs1 cp.1 cp.2
  have n1:=mL b1.1 (show 0<=N by omega)
  have n2:=mL b1.2 (show 0<=N by omega)
  have m1:=mL b2.1 (show 0<=P by omega)
  have m2:=mL b2.2 (show 0<=P by omega)
  have pk:=mL hK2 (show 0<=P by omega)
  obtain⟨V,hV⟩:∃V,V=pe (cj (rq h)) (am A q) i:=⟨_,rfl⟩
  rw[<-hV]at l|-
  obtain⟨Z,hZ⟩:∃Z,Z=N* (1073741824* (s'*am (cC A h) q i))-P* (1073741824* (1073741824* (s*V))):=⟨_,rfl⟩
  have y2:1073741824* (s'*am (cC A h) q i)=eD (cC A h) q i+s'*e' i:=by rw[<-y];grind
  have k:Z=(N*eD (cC A h) q i-P* (1073741824* (s* (1073741824*V)-s*pe (cj (rq h)) e i)))+N* (s'*e' i)-1073741824* (P* (s*pe (cj (rq h)) e i)):=by rw[hZ,y2];grind
  have kz:-(1073741824* (6*N))<=Z/\Z<=1073741824* (6*N):=by
   have a1:N*-536870912=-(536870912*N):=oa
   have a2:N*536870912=536870912*N:=oa
   have a3:P*-(1073741824*K)=-(1073741824* (P*K)):=by grind
   have a4:P* (1073741824*K)=1073741824* (P*K):=by grind
   omega
  have f:1073741824* (s* (N* (s*s'*am (cC A h) q i)-P*1073741824*V))=Z:=by
   rw[hZ]
   have:s* (N* (s*s'*am (cC A h) q i)-P*1073741824*V)=s*s* (N* (s'*am (cC A h) q i))-P*1073741824* (s*V):=by grind
   rw[this,ss];grind
  have f2:-(6*N)<=s* (N* (s*s'*am (cC A h) q i)-P*1073741824*V)/\s* (N* (s*s'*am (cC A h) q i)-P*1073741824*V)<=6*N:=oa
  rcases hs1 with rfl|rfl<;>omega
end
section
open Go.RowKit PM Dt
theorem FZ {x y:Nat->Int} {X Y:Int} (hX:0<=X) (hY:0<=Y) (hx:vv x<=X*X) (hy:vv y<=Y*Y):-(X*Y)<=x 0*y 0+x 1*y 1+x 2*y 2/\x 0*y 0+x 1*y 1+x 2*y 2<=X*Y:=by
 have c:=km (x 0) (x 1) (x 2) (y 0) (y 1) (y 2)
 have m:=mM hx hy (fm y) (av X)
 refine bI (mN hX hY) (iT c (iT m (Int.le_of_eq (by grind))))
structure xu (h X Y:Nat->Int) (H:Int):Prop where
 hv:vv h<=H*H
 H0:0<=H
 H1:H<=12600000
 nX:nn X<=1073741836*1073741836
 law:∃N P:Int,0<P/\0<N/\P*1073741812<=N/\N*1073741824<=P* (1073741824*1073741824+H*H+34359738368)/\∀i,i<4->-(6*N)<=N*Y i-P*pe (cj (rq h)) X i/\N*Y i-P*pe (cj (rq h)) X i<=6*N
theorem pE {A q h:Nat->Int} {H:Int} (hI:∀i,i<4->bu (A i)) (hA:au A=true) (hJ:∀i,i<4->bu (q i)) (hq:au q=true) (hh:vv h<=H*H) (H0:0<=H) (H1:H<=12600000)
 (hI':∀i,i<4->bu (cC A h i)) (hA':au (cC A h)=true):∃g:Int,(g=1\/g=-1)/\xu h (am A q) (fun i=>g*am (cC A h) q i) H:=by
 have hs:=kx H0 oa hh
 have HH:H*H<=12600000*12600000:=bW H0 H1
 have v0:=fm h
 have rn:nn (rq h)=1152921504606846976+vv h:=by have:=eS h;unfold vv;omega
 obtain⟨K,k1,k2,k3,k4⟩:=mW (S:=nn (rq h)) oa oa
 have k5:K<=1075000000:=by
  apply bC;intro hc
  have:=bW (show(0:Int)<=1075000000 by decide) (show 1075000000<=K by omega)
  omega
 obtain⟨g,N,P,hg,hP,hN,p1,p2,law⟩:=Ct hI hA hJ hq hs k1 k5 k3 hI' hA'
 refine⟨g,hg,hh,H0,H1,(fZ hI hA hJ hq).2,N,P,hP,hN,p1,?_,law⟩
 have a:K*K* (1073741829*1073741829)<=(1073741824*1073741824+H*H+34359738368)* (1073741816*1073741816):=oa
 have b:=mL a (show 0<=P by omega)
 have c:N* (1073741816*1073741816*1073741824)=N*1073741824* (1073741816*1073741816):=by grind
 have d:P* ((1073741824*1073741824+H*H+34359738368)* (1073741816*1073741816))=P* (1073741824*1073741824+H*H+34359738368)* (1073741816*1073741816):=by grind
 rw[c]at p2
 rw[d]at b
 exact Int.le_of_mul_le_mul_right (iT p2 b) da
variable{h X Y:Nat->Int} {H:Int}
theorem xu.neg (t:xu h X Y H):xu h (fun i=>-1*X i) (fun i=>-1*Y i) H:=by
 obtain⟨N,P,hP,hN,p1,p2,law⟩:=t.law
 refine⟨t.hv,t.H0,t.H1,?_,N,P,hP,hN,p1,p2,fun i hi=>?_⟩
 ·have:nn (fun i=>-1*X i)=nn X:=by unfold nn;grind
  rw[this];exact t.nX
 ·have e:pe (cj (rq h)) (fun i=>-1*X i) i=-pe (cj (rq h)) X i:=by
   generalize cj (rq h)=r
   rcases(show i=0\/i=1\/i=2\/i=3 by omega)with rfl|rfl|rfl|rfl<;>simp only[pe]<;>grind
  have l:=law i hi
  rw[e]
  have e2:N* (-1*Y i)-P*-pe (cj (rq h)) X i=-(N*Y i-P*pe (cj (rq h)) X i):=by grind
  rw[e2];omega
theorem xu.sg (t:xu h X Y H) {g:Int} (hg:g=1\/g=-1):xu h (fun i=>g*X i) (fun i=>g*Y i) H:=by
 rcases hg with rfl|rfl
 ·have e:∀X:Nat->Int,(fun i=>1*X i)=X:=fun X=>by funext i;omega
  rw[e,e];exact t
 ·exact t.neg
theorem xu.move (t:xu h X Y H):nn (fun i=>Y i-X i)<=(H+1020)* (H+1020):=by
 obtain⟨N,P,hP,hN,p1,p2,law⟩:=t.law
 obtain⟨hh,H0,H1,hX,_⟩:=t
 have HH:H*H<=12600000*H:=mR H1 H0
 have d:=uT X h N P
 have v0:=fm h
 have ev:h 0*h 0+h 1*h 1+h 2*h 2=vv h:=by unfold vv;omega
 rw[ev]at d
 have hPP:=av P
 obtain⟨xi,hxi⟩:∃xi,xi=H*H/1073741824+33:=⟨_,rfl⟩
 have b0:N-P*1073741824<=P*xi:=by
  have a:=mL (show 1073741824*1073741824+H*H+34359738368<=1073741824* (1073741824+xi) by omega) (show 0<=P by omega)
  have e:P* (1073741824* (1073741824+xi))=1073741824* (P*1073741824+P*xi):=by grind
  omega
 have x0:33<=xi:=by have:=av H;omega
 have b1:(N-P*1073741824)* (N-P*1073741824)<=P*P* (xi*xi):=by
  have pk:=mL x0 (show 0<=P by omega)
  have:=(bR (a:=N-P*1073741824) (b:=N-P*1073741824) (P:=P*xi) (R:=P*xi) oa oa oa oa).2
  have e:P*xi* (P*xi)=P*P* (xi*xi):=by grind
  omega
 have xx:xi*xi+vv h<=(H+1000)* (H+1000):=by
  have x1:xi<=(12*H+33000)/1000:=oa
  have x2:=bW (show 0<=xi by omega) x1
  have x3:((12*H+33000)/1000)* ((12*H+33000)/1000)*1000000<=(12*H+33000)* (12*H+33000):=by
   have a:0<=(12*H+33000)/1000:=oa
   have b:(12*H+33000)/1000*1000<=12*H+33000:=oa
   have c:=mM b b oa oa
   have e:(12*H+33000)/1000*1000* ((12*H+33000)/1000*1000)=((12*H+33000)/1000)* ((12*H+33000)/1000)*1000000:=by grind
   omega
  have x4:(12*H+33000)* (12*H+33000)=144* (H*H)+792000*H+1089000000:=by grind
  have x5:(H+1000)* (H+1000)=H*H+2000*H+1000000:=by grind
  omega
 have b2:nn (fun i=>P*pe (cj (rq h)) X i-N*X i)<=(N* (H+1001))* (N* (H+1001)):=by
  rw[d]
  have x1:(N-P*1073741824)* (N-P*1073741824)+P*P*vv h<=P*P* ((H+1000)* (H+1000)):=by
   have a:=mL xx hPP
   have e:P*P* (xi*xi+vv h)=P*P* (xi*xi)+P*P*vv h:=by grind
   omega
  have x2:nn X* ((N-P*1073741824)* (N-P*1073741824)+P*P*vv h)<=1073741836*1073741836* (P*P* ((H+1000)* (H+1000))):=mM hX x1 (Int.add_nonneg (av _) (mN hPP v0)) da
  have x3:1073741836*1073741836* (P*P* ((H+1000)* (H+1000)))=(P* (1073741836* (H+1000)))* (P* (1073741836* (H+1000))):=by grind
  have x4:P* (1073741836* (H+1000))<=N* (H+1001):=by
   have a:=mL (show 1073741836* (H+1000)<=1073741812* (H+1001) by omega) (show 0<=P by omega)
   have b:=mR p1 (show 0<=H+1001 by omega)
   have e:P* (1073741812* (H+1001))=P*1073741812* (H+1001):=by grind
   omega
  have x5:=bW (mN (show 0<=P by omega) (show 0<=1073741836* (H+1000) by omega)) x4
  omega
 have t:=jX (x:=fun i=>P*pe (cj (rq h)) X i-N*X i) (y:=fun i=>N*Y i-P*pe (cj (rq h)) X i) (z:=sc N (fun i=>Y i-X i)) (X:=N* (H+1001)) (Y:=2* (6*N)) (mN oa oa) oa b2 (gH law) (fun i hi=>by
  show N* (Y i-X i)=(P*pe (cj (rq h)) X i-N*X i)+(N*Y i-P*pe (cj (rq h)) X i)
  have:N* (Y i-X i)=N*Y i-N*X i:=by grind
  omega)
 rw[c_]at t
 have e:N* (H+1001)+2* (6*N)=N* (H+1013):=by grind
 rw[e]at t
 have e2:(N* (H+1013))* (N* (H+1013))=N*N* ((H+1013)* (H+1013)):=by grind
 rw[e2]at t
 exact iT (mC t (Int.mul_pos hN hN)) (bW oa oa)
def H9 (H B:Int):Int:=(H*H/1060000000+41)* (B+H+1)/1073741824+24
theorem xu.scal (t:xu h X Y H) {B:Int} (hB0:0<=B) (hB:X 0<=B):1073741824*X 0+(h 0*X 1+h 1*X 2+h 2*X 3)-1073741824*H9 H B<=1073741824*Y 0:=by
 obtain⟨N,P,hP,hN,p1,p2,law⟩:=t.law
 obtain⟨hh,H0,H1,hX,_⟩:=t
 have l0:=(law 0 oa).1
 have z:=oG X h
 obtain⟨T,hT⟩:∃T,T=1073741824*X 0+(h 0*X 1+h 1*X 2+h 2*X 3):=⟨_,rfl⟩
 rw[<-hT]at z|-
 rw[z]at l0
 have HH:H*H<=12600000*12600000:=bW H0 H1
 have h0:=av H
 have cX:=cK (show(0:Int)<=1073741836 by decide) hX (show 0<4 by omega)
 have xv:vv (qw X)<=1073741836*1073741836:=ey hX
 have dt:=FZ (y:=qw X) H0 (show(0:Int)<=1073741836 by decide) hh xv
 have dt:-(H*1073741836)<=h 0*X 1+h 1*X 2+h 2*X 3/\h 0*X 1+h 1*X 2+h 2*X 3<=H*1073741836:=dt
 obtain⟨q,hq⟩:∃q,q=H*H/1060000000+41:=⟨_,rfl⟩
 have q0:=mN (show 0<=q by omega) (show 0<=B+H+1 by omega)
 have xe:H9 H B=q* (B+H+1)/1073741824+24:=by rw[hq];rfl
 rw[xe]
 obtain⟨xi,hxi⟩:∃xi,xi=q* (B+H+1)/1073741824+24:=⟨_,rfl⟩
 rw[<-hxi]
 apply bC;intro hc
 have hc':1073741824*Y 0<=T-1073741824*xi-1:=oa
 have a:=mL hc' (show 0<=N by omega)
 have e1:N* (1073741824*Y 0)=1073741824* (N*Y 0):=by grind
 have e2:N* (T-1073741824*xi-1)=N*T-1073741824* (N*xi)-N:=by grind
 have x0:24<=xi:=oa
 by_cases hT0:0<=T
 ·have b1:1073741824* (N*T)<=P* (1073741824*1073741824+H*H+34359738368)*T:=by
   have:=mR p2 hT0
   have e:N*1073741824*T=1073741824* (N*T):=by grind
   omega
  have b2:P* (1073741824*1073741824+H*H+34359738368)*T=1073741824* (1073741824* (P*T))+P* ((H*H+34359738368)*T):=by grind
  have b3:(H*H+34359738368)*T<=1073741812*q* (1073741824* (B+H+1)):=mM oa oa hT0 oa
  have b4:1073741812*q* (1073741824* (B+H+1))=1073741812* (1073741824* (q* (B+H+1))):=by grind
  have b5:=mL (show(H*H+34359738368)*T<=1073741812* (1073741824* (1073741824* (xi-6))) by omega) (show 0<=P by omega)
  have b6:=mR p1 (show 0<=1073741824* (1073741824* (xi-6)) by omega)
  have b7:P* (1073741812* (1073741824* (1073741824* (xi-6))))=P*1073741812* (1073741824* (1073741824* (xi-6))):=by grind
  have b8:N* (1073741824* (1073741824* (xi-6)))=1073741824* (1073741824* (N*xi))-6* (1073741824* (1073741824*N)):=by grind
  omega
 ·have b1:P*1073741812*-T<=N*-T:=mR p1 oa
  have b2:P*1073741812*-T=-(1073741812* (P*T)):=by grind
  have b3:N*-T=-(N*T):=by grind
  have b4:=mL (show-T<=1073741836*1200000000 by omega) (show 0<=P by omega)
  have b5:P*-T=-(P*T):=by grind
  have b6:=mL x0 (show 0<=N by omega)
  omega
end
section
open Go.RowKit PM Dt
variable{h X Y:Nat->Int} {H:Int}
theorem xu.vec (t:xu h X Y H) {A V U Z:Int} (hA0:0<=A) (hV:vv (qw X)<=V*V) (hA:vv (fun i=>1073741824*X (i+1)-X 0*h i)<=A*A) (hU0:0<=U) (hU:A*A+(H*V)* (H*V)<=U*U) (hZ:U+12*1073741812<=1073741812*Z):vv (qw Y)<=Z*Z:=by
 obtain⟨N,P,hP,hN,p1,p2,law⟩:=t.law
 obtain⟨hh,H0,H1,hX,_⟩:=t
 have r0:cj (rq h) 0=1073741824:=rfl
 have r1:cj (rq h) 1=-h 0:=rfl
 have r2:cj (rq h) 2=-h 1:=rfl
 have r3:cj (rq h) 3=-h 2:=rfl
 have s2:vv (fun i=>pe (cj (rq h)) X (i+1))<=U*U:=by
  have e:vv (fun i=>pe (cj (rq h)) X (i+1))=vv (fun i=>1073741824*X (i+1)-X 0*h i)+(vv h*vv (qw X)-(h 0*X 1+h 1*X 2+h 2*X 3)* (h 0*X 1+h 1*X 2+h 2*X 3)):=by
   unfold vv qw;simp only[pe];rw[r0,r1,r2,r3];grind
  have:=av (h 0*X 1+h 1*X 2+h 2*X 3)
  have m:=mM hh hV (fm _) (av H)
  have e2:H*H* (V*V)=(H*V)* (H*V):=by grind
  omega
 have s3:vv (fun i=>P*pe (cj (rq h)) X (i+1))<=(P*U)* (P*U):=by
  rw[ef P fun i=>pe (cj (rq h)) X (i+1)]
  have a:=mL s2 (av P)
  have e:(P*U)* (P*U)=P*P* (U*U):=by grind
  omega
 have s4:=cE (z:=fun i=>N*qw Y i) (mN oa hU0) (show 0<=2* (6*N) by omega) s3 (dI (B:=6*N) (x:=fun i=>N*Y (i+1)-P*pe (cj (rq h)) X (i+1)) oa fun i hi=>law (i+1) oa) fun i hi=>by
  show N*Y (i+1)=P*pe (cj (rq h)) X (i+1)+(N*Y (i+1)-P*pe (cj (rq h)) X (i+1));omega
 refine cF hN (Int.add_nonneg (mN oa hU0) oa) s4 ?_
 have a:=mR p1 (show 0<=Z-12 by omega)
 have b:=mL (show U<=1073741812* (Z-12) by omega) (show 0<=P by omega)
 have e:P* (1073741812* (Z-12))=P*1073741812* (Z-12):=by grind
 have e2:N* (Z-12)=N*Z-12*N:=by grind
 omega
def sE (La pi B:Int):Int:=H9 (La+pi) B+H9 pi (B+(La+pi+1020))+pi* (La+pi+1020)/1073741824+2
structure Mv (l L Y:Nat->Int) (La pi:Int):Prop where
 m:nn (fun i=>Y i-L i)<=(La+pi+2040)* (La+pi+2040)
 s:∀V B,0<=V->vv (qw L)<=V*V->0<=B->L 0<=B->1073741824*L 0+2* (l 0*L 1+l 1*L 2+l 2*L 3)-pi*V-1073741824*sE La pi B<=1073741824*Y 0
theorem Ko {l L X1 Y c:Nat->Int} {d c0 La pi:Int} (t1:xu h L X1 (La+d)) (t2:xu c X1 Y c0) (hd0:0<=d) (hc0:0<=c0) (hp:d+c0<=pi) (hp2:pi<=3200000) (La0:0<=La) (hd:vv (fun i=>2*l i-h i)<=d*d):Mv l L Y La pi:=by
 have m1:=t1.move
 have m2:=t2.move
 have pw:∀{a b x y:Int},0<=a->a<=b->0<=x->x<=y->a*x/1073741824<=b*y/1073741824:=fun{a b x y} h0 h1 h2 h3=>by
  have:=mM h1 h3 h2 (show 0<=b by omega)
  omega
 have H1:=t1.H1
 have xm:∀{a b B C:Int},0<=a->a<=b->0<=B->B<=C->H9 a B<=H9 b C:=fun{a b B C} h0 h1 h2 h3=>by
  have:=bW h0 h1
  have:=av a
  have:=pw (a:=a*a/1060000000+41) (b:=b*b/1060000000+41) (x:=B+a+1) (y:=C+b+1) oa oa oa oa
  unfold H9;omega
 refine⟨?_,fun V B V0 hV B0 hB=>?_⟩
 ·exact iT (jX (z:=fun i=>Y i-L i) oa oa m2 m1 fun i hi=>by show Y i-L i=(Y i-X1 i)+(X1 i-L i);omega) (bW oa oa)
 ·have s1:=t1.scal B0 hB
  have c1:=cK (show 0<=La+d+1020 by omega) m1 (show 0<4 by omega)
  have c1:-(La+d+1020)<=X1 0-L 0/\X1 0-L 0<=La+d+1020:=c1
  have s2:=t2.scal (B:=B+(La+d+1020)) oa oa
  have d1:=FZ hd0 V0 hd hV
  have d1:-(d*V)<=(2*l 0-h 0)*L 1+(2*l 1-h 1)*L 2+(2*l 2-h 2)*L 3/\(2*l 0-h 0)*L 1+(2*l 1-h 1)*L 2+(2*l 2-h 2)*L 3<=d*V:=d1
  have v1:vv (qw X1)<=(V+(La+d+1020))* (V+(La+d+1020)):=cE V0 oa hV (ey m1) fun i hi=>by show X1 (i+1)=L (i+1)+(X1 (i+1)-L (i+1));omega
  have d2:=FZ hc0 oa t2.hv v1
  have d2:-(c0* (V+(La+d+1020)))<=c 0*X1 1+c 1*X1 2+c 2*X1 3/\c 0*X1 1+c 1*X1 2+c 2*X1 3<=c0* (V+(La+d+1020)):=d2
  have e1:(2*l 0-h 0)*L 1+(2*l 1-h 1)*L 2+(2*l 2-h 2)*L 3=2* (l 0*L 1+l 1*L 2+l 2*L 3)-(h 0*L 1+h 1*L 2+h 2*L 3):=by grind
  have x1:=xm (show 0<=La+d by omega) (show La+d<=La+pi by omega) B0 (iR B)
  have x2:=xm hc0 (show c0<=pi by omega) (show 0<=B+(La+d+1020) by omega) (show B+(La+d+1020)<=B+(La+pi+1020) by omega)
  have x3:=pw hc0 (show c0<=pi by omega) (show 0<=La+d+1020 by omega) (show La+d+1020<=La+pi+1020 by omega)
  have e2:c0* (V+(La+d+1020))=c0*V+c0* (La+d+1020):=by grind
  have e3:=mR hp V0
  have e4:(d+c0)*V=d*V+c0*V:=by grind
  unfold sE
  omega
end
section
open Go.RowKit PM Dt
theorem EW {A b B Q l R p A' b' Q' p' q:Nat->Int} {pi La:Int} (F:FI A b) (st:qr p Q) (pt:mU pi A b B Q l R p A' Q') (F':FI A' b') (st':qr p' Q') (hJ:∀i,i<4->bu (q i)) (hq:au q=true)
 (La0:0<=La) (hl:vv (fun i=>2*l i)<=La*La) (h1:La+pi<=12600000) (h2:pi<=3200000):∃g:Int,(g=1\/g=-1)/\Mv l (am (aU A p) q) (fun i=>g*am (aU A' p') q i) La pi:=by
 obtain⟨h,d,c0,d0,hc0,dc,eA,hd,hc⟩:=pt
 obtain⟨c,eC,vc⟩:=hc p' st'
 have F2:=F.cor st.I
 have F3:=F'.cor st'.I
 have hh:vv h<=(La+d)* (La+d):=cE La0 d0 hl (show vv (fun i=>-(2*l i-h i))<=d*d by rw[jS fun i=>2*l i-h i];exact hd) fun i hi=>by show h i=2*l i+-(2*l i-h i);omega
 obtain⟨g1,s1,t1⟩:=pE (q:=q) F2.i F2.v hJ hq hh oa oa (by rw[<-eA];exact F'.i) (by rw[<-eA];exact F'.v)
 rw[<-eA]at t1
 obtain⟨g2,s2,t2⟩:=pE (q:=q) F'.i F'.v hJ hq vc hc0 oa (by rw[<-eC];exact F3.i) (by rw[<-eC];exact F3.v)
 rw[<-eC]at t2
 refine⟨g1*g2,by rcases s1 with rfl|rfl<;>rcases s2 with rfl|rfl<;>decide,?_⟩
 have t3:=t2.sg s1
 have e:(fun i=>g1* (g2*am (aU A' p') q i))=fun i=>g1*g2*am (aU A' p') q i:=by funext i;grind
 rw[e]at t3
 exact Ko t1 t3 d0 hc0 dc h2 La0 hd
end
section
open Go.RowKit PM Dt
def Fo (k y:Int) (D W:Nat->Int):Prop:=∀i,i<3->(-y<=D i-W i/\D i-W i<=y)\/(262144*k<=D i/\D i<=W i)\/(D i<=-(262144*k)/\W i<=D i)
def cS (D W:Nat->Int):Nat->Int:=fun i=>D i+aI (W i-D i) (-262144) 262144
variable{k y de y':Int} {D W W' L Y:Nat->Int}
theorem Fo.step (h:Fo k y D W) (hd:∀i,i<3->-de<=W' i-W i/\W' i-W i<=de) (hy:0<=y) (h1:0<=y') (h2:y+de-262144<=y'):Fo (k+1) y' (cS D W') W':=fun i hi=>by
 have a:=h i hi
 have b:=hd i hi
 show(-y'<=D i+aI (W' i-D i) (-262144) 262144-W' i/\D i+aI (W' i-D i) (-262144) 262144-W' i<=y')\/(262144* (k+1)<=D i+aI (W' i-D i) (-262144) 262144/\D i+aI (W' i-D i) (-262144) 262144<=W' i)\/(D i+aI (W' i-D i) (-262144) 262144<=-(262144* (k+1))/\W' i<=D i+aI (W' i-D i) (-262144) 262144)
 unfold aI
 split<;>split<;>omega
theorem zd (h:∀i,i<3->-(262144*k)<=D i/\D i<=262144*k) (i:Nat) (hi:i<3):-(262144* (k+1))<=cS D W i/\cS D W i<=262144* (k+1):=by
 have a:=h i hi
 show-(262144* (k+1))<=D i+aI (W i-D i) (-262144) 262144/\D i+aI (W i-D i) (-262144) 262144<=262144* (k+1)
 unfold aI
 split<;>split<;>omega
theorem gY (hL:nn L<=1073741836*1073741836):oD (bH L) 4194304/\True:=by
 have cL:=iW hL
 have o:=lN (L:=L) fun i hi=>by have:=cL i hi;omega
 exact⟨o,trivial⟩
theorem pJ {Z:Int} (hZ:0<=Z) (h:vv (fun i=>Y (i+1)-L (i+1))<=Z*Z):vv (fun i=>bH Y i-bH L i)<=((Z+64)/32+1)* ((Z+64)/32+1):=by
 have b:=dI (B:=31) (x:=fun i=>32* (bH Y i-bH L i)-(Y (i+1)-L (i+1))) da fun i hi=>by unfold bH;omega
 have t:=cE (z:=fun i=>32* (bH Y i-bH L i)) hZ da h b fun i hi=>by
  show 32* (bH Y i-bH L i)=(Y (i+1)-L (i+1))+(32* (bH Y i-bH L i)-(Y (i+1)-L (i+1)));omega
 exact cF (v:=fun i=>bH Y i-bH L i) (N:=32) da oa t oa
theorem s9 {Z:Int} (hL:nn L<=1073741836*1073741836) (hY:nn Y<=1073741836*1073741836) (hZ:0<=Z) (h:vv (fun i=>Y (i+1)-L (i+1))<=Z*Z):∀i,i<3->-((Z+64)/32+6)<=aB Y i-aB L i/\aB Y i-aB L i<=(Z+64)/32+6:=fun i hi=>by
 have t:=o7 (gY hY).1 (gY hL).1 da oa (pJ hZ h)
 have:=bY (v:=fun i=>ca (bH Y) 4194304 i-ca (bH L) 4194304 i) oa t hi
 show-((Z+64)/32+6)<=ca (bH Y) 4194304 i-ca (bH L) 4194304 i/\ca (bH Y) 4194304 i-ca (bH L) 4194304 i<=(Z+64)/32+6
 omega
theorem pC {c N:Int} (hl:1073741814*1073741814<=nn L) (h0:0<=L 0) (h1:L 0<=c) (hN0:0<=N) (hN:(32*N+32)* (32*N+32)+c*c<1073741814*1073741814) {n:Int} (hn:0<=n) (h:vv (bH L)<=n*n):N<=n:=by
 apply bC;intro hc
 have a:vv (fun i=>32*bH L i)<=(32*N)* (32*N):=by
  have:=ef 32 (bH L)
  have:=bW hn (show n<=N by omega)
  have e:32*N* (32*N)=32*32* (N*N):=by grind
  omega
 have t:vv (qw L)<=(32*N+32)* (32*N+32):=cE (z:=qw L) oa da a (dI (B:=16) (x:=fun i=>L (i+1)-32*bH L i) da fun i hi=>by unfold bH;omega) fun i hi=>by
  show L (i+1)=32*bH L i+(L (i+1)-32*bH L i);omega
 have s:=bW h0 h1
 have:=jC L
 omega
theorem oq {f:Nat->Int} {m m':Int} (h:oD f m) (h':oD f m') (hm:0<m) (hmm:m<m') {n:Int} (hn:n=gJ f) (hb:m'<=n) {i:Nat} (hi:i<3):-(m'+m)<=m'*ca f m i-m*ca f m' i/\m'*ca f m i-m*ca f m' i<=m'+m:=by
 obtain⟨n1,e1,_,_,_,c1⟩:=dW h
 obtain⟨n2,e2,_,_,_,c2⟩:=dW h'
 have x1:n1=n:=oa
 have x2:n2=n:=oa
 rw[x1]at c1
 rw[x2]at c2
 rcases c1 with⟨a,_⟩|⟨_,r,hr⟩
 ·omega
 obtain⟨r1,r2,r3⟩:=hr i hi
 have k:∃r',n*ca f m' i=m'*f i-r'/\-n<=r'/\r'<=n:=by
  rcases c2 with⟨a,e⟩|⟨_,s,hs⟩
  ·have:n=m':=oa
   exact⟨0,by rw[e,this];omega,oa,oa⟩
  ·exact⟨s i,hs i hi⟩
 obtain⟨r',q1,q2,q3⟩:=k
 have e:n* (m'*ca f m i-m*ca f m' i)=m*r'-m'*r i:=by
  have a:n* (m'*ca f m i-m*ca f m' i)=m'* (n*ca f m i)-m* (n*ca f m' i):=by grind
  rw[a,r1,q1];grind
 have a1:=bR (P:=m) (R:=n) (a:=m) (b:=r') oa oa q2 q3
 have a2:=bR (P:=m') (R:=n) (a:=m') (b:=r i) oa oa r2 r3
 have e2:n* (m'+m)=m*n+m'*n:=by grind
 have e3:n*-(m'+m)=-(n* (m'+m)):=by grind
 have hp:0<n:=oa
 exact⟨mC (by rw[e3,e,e2];omega) hp,mC (by rw[e,e2];omega) hp⟩
theorem nI {Z c N:Int} (hN0:4194304<N) (hN1:N<=40000000) (hN:(32*N+32)* (32*N+32)+c*c<1073741814*1073741814) (hl:1073741814*1073741814<=nn L) (hL:nn L<=1073741836*1073741836) (h0:0<=L 0) (h1:L 0<=c) (hl':1073741814*1073741814<=nn Y) (hY:nn Y<=1073741836*1073741836) (h0':0<=Y 0) (h1':Y 0<=c) (hZ:0<=Z)
 (h:vv (fun i=>Y (i+1)-L (i+1))<=Z*Z):∀i,i<3->-(4194304* ((Z+64)/32+6))<=N* (aB Y i-aB L i)+2* (N+4194304)/\N* (aB Y i-aB L i)<=4194304* ((Z+64)/32+6)+2* (N+4194304):=fun i hi=>by
 obtain⟨n,en,n0,na,_⟩:=dW (gY hL).1
 obtain⟨m,em,m0,ma,_⟩:=dW (gY hY).1
 have nb:=pC hl h0 h1 oa hN n0 na
 have mb:=pC hl' h0' h1' oa hN m0 ma
 have oL:oD (bH L) N:=⟨(gY hL).1.1,oa,oa⟩
 have oY:oD (bH Y) N:=⟨(gY hY).1.1,oa,oa⟩
 have t:=o7 oY oL oa oa (pJ hZ h)
 have c:=bY (v:=fun i=>ca (bH Y) N i-ca (bH L) N i) oa t hi
 have a:=oq (gY hL).1 oL da hN0 en nb hi
 have b:=oq (gY hY).1 oY da hN0 em mb hi
 have e1:aB Y i=ca (bH Y) 4194304 i:=rfl
 have e2:aB L i=ca (bH L) 4194304 i:=rfl
 rw[e1,e2]
 have e3:N* (ca (bH Y) 4194304 i-ca (bH L) 4194304 i)=N*ca (bH Y) 4194304 i-N*ca (bH L) 4194304 i:=by grind
 rw[e3]
 omega
end
section
open Go.RowKit PM Dt
def Bt (mu m W:Int):Prop:=(0<=W/\0<=m/\m<=W/\(m=W\/mu<=m))\/(W<=0/\W<=m/\m<=0/\(m=W\/m<=-mu))
variable{mu:Int} {m L:Nat->Int}
theorem Fm {f:Nat->Int} {n:Int} (h0:0<=n) (h:vv f<=n*n) {a b c:Int} (ha:a=f 0\/a=-f 0) (hb:b=f 1\/b=-f 1) (hc:c=f 2\/c=-f 2):a+b+c<=2*n:=by
 have e:a*a+b*b+c*c=vv f:=by
  unfold vv
  rcases ha with rfl|rfl<;>rcases hb with rfl|rfl<;>rcases hc with rfl|rfl<;>grind
 have x:=av (a-b)
 have y:=av (a-c)
 have z:=av (b-c)
 have k:(a+b+c)* (a+b+c)<=(2*n)* (2*n):=by
  have e1:(a+b+c)* (a+b+c)=3* (a*a+b*b+c*c)-((a-b)* (a-b)+(a-c)* (a-c)+(b-c)* (b-c)):=by grind
  have e2:(2*n)* (2*n)=4* (n*n):=by grind
  have:=av n
  omega
 exact(bI oa k).2
theorem Fi (hL:nn L<=1073741836*1073741836) (h:∀i,i<3->Bt mu (m i) (aB L i)) (m0:0<=mu) (m1:mu<=4194304):
 ∃n:Int,0<=n/\vv (bH L)<=n*n/\(0<n->(n-1)* (n-1)<vv (bH L))/\vv (qw L)<=(32*n+32)* (32*n+32)/\
  (mu<=n->32* (mu* (n-2))-128*n<=m 0*L 1+m 1*L 2+m 2*L 3)/\32*vv m-32*n<=m 0*L 1+m 1*L 2+m 2*L 3:=by
 have ok:=(gY hL).1
 obtain⟨n,_,n0,na,nb,hw⟩:=dW ok
 have vL:vv (qw L)<=(32*n+32)* (32*n+32):=by
  have a:vv (fun i=>32*bH L i)<=(32*n)* (32*n):=by
   have:=ef 32 (bH L)
   have e:32*n* (32*n)=32*32* (n*n):=by grind
   omega
  exact cE (z:=qw L) oa da a (dI (B:=16) (x:=fun i=>L (i+1)-32*bH L i) da fun i hi=>by unfold bH;omega) fun i hi=>by
   show L (i+1)=32*bH L i+(L (i+1)-32*bH L i);omega
 have ab:∀i,i<3->∃a b:Int,(a=bH L i\/a=-bH L i)/\0<=a/\a<=n/\(b=m i\/b=-m i)/\0<=b/\b<=a/\m i*bH L i=b*a/\(mu<=n->mu* (a*a)-n*a<=n* (b*a)):=fun i hi=>by
  have f:=bY n0 na hi
  have g:=h i hi
  have le:=wC ok hi
  have le:(0<=aB L i/\aB L i<=bH L i)\/(bH L i<=aB L i/\aB L i<=0):=le
  have q1:0<=bH L i->0<=m i/\m i<=bH L i/\(m i=aB L i\/mu<=m i):=fun hv=>by unfold Bt at g;omega
  have q2:¬0<=bH L i->0<=-m i/\-m i<=-bH L i/\(-m i=-aB L i\/mu<=-m i):=fun hv=>by unfold Bt at g;omega
  clear g le
  have w:(aB L i=bH L i)\/∃r,n*aB L i=4194304*bH L i-r/\-n<=r/\r<=n:=by
   rcases hw with⟨_,e⟩|⟨_,r,hr⟩
   ·exact .inl (congrFun e i)
   ·exact .inr ⟨r i,hr i hi⟩
  generalize aB L i=W at *
  generalize bH L i=v at *
  generalize m i=x at *
  have pos:∀{v x W:Int},0<=v->v<=n->(W=v\/∃r,n*W=4194304*v-r/\-n<=r/\r<=n)->(x=W\/mu<=x)->mu<=n->mu* (v*v)-n*v<=n* (x*v):=fun{v x W} v0 v1 w g hmn=>by
   have a:mu*v-n<=n*x:=by
    rcases g with rfl|g
    ·have b:=mR m1 v0
     rcases w with rfl|⟨r,w1,w2,w3⟩
     ·have:=mR hmn v0;omega
     ·omega
    ·have a:=mL g n0
     have b:=mL v1 m0
     have e:n*mu=mu*n:=by grind
     omega
   have b:=mR a v0
   have e1:(mu*v-n)*v=mu* (v*v)-n*v:=by grind
   have e2:n*x*v=n* (x*v):=by grind
   omega
  by_cases hv:0<=v
  ·obtain⟨q3,q4,q5⟩:=q1 hv
   exact⟨v,x,.inl rfl,hv,f.2,.inl rfl,q3,q4,rfl,pos hv f.2 w q5⟩
  ·obtain⟨q3,q4,q5⟩:=q2 hv
   have f1:=f.1
   refine⟨-v,-x,.inr rfl,by clear w;omega,by clear w;omega,.inr rfl,q3,q4,by grind,pos (W:=-W) (by clear w;omega) (by clear w;omega) ?_ q5⟩
   rcases w with rfl|⟨r,w1,w2,w3⟩
   ·exact .inl rfl
   ·refine .inr ⟨-r,?_,oa,oa⟩
    have e:n*-W=-(n*W):=by grind
    omega
 obtain⟨a0,b0,sa0,a00,an0,sb0,b00,ba0,p0,k0⟩:=ab 0 oa
 obtain⟨a1,b1,sa1,a01,an1,sb1,b01,ba1,p1,k1⟩:=ab 1 oa
 obtain⟨a2,b2,sa2,a02,an2,sb2,b02,ba2,p2,k2⟩:=ab 2 oa
 have sa:=Fm n0 na sa0 sa1 sa2
 have ev:vv (bH L)=a0*a0+a1*a1+a2*a2:=by
  have x:∀{a f:Int},(a=f\/a=-f)->f*f=a*a:=fun h=>by rcases h with rfl|rfl<;>grind
  unfold vv;rw[x sa0,x sa1,x sa2]
 have em:vv m=b0*b0+b1*b1+b2*b2:=by
  have x:∀{a f:Int},(a=f\/a=-f)->f*f=a*a:=fun h=>by rcases h with rfl|rfl<;>grind
  unfold vv;rw[x sb0,x sb1,x sb2]
 have t:∀{x v l b:Int},(b=x\/b=-x)->0<=b->-16<=l-32*v->l-32*v<=16->32* (x*v)-16*b<=x*l:=fun{x v l b} hb h0 h1 h2=>by
  have e:x*l=32* (x*v)+x* (l-32*v):=by grind
  rw[e]
  rcases hb with rfl|rfl
  ·have:=mL h1 h0;omega
  ·have:=mL h2 h0
   have e2:-x* (l-32*v)=-(x* (l-32*v)):=by grind
   omega
 have rho:∀i,-16<=L (i+1)-32*bH L i/\L (i+1)-32*bH L i<=16:=fun i=>by unfold bH;omega
 have t0:32* (m 0*bH L 0)-16*b0<=m 0*L 1:=t sb0 b00 (rho 0).1 (rho 0).2
 have t1:32* (m 1*bH L 1)-16*b1<=m 1*L 2:=t sb1 b01 (rho 1).1 (rho 1).2
 have t2:32* (m 2*bH L 2)-16*b2<=m 2*L 3:=t sb2 b02 (rho 2).1 (rho 2).2
 rw[p0]at t0
 rw[p1]at t1
 rw[p2]at t2
 refine⟨n,n0,na,nb,vL,fun hmn=>?_,?_⟩
 ·by_cases hz:n=0
  ·subst hz
   have:mu=0:=oa
   subst this
   have:=mN b00 a00
   have:=mN b01 a01
   have:=mN b02 a02
   omega
  have nb:=nb oa
  have s:n* (mu* (n-2)-2*n-1)<=n* (b0*a0+b1*a1+b2*a2):=by
   have a:=mL (show(n-1)* (n-1)<=vv (bH L) by omega) m0
   have e1:n* (mu* (n-2)-2*n-1)=mu* ((n-1)* (n-1))-mu-n* (2*n)-n:=by grind
   have e2:mu*vv (bH L)=mu* (a0*a0)+mu* (a1*a1)+mu* (a2*a2):=by rw[ev];grind
   have e3:n* (b0*a0+b1*a1+b2*a2)=n* (b0*a0)+n* (b1*a1)+n* (b2*a2):=by grind
   have q:=mL sa n0
   have e4:n* (a0+a1+a2)=n*a0+n*a1+n*a2:=by grind
   have:=k0 hmn
   have:=k1 hmn
   have:=k2 hmn
   omega
  have s:=mC s oa
  omega
 ·have c0:=mL ba0 b00
  have c1:=mL ba1 b01
  have c2:=mL ba2 b02
  omega
end
end Go.Proofs.YtbhahonkhiiilaaGreat
