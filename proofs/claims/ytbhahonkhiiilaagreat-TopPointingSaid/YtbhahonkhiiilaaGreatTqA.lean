/-
  Two attitudes that turn: what is between them. No program in sight.
-/
import Derived.Test.YtbhahonkhiiilaaGreatSuB
set_option linter.unusedSimpArgs false
set_option linter.unusedVariables false
namespace Go.Proofs.YtbhahonkhiiilaaGreat
open Go.RowKit PM Dt
def cC (Q h:Nat->Int):Nat->Int:=if zV h then Q else aR Q h
theorem xJ {Q h:Nat->Int} (hI:∀i,i<4->bu (Q i)) (hQ:au Q=true) (hs:aE h 1073741824=true):
 ∃N P:Int,∃eta:Nat->Int,35184372088832<=N/\0<P/\P*1073741818<=N/\(∀j,j<4->-(1152921504606846976*P+1073741824*N)<=eta j/\eta j<=1152921504606846976*P+1073741824*N)/\
  (∀i,i<4->2147483648*N*cC Q h i=2147483648*P*pe Q (rq h) i+eta i)/\∀K,1073741824<=K->nn (rq h)<=K*K->N*N* (1073741816*1073741816)<=P*P* (K*K)* (1073741829*1073741829):=by
 obtain⟨_,l1,u1⟩:=bm hI hQ
 by_cases hz:zV h=true
 ·have z:=fun i (hi:i<3)=>(show h i=0 from beq_iff_eq.1 (by unfold zV at hz;exact List.all_eq_true.1 hz i (List.mem_range.2 hi)))
  have r0:rq h 0=1073741824:=rfl
  have r1:rq h 1=0:=z 0 oa
  have r2:rq h 2=0:=z 1 oa
  have r3:rq h 3=0:=z 2 oa
  have e:cC Q h=Q:=by unfold cC;rw[if_pos hz]
  refine⟨35184372088832*1073741824,35184372088832,fun _=>0,da,da,da,fun j hj=>⟨by show _<=(0:Int);decide,by show(0:Int)<=_;decide⟩,fun i hi=>?_,fun K h1 h2=>?_⟩
  ·rw[e]
   rcases(show i=0\/i=1\/i=2\/i=3 by omega)with rfl|rfl|rfl|rfl<;>simp only[pe]<;>rw[r0,r1,r2,r3]<;>omega
  ·have:=mM h1 h1 da oa
   omega
 ·have e:cC Q h=aR Q h:=by unfold cC;rw[if_neg hz]
  obtain⟨N,P,eta,p,hN,hP,s1,s2,hp,het,hE⟩:=Ba hI hQ hs
  obtain⟨vt,It⟩:=jj hI hQ hs
  obtain⟨_,l2,u2⟩:=bm It vt
  have n1:P*1073741818<=N:=by
   have hex:∀j,∃e,j<4->1073741824*p j=pe Q (rq h) j+e/\-536870912<=e/\e<=536870912:=fun j=>by
    by_cases hj:j<4
    ·obtain⟨e,he⟩:=hp j hj;exact⟨e,fun _=>he⟩
    ·exact⟨0,fun h=>absurd h hj⟩
   obtain⟨e,he⟩:=Classical.skolem.1 hex
   have hne:nn e<=1073741824*1073741824:=gH (B:=536870912) fun i hi=>(he i hi).2
   have m0:=av (h 0)
   have m1:=av (h 1)
   have m2:=av (h 2)
   have hR:=eS h
   have Rl:1073741824*1073741824<=nn (rq h):=oa
   have eE:nn (pe Q (rq h))=nn Q*nn (rq h):=dR _ _
   have XL:1073741820*1073741820* (1073741824*1073741824)<=nn Q*nn (rq h):=mM l1 Rl da (aT _)
   have hPP:0<=P*P:=av P
   have t:=jX (x:=sc (1073741824*P) p) (y:=sc (-P) e) (z:=sc P (pe Q (rq h))) (X:=1073741824* (N+1)) (Y:=1073741824*P) oa oa (by
    rw[c_]
    have e1:1073741824*P* (1073741824*P)*nn p=1073741824*1073741824* (P*P*nn p):=by grind
    have e2:1073741824* (N+1)* (1073741824* (N+1))=1073741824*1073741824* ((N+1)* (N+1)):=by grind
    rw[e1,e2];omega) (by
    rw[c_]
    have e1:-P*-P*nn e=P*P*nn e:=by grind
    have e2:1073741824*P* (1073741824*P)=P*P* (1073741824*1073741824):=by grind
    rw[e1,e2]
    exact mL hne hPP) (fun i hi=>by
    obtain⟨e0,_⟩:=he i hi
    show P*pe Q (rq h) i=1073741824*P*p i+-P*e i
    have:pe Q (rq h) i=1073741824*p i-e i:=oa
    rw[this];grind)
   rw[c_,eE]at t
   have lo:=mL XL hPP
   have e3:P*P* (1073741820*1073741820* (1073741824*1073741824))=(P*1152921500311879680)* (P*1152921500311879680):=by grind
   have:=(bI (x:=P*1152921500311879680) (p:=1073741824* (N+1)+1073741824*P) oa (by rw[<-e3];exact iT lo t)).2
   omega
  rw[e]
  obtain⟨c1,_,_⟩:=vo (v:=fun _=>0) hN hP n1 l1 u1 l2 u2 da het hE
  refine⟨N,P,eta,hN,hP,n1,het,hE,fun K h1 h2=>iT c1 ?_⟩
  have:=mL h2 (show 0<=P*P from av P)
  omega
theorem vG (a b c:Nat->Int) (i:Nat) (hi:i<4):pe (pe a b) c i=pe a (pe b c) i:=by
 have:i=0\/i=1\/i=2\/i=3:=oa
 rcases this with rfl|rfl|rfl|rfl<;>simp only[pe]<;>grind
theorem Cz {U V n U2 V2 n2:Nat->Int} (h:∀j,j<4->U j=V j+n j) (h2:∀j,j<4->U2 j=V2 j+n2 j) (i:Nat) (hi:i<4):pe (cj U) U2 i=pe (cj V) V2 i+pe (cj V) n2 i+pe (cj n) U2 i:=by
 have a0:=h 0 oa
 have a1:=h 1 oa
 have a2:=h 2 oa
 have a3:=h 3 oa
 have b0:=h2 0 oa
 have b1:=h2 1 oa
 have b2:=h2 2 oa
 have b3:=h2 3 oa
 have:i=0\/i=1\/i=2\/i=3:=oa
 rcases this with rfl|rfl|rfl|rfl<;>simp only[pe,cj]<;>rw[a0,a1,a2,a3,b0,b1,b2,b3]<;>grind
theorem mB {A Q h g:Nat->Int} (hI:∀i,i<4->bu (A i)) (hA:au A=true) (hJ:∀i,i<4->bu (Q i)) (hQ:au Q=true) (hs:aE h 1073741824=true) (gs:aE g 1073741824=true) {K:Int} (hK:1073741824<=K) (h2:nn (rq h)<=K*K) (g2:nn (rq g)<=K*K):
 ∃N P:Int,0<P/\0<N/\P* (1073741818*1073741818)<=N/\N* (1073741816*1073741816)<=P* (K*K)* (1073741829*1073741829)/\
  ∀i,i<4->-(N*4294967400)<=N*eD (cC A h) (cC Q g) i-P*pe (cj (rq h)) (pe (eD A Q) (rq g)) i/\N*eD (cC A h) (cC Q g) i-P*pe (cj (rq h)) (pe (eD A Q) (rq g)) i<=N*4294967400:=by
 obtain⟨N1,P1,n1,a1,a2,a3,a4,a5,a6⟩:=xJ hI hA hs
 obtain⟨N2,P2,n2,b1,b2,b3,b4,b5,b6⟩:=xJ hJ hQ gs
 have val:∀{Q h:Nat->Int},(∀i,i<4->bu (Q i))->au Q=true->aE h 1073741824=true->1073741820*1073741820<=nn (cC Q h)/\nn (cC Q h)<1073741829*1073741829:=fun{Q h} hI hQ hs=>by
  unfold cC
  split
  ·obtain⟨_,l,u⟩:=bm hI hQ;exact⟨l,u⟩
  ·obtain⟨vt,It⟩:=jj hI hQ hs
   obtain⟨_,l,u⟩:=bm It vt;exact⟨l,u⟩
 obtain⟨_,uA⟩:=val hI hA hs
 obtain⟨_,uQ⟩:=val hJ hQ gs
 have a7:=a6 K hK h2
 have b7:=b6 K hK g2
 have hPP:0<P1*P2:=Int.mul_pos a2 b2
 have hNN:0<N1*N2:=Int.mul_pos oa oa
 refine⟨N1*N2,P1*P2,hPP,hNN,?_,?_,fun i hi=>?_⟩
 ·have:=mM a3 b3 oa oa
  have e:P1*1073741818* (P2*1073741818)=P1*P2* (1073741818*1073741818):=by grind
  rw[e]at this;exact this
 ·have m:=mM a7 b7 (mN (av N2) da) (mN (mN (av P1) (av K)) da)
  have e1:N1*N1* (1073741816*1073741816)* (N2*N2* (1073741816*1073741816))=(N1*N2* (1073741816*1073741816))* (N1*N2* (1073741816*1073741816)):=by grind
  have e2:P1*P1* (K*K)* (1073741829*1073741829)* (P2*P2* (K*K)* (1073741829*1073741829))=(P1*P2* (K*K)* (1073741829*1073741829))* (P1*P2* (K*K)* (1073741829*1073741829)):=by grind
  rw[e1,e2]at m
  exact(bI (mN (mN oa (av K)) da) m).2
 ·have d:=Cz (U:=sc (2147483648*N1) (cC A h)) (V:=sc (2147483648*P1) (pe A (rq h))) (n:=n1) (U2:=sc (2147483648*N2) (cC Q g)) (V2:=sc (2147483648*P2) (pe Q (rq g))) (n2:=n2) (fun j hj=>a5 j hj) (fun j hj=>b5 j hj) i hi
  have f1:1152921504606846976*P1+1073741824*N1<=N1*2147483655:=oa
  have f2:1152921504606846976*P2+1073741824*N2<=N2*2147483655:=oa
  have c1:nn n1<=(N1*4294967310)* (N1*4294967310):=iT (gH a4) (mM oa oa oa oa)
  have c2:nn n2<=(N2*4294967310)* (N2*4294967310):=iT (gH b4) (mM oa oa oa oa)
  have uU:∀{T:Nat->Int} {N:Int},nn T<1073741829*1073741829->0<=N->nn (sc (2147483648*N) T)<=(N*2305843019951112192)* (N*2305843019951112192):=fun{T N} hu hN=>by
   rw[c_]
   have a:=mL (show nn T<=1073741829*1073741829 by omega) (show 0<=4611686018427387904* (N*N) by have:=av N;omega)
   have e:(N*2305843019951112192)* (N*2305843019951112192)=4611686018427387904* (N*N)* (1073741829*1073741829):=by grind
   have e2:2147483648*N* (2147483648*N)*nn T=4611686018427387904* (N*N)*nn T:=by grind
   omega
  have hV1:nn (sc (2147483648*P1) (pe A (rq h)))<=(N1*2305843024246079502)* (N1*2305843024246079502):=by
   have t:=jX (x:=sc (2147483648*N1) (cC A h)) (y:=sc (-1) n1) (z:=sc (2147483648*P1) (pe A (rq h))) (X:=N1*2305843019951112192) (Y:=N1*4294967310) oa oa (uU uA oa) (by rw[c_];omega) (fun i hi=>by
    have:=a5 i hi
    show 2147483648*P1*pe A (rq h) i=2147483648*N1*cC A h i+-1*n1 i
    omega)
   have e:N1*2305843019951112192+N1*4294967310=N1*2305843024246079502:=oa
   rw[e]at t;exact t
  have hU2:=uU uQ (show 0<=N2 by omega)
  have x1:=cK (x:=pe (cj (sc (2147483648*P1) (pe A (rq h)))) n2) (X:=N1*2305843024246079502* (N2*4294967310)) (mN oa oa) (by
   rw[dR,i_]
   have x:=mM hV1 c2 (aT n2) (av _)
   have e:(N1*2305843024246079502)* (N1*2305843024246079502)* ((N2*4294967310)* (N2*4294967310))=(N1*2305843024246079502* (N2*4294967310))* (N1*2305843024246079502* (N2*4294967310)):=by grind
   rw[<-e];exact x) hi
  have x2:=cK (x:=pe (cj n1) (sc (2147483648*N2) (cC Q g))) (X:=N1*4294967310* (N2*2305843019951112192)) (mN oa oa) (by
   rw[dR,i_]
   have x:=mM c1 hU2 (aT _) (av _)
   have e:(N1*4294967310)* (N1*4294967310)* ((N2*2305843019951112192)* (N2*2305843019951112192))=(N1*4294967310* (N2*2305843019951112192))* (N1*4294967310* (N2*2305843019951112192)):=by grind
   rw[<-e];exact x) hi
  have e1:N1*2305843024246079502* (N2*4294967310)=N1*N2* (2305843024246079502*4294967310):=by grind
  have e2:N1*4294967310* (N2*2305843019951112192)=N1*N2* (2305843019951112192*4294967310):=by grind
  rw[e1]at x1
  rw[e2]at x2
  have l1:pe (cj (sc (2147483648*N1) (cC A h))) (sc (2147483648*N2) (cC Q g)) i=4611686018427387904* (N1*N2*eD (cC A h) (cC Q g) i):=by
   unfold eD
   generalize cC A h=a
   generalize cC Q g=b
   rcases(show i=0\/i=1\/i=2\/i=3 by omega)with rfl|rfl|rfl|rfl<;>simp only[pe,cj,sc]<;>grind
  have l2:pe (cj (sc (2147483648*P1) (pe A (rq h)))) (sc (2147483648*P2) (pe Q (rq g))) i=4611686018427387904* (P1*P2*pe (cj (rq h)) (pe (eD A Q) (rq g)) i):=by
   have y1:pe (cj (pe A (rq h))) (pe Q (rq g)) i=pe (cj (rq h)) (pe (eD A Q) (rq g)) i:=by
    rw[uS A (rq h) (pe Q (rq g)) i hi]
    refine i7 (fun j hj=>?_) i hi
    exact(vG (cj A) Q (rq g) j hj).symm
   rw[<-y1]
   generalize pe A (rq h)=a
   generalize pe Q (rq g)=b
   rcases(show i=0\/i=1\/i=2\/i=3 by omega)with rfl|rfl|rfl|rfl<;>simp only[pe,cj,sc]<;>grind
  rw[l1,l2]at d
  omega
def yS (E h d:Nat->Int):Nat->Int
 |0=>(h 0*E 1+h 1*E 2+h 2*E 3)*d 0-E 1* (h 0*d 0+h 1*d 1+h 2*d 2)+h 0* (E 1*d 0+E 2*d 1+E 3*d 2)+1073741824* (E 2*d 2-E 3*d 1)-E 0* (h 1*d 2-h 2*d 1)
 |1=>(h 0*E 1+h 1*E 2+h 2*E 3)*d 1-E 2* (h 0*d 0+h 1*d 1+h 2*d 2)+h 1* (E 1*d 0+E 2*d 1+E 3*d 2)+1073741824* (E 3*d 0-E 1*d 2)-E 0* (h 2*d 0-h 0*d 2)
 |_=>(h 0*E 1+h 1*E 2+h 2*E 3)*d 2-E 3* (h 0*d 0+h 1*d 1+h 2*d 2)+h 2* (E 1*d 0+E 2*d 1+E 3*d 2)+1073741824* (E 1*d 1-E 2*d 0)-E 0* (h 0*d 1-h 1*d 0)
theorem J8 (E h g:Nat->Int) {i:Nat} (hi:i<3):pe (cj (rq h)) (pe E (rq g)) (i+1)=es (rq h) (fun j=>E (j+1)) i+1073741824*E 0* (g i-h i)+yS E h (fun j=>g j-h j) i:=by
 have r0:∀h:Nat->Int,rq h 0=1073741824:=fun h=>rfl
 have r1:∀h:Nat->Int,rq h 1=h 0:=fun h=>rfl
 have r2:∀h:Nat->Int,rq h 2=h 1:=fun h=>rfl
 have r3:∀h:Nat->Int,rq h 3=h 2:=fun h=>rfl
 rcases(show i=0\/i=1\/i=2 by omega)with rfl|rfl|rfl<;>simp only[ld,lE,li,pe,cj,yS]<;>rw[r0,r1,r2,r3,r0,r1,r2,r3]<;>grind
theorem IY (A Q p:Nat->Int) (i:Nat) (hi:i<4):nn Q*eD A p i=pe (eD A Q) (eD Q p) i:=by
 have h:=vG (cj A) Q (pe (cj Q) p) i hi
 unfold eD
 rw[h]
 have:∀j,j<4->pe Q (pe (cj Q) p) j=nn Q*p j:=fun j hj=>by
  rcases(show j=0\/j=1\/j=2\/j=3 by omega)with rfl|rfl|rfl|rfl<;>simp only[pe,cj,nn]<;>grind
 rw[i7 this i hi]
 rcases(show i=0\/i=1\/i=2\/i=3 by omega)with rfl|rfl|rfl|rfl<;>simp only[pe]<;>grind
theorem FY (p Q:Nat->Int):eD Q p 0=eD p Q 0/\∀i,i<3->eD Q p (i+1)=-eD p Q (i+1):=by
 constructor
 ·simp only[eD,pe,cj];grind
 ·intro i hi
  rcases(show i=0\/i=1\/i=2 by omega)with rfl|rfl|rfl<;>simp only[eD,pe,cj]<;>grind
theorem AG {h v:Nat->Int} {L V K:Int} (hL0:0<=L) (hV0:0<=V) (hK0:0<=K) (hL:vv h<=L*L) (hV:vv v<=V*V) (hK:nn (rq h)<=K*K):
 vv (fun i=>es (rq h) v i-nn (rq h)*v i)<=(2*K*L*V)* (2*K*L*V):=by
 have e0:=ld (rq h) v
 have e1:=lE (rq h) v
 have e2:=li (rq h) v
 have r0:rq h 0=1073741824:=rfl
 have r1:rq h 1=h 0:=rfl
 have r2:rq h 2=h 1:=rfl
 have r3:rq h 3=h 2:=rfl
 have hn:nn (rq h)=1152921504606846976+vv h:=by have:=eS h;unfold vv;omega
 have nR:=aT (rq h)
 rw[r0,r1,r2,r3]at e0 e1 e2
 generalize es (rq h) v=E at *
 have id:vv (fun i=>E i-nn (rq h)*v i)=4*nn (rq h)* (vv h*vv v-(h 0*v 0+h 1*v 1+h 2*v 2)* (h 0*v 0+h 1*v 1+h 2*v 2)):=by
  unfold vv at hn|-
  simp only[]
  rw[e0,e1,e2,hn];grind
 have hsq:=av (h 0*v 0+h 1*v 1+h 2*v 2)
 have b1:vv h*vv v<=L*L* (V*V):=mM hL hV (fm v) (av L)
 rw[id]
 have b2:4*nn (rq h)* (vv h*vv v-(h 0*v 0+h 1*v 1+h 2*v 2)* (h 0*v 0+h 1*v 1+h 2*v 2))<=4* (K*K)* (L*L* (V*V)):=by
  refine iT (mL (show _<=L*L* (V*V) by omega) oa) ?_
  exact mR oa (mN (av L) (av V))
 have e3:4* (K*K)* (L*L* (V*V))=(2*K*L*V)* (2*K*L*V):=by grind
 rw[<-e3];exact b2
theorem xU {Q T:Nat->Int} (hI:∀i,i<4->bu (Q i)) (hq:au Q=true) (hT:∀i,i<3->-1048576<=T i/\T i<=1048576) (hvv:vv T<=1048576*1048576) {i:Nat} (hi:i<3):
 -578149602163687424<=1152921504606846976*aC Q T i-es Q T i/\1152921504606846976*aC Q T i-es Q T i<=578149602163687424:=by
 obtain⟨ku,lo,hu⟩:=bm hI hq
 have hM:=oK hu
 have kv:cx T=true:=(bK T).2 fun i hi=>(bE _).2 (by have:=hT i hi;omega)
 have B:=fun i (hi':i<3)=>BX (g:=cN (bL Q) T) (V:=1048576) da (fA Q) (fun i hi=>kI _ _ hi) oa hu (gz Q T) hvv hi'
 have kB:cx (cN (bL Q) T)=true:=(bK _).2 fun i hi=>(bE _).2 (by have:=B i hi;omega)
 have eq:aC Q T=cN (bL Q) T:=by unfold aC jt iV;rw[hq,hM,kv,kB];rfl
 rw[eq]
 obtain⟨d0,m0,a0,b0⟩:=fA Q (3*i) oa
 obtain⟨d1,m1,a1,b1⟩:=fA Q (3*i+1) oa
 obtain⟨d2,m2,a2,b2⟩:=fA Q (3*i+2) oa
 obtain⟨e,hg,ae,be⟩:=kI (bL Q) T hi
 have p0:=bR (P:=536870912) (R:=1048576) a0 b0 (hT 0 oa).1 (hT 0 oa).2
 have p1:=bR (P:=536870912) (R:=1048576) a1 b1 (hT 1 oa).1 (hT 1 oa).2
 have p2:=bR (P:=536870912) (R:=1048576) a2 b2 (hT 2 oa).1 (hT 2 oa).2
 have key:1073741824*ap (tr (bL Q)) T i=es Q T i+(d0*T 0+d1*T 1+d2*T 2):=by
  unfold es ap
  generalize tr (bL Q)=M at *
  generalize tr (bD Q)=E at *
  have a0:1073741824* (M (3*i)*T 0)=(E (3*i)+d0)*T 0:=by rw[<-m0];grind
  have a1:1073741824* (M (3*i+1)*T 1)=(E (3*i+1)+d1)*T 1:=by rw[<-m1];grind
  have a2:1073741824* (M (3*i+2)*T 2)=(E (3*i+2)+d2)*T 2:=by rw[<-m2];grind
  grind
 omega
theorem Gf {Q D T:Nat->Int} {L:Int} (hI:∀i,i<4->bu (Q i)) (hq:au Q=true) (hT:∀i,i<3->-1048576<=T i/\T i<=1048576) (hvv:vv T<=1048576*1048576) (hL0:0<=L) (hL1:L<=134217728) (hD:4*vv D<=L*L):
 vv (aC Q T)<=1048580*1048580/\∀i,i<3->-(3*nn (rq (aJ 2 D)))<=nn (rq (aJ 2 D))*aC (bJ Q D) T i-es (rq (aJ 2 D)) (aC Q T) i/\nn (rq (aJ 2 D))*aC (bJ Q D) T i-es (rq (aJ 2 D)) (aC Q T) i<=3*nn (rq (aJ 2 D)):=by
 have hh:vv (aJ 2 D)<=L*L:=by
  have:vv (aJ 2 D)=4*vv D:=by unfold aJ vv;grind
  omega
 have hb:=fun i (hi:i<3)=>bY (v:=aJ 2 D) hL0 hh hi
 have hs:aE (aJ 2 D) 1073741824=true:=(bp _ _).2 fun i hi=>(cR _ _).2 (by have:=hb i hi;omega)
 obtain⟨_,l1,u1⟩:=bm hI hq
 have eA:bJ Q D=cC Q (aJ 2 D):=by
  unfold bJ cC
  have:zV D=zV (aJ 2 D):=Bool.eq_iff_iff.2 ⟨fun k=>p_ fun i hi=>by
   have:D i=0:=beq_iff_eq.1 (by unfold zV at k;exact List.all_eq_true.1 k i (List.mem_range.2 hi))
   show 2*D i=0;omega,fun k=>p_ fun i hi=>by
   have:2*D i=0:=beq_iff_eq.1 (by unfold zV at k;exact List.all_eq_true.1 k i (List.mem_range.2 hi))
   omega⟩
  rw[this]
 have vt:au (cC Q (aJ 2 D))=true/\∀i,i<4->bu (cC Q (aJ 2 D) i):=by
  unfold cC
  split
  ·exact⟨hq,hI⟩
  ·exact jj hI hq hs
 obtain⟨N,P,eta,hN,hP,n1,het,hE,_⟩:=xJ hI hq hs
 obtain⟨_,l2,u2⟩:=bm vt.2 vt.1
 have hv2:vv (fun i=>1024*T i)<=1073741828*1073741828:=by
  have:vv (fun i=>1024*T i)=1048576*vv T:=by unfold vv;grind
  omega
 obtain⟨c1,c2,c3⟩:=vo (v:=fun i=>1024*T i) hN hP n1 l1 u1 l2 u2 hv2 het hE
 have sc1:∀(q v:Nat->Int) i,i<3->es q (fun j=>1024*v j) i=1024*es q v i:=fun q v i hi=>by
  rcases(show i=0\/i=1\/i=2 by omega)with rfl|rfl|rfl<;>simp only[ld,lE,li]<;>grind
 rw[eA]
 have f1:=fun i hi=>xU hI hq hT hvv (i:=i) hi
 have f2:=fun i hi=>xU vt.2 vt.1 hT hvv (i:=i) hi
 generalize cC Q (aJ 2 D)=Q' at *
 obtain⟨h,hhE⟩:∃h,h=aJ 2 D:=⟨_,rfl⟩
 rw[<-hhE]at hh hE c1 c2 c3|-
 generalize aC Q T=s at *
 generalize aC Q' T=t at *
 have hn:nn (rq h)=1152921504606846976+vv h:=by have:=eS h;unfold vv;omega
 have hv0:=fm h
 have hLL:L*L<=134217728*134217728:=mM hL1 hL1 hL0 da
 have hR:nn (rq h)<=1082098000*1082098000:=oa
 have sv:vv s<=1048580*1048580:=by
  have he:=tX Q T
  have nQ:=aT Q
  have q2:nn Q*nn Q<=1073741829*1073741829* (1073741829*1073741829):=mM oa oa nQ da
  have w2:=mM q2 hvv (fm T) da
  rw[<-he]at w2
  have db:=fun i hi=>(bR (P:=578149602163687424) (R:=578149602163687424) (f1 i hi).1 (f1 i hi).2 (f1 i hi).1 (f1 i hi).2).2
  have d0:=db 0 oa
  have d1:=db 1 oa
  have d2:=db 2 oa
  generalize es Q T=E at *
  have ev:vv E=E 0*E 0+E 1*E 1+E 2*E 2:=rfl
  have t:=wL (x0:=E 0) (x1:=E 1) (x2:=E 2) (y0:=1152921504606846976*s 0-E 0) (y1:=1152921504606846976*s 1-E 1) (y2:=1152921504606846976*s 2-E 2) (X:=1152921504606846976*1048577) (Y:=1156299204327374848) da da oa oa
  have y:∀a b:Int,a+(b-a)=b:=fun a b=>oa
  rw[y,y,y]at t
  have e0:(1152921504606846976*s 0)* (1152921504606846976*s 0)+(1152921504606846976*s 1)* (1152921504606846976*s 1)+(1152921504606846976*s 2)* (1152921504606846976*s 2)=1152921504606846976*1152921504606846976*vv s:=by unfold vv;grind
  rw[e0]at t
  omega
 refine⟨sv,fun i hi=>?_⟩
 have b1:=bY (v:=es (rq h) (fun j=>1152921504606846976*s j+-1*es Q T j)) (V:=nn (rq h)*1156299204327374848) oa (by
  rw[tX]
  have db:=fun i hi=>(bR (P:=578149602163687424) (R:=578149602163687424) (f1 i hi).1 (f1 i hi).2 (f1 i hi).1 (f1 i hi).2).2
  have d0:=db 0 oa
  have d1:=db 1 oa
  have d2:=db 2 oa
  have n:∀a b:Int,a+-1*b=a-b:=fun a b=>oa
  have x:vv (fun j=>1152921504606846976*s j+-1*es Q T j)<=1156299204327374848*1156299204327374848:=by
   unfold vv;simp only[n];omega
  have:=mL x (mN (show 0<=nn (rq h) by omega) (show 0<=nn (rq h) by omega))
  have e:nn (rq h)*1156299204327374848* (nn (rq h)*1156299204327374848)=nn (rq h)*nn (rq h)* (1156299204327374848*1156299204327374848):=by grind
  rw[e];exact this) hi
 rw[IE (rq h) s (es Q T) _ _ hi]at b1
 have b2:=bY (v:=es (rq h) s) (V:=nn (rq h)*1048580) oa (by
  rw[tX]
  have:=mL sv (mN (show 0<=nn (rq h) by omega) (show 0<=nn (rq h) by omega))
  have e:nn (rq h)*1048580* (nn (rq h)*1048580)=nn (rq h)*nn (rq h)* (1048580*1048580):=by grind
  rw[e];exact this) hi
 have c3:=c3 i hi
 rw[sc1 Q' T i hi]at c3
 have e9:es (rq h) (es Q fun j=>1024*T j) i=1024*es (rq h) (es Q T) i:=by
  have:∀j,j<3->es Q (fun j=>1024*T j) j=1024*es Q T j:=fun j hj=>sc1 Q T j hj
  have c:∀{u v:Nat->Int},(∀j,j<3->u j=v j)->es (rq h) u i=es (rq h) v i:=fun{u v} k=>by
   have k0:=k 0 oa
   have k1:=k 1 oa
   have k2:=k 2 oa
   rcases(show i=0\/i=1\/i=2 by omega)with rfl|rfl|rfl<;>simp only[ld,lE,li]<;>rw[k0,k1,k2]
  rw[c (v:=fun j=>1024*es Q T j) this]
  exact sc1 (rq h) (es Q T) i hi
 rw[e9]at c3
 have ht:=f2 i hi
 have hNN:0<N*N:=Int.mul_pos oa oa
 have hPP:0<=P*P:=av P
 generalize es (rq h) s i=X at *
 generalize es (rq h) (es Q T) i=Y at *
 generalize es Q' T i=Z at *
 generalize t i=x at *
 generalize s i=si at *
 have hR0:1152921504606846976<=nn (rq h):=oa
 generalize nn (rq h)=R at *
 have k1:-(N*N*27)<=1073741824* (P*P*R-N*N)/\1073741824* (P*P*R-N*N)<=25* (N*N):=oa
 have a1:=mL ht.1 (show 0<=N*N by omega)
 have a2:=mL ht.2 (show 0<=N*N by omega)
 have a3:=mL b1.1 hPP
 have a4:=mL b1.2 hPP
 have e1:N*N* (1152921504606846976*x-Z)=1152921504606846976* (N*N*x)-N*N*Z:=by grind
 have e2:P*P* (1152921504606846976*X+-1*Y)=1152921504606846976* (P*P*X)-P*P*Y:=by grind
 have e3:P*P* (R*1156299204327374848)=P*P*R*1156299204327374848:=by grind
 have e4:P*P*-(R*1156299204327374848)=-(P*P*R*1156299204327374848):=by grind
 have e5:N*N* (1024*Z)=1024* (N*N*Z):=by grind
 have e6:P*P* (1024*Y)=1024* (P*P*Y):=by grind
 rw[e1]at a1 a2
 rw[e2]at a3 a4
 rw[e4]at a3
 rw[e3]at a4
 rw[e5,e6]at c3
 have m2:-(2* (N*N))<=N*N*x-P*P*X/\N*N*x-P*P*X<=2* (N*N):=oa
 have a5:=mL m2.1 (show 0<=R by omega)
 have a6:=mL m2.2 (show 0<=R by omega)
 have g5:R* (N*N*x-P*P*X)=N*N* (R*x-X)-(P*P*R-N*N)*X:=by grind
 have g6:R* (2* (N*N))=N*N*R*2:=by grind
 have g7:R*-(2* (N*N))=-(N*N*R*2):=by grind
 rw[g5]at a5 a6
 rw[g7]at a5
 rw[g6]at a6
 have p:=bR (P:=27* (N*N)) (R:=R*1048580) (a:=1073741824* (P*P*R-N*N)) (b:=X) oa oa b2.1 b2.2
 have g8:27* (N*N)* (R*1048580)=N*N*R*28311660:=by grind
 have g9:1073741824* (P*P*R-N*N)*X=1073741824* ((P*P*R-N*N)*X):=by grind
 rw[g8,g9]at p
 have hNR:0<N*N*R:=Int.mul_pos hNN oa
 have key:-(3*R)<=R*x-X/\R*x-X<=3*R:=by
  constructor
  ·apply bC;intro hc
   have:=mL (show R*x-X<=-(3*R) by omega) (show 0<=N*N by omega)
   have e:N*N*-(3*R)=-(N*N*R*3):=by grind
   omega
  ·apply bC;intro hc
   have:=mL (show 3*R<=R*x-X by omega) (show 0<=N*N by omega)
   have e:N*N* (3*R)=N*N*R*3:=by grind
   omega
 exact key
theorem o5 {Q D T:Nat->Int} {L:Int} (hI:∀i,i<4->bu (Q i)) (hq:au Q=true) (hT:∀i,i<3->-1048576<=T i/\T i<=1048576) (hvv:vv T<=1048576*1048576) (hL0:0<=L) (hL1:L<=134217728) (hD:4*vv D<=L*L):
 vv (fun i=>65536* (aC (bJ Q D) T i-aC Q T i))<=(130*L+409600)* (130*L+409600):=by
 obtain⟨sv,key⟩:=Gf hI hq hT hvv hL0 hL1 hD
 have hh:vv (aJ 2 D)<=L*L:=by
  have:vv (aJ 2 D)=4*vv D:=by unfold aJ vv;grind
  omega
 generalize aJ 2 D=h at *
 generalize aC Q T=s at *
 generalize aC (bJ Q D) T=t at *
 have hn:nn (rq h)=1152921504606846976+vv h:=by have:=eS h;unfold vv;omega
 have hv0:=fm h
 have hLL:L*L<=134217728*134217728:=mM hL1 hL1 hL0 da
 have hR:nn (rq h)<=1082098000*1082098000:=oa
 have hR0:1152921504606846976<=nn (rq h):=oa
 have mv:=AG (v:=s) (V:=1048580) (K:=1082098000) hL0 da da hh sv hR
 generalize nn (rq h)=R at *
 generalize es (rq h) s=E at *
 have kb:vv (fun i=>R*t i-E i)<=(6*R)* (6*R):=by
  have k0:=key 0 oa
  have k1:=key 1 oa
  have k2:=key 2 oa
  have q0:=(bR k0.1 k0.2 k0.1 k0.2).2
  have q1:=(bR k1.1 k1.2 k1.1 k1.2).2
  have q2:=(bR k2.1 k2.2 k2.1 k2.2).2
  have e:6*R* (6*R)=4* (3*R* (3*R)):=by grind
  have p:0<=3*R* (3*R):=av _
  show(R*t 0-E 0)* (R*t 0-E 0)+(R*t 1-E 1)* (R*t 1-E 1)+(R*t 2-E 2)* (R*t 2-E 2)<=_
  omega
 have e:2*1082098000*L*1048580=L*2269332641680000:=by grind
 rw[e]at mv
 have t3:=wL (x0:=R*t 0-E 0) (x1:=R*t 1-E 1) (x2:=R*t 2-E 2) (y0:=E 0-R*s 0) (y1:=E 1-R*s 1) (y2:=E 2-R*s 2) (X:=6*R) (Y:=L*2269332641680000) oa oa kb mv
 have y:∀a b c:Int,a-b+(b-c)=a-c:=fun a b c=>oa
 rw[y,y,y]at t3
 have RL:1152921504606846976* (130*L+16384)<=R* (130*L+16384):=mR hR0 oa
 have e2:R* (130*L+16384)=130* (R*L)+16384*R:=by grind
 have big:65536* (6*R+L*2269332641680000)<=R* (130*L+409600):=by
  have e3:R* (130*L+409600)=R* (130*L+16384)+393216*R:=by grind
  omega
 have sq:=mM big big oa (mN oa oa)
 have e4:65536* (6*R+L*2269332641680000)* (65536* (6*R+L*2269332641680000))=4294967296* ((6*R+L*2269332641680000)* (6*R+L*2269332641680000)):=by grind
 have e5:R* (130*L+409600)* (R* (130*L+409600))=R*R* ((130*L+409600)* (130*L+409600)):=by grind
 rw[e4,e5]at sq
 have e6:(R*t 0-R*s 0)* (R*t 0-R*s 0)+(R*t 1-R*s 1)* (R*t 1-R*s 1)+(R*t 2-R*s 2)* (R*t 2-R*s 2)=R*R* ((t 0-s 0)* (t 0-s 0)+(t 1-s 1)* (t 1-s 1)+(t 2-s 2)* (t 2-s 2)):=by grind
 rw[e6]at t3
 have e7:vv (fun i=>65536* (t i-s i))=4294967296* ((t 0-s 0)* (t 0-s 0)+(t 1-s 1)* (t 1-s 1)+(t 2-s 2)* (t 2-s 2)):=by unfold vv;grind
 rw[e7]
 have fin:R*R* (4294967296* ((t 0-s 0)* (t 0-s 0)+(t 1-s 1)* (t 1-s 1)+(t 2-s 2)* (t 2-s 2)))<=R*R* ((130*L+409600)* (130*L+409600)):=by
  have e8:R*R* (4294967296* ((t 0-s 0)* (t 0-s 0)+(t 1-s 1)* (t 1-s 1)+(t 2-s 2)* (t 2-s 2)))=4294967296* (R*R* ((t 0-s 0)* (t 0-s 0)+(t 1-s 1)* (t 1-s 1)+(t 2-s 2)* (t 2-s 2))):=by grind
  omega
 exact mC fin (Int.mul_pos oa oa)
def qw (E:Nat->Int):Nat->Int:=fun i=>E (i+1)
theorem jC (E:Nat->Int):nn E=E 0*E 0+vv (qw E):=by
 show E 0*E 0+E 1*E 1+E 2*E 2+E 3*E 3=E 0*E 0+(E 1*E 1+E 2*E 2+E 3*E 3)
 omega
theorem yu {x y:Nat->Int} (h:∀i,i<3->x i=y i):vv x=vv y:=by
 unfold vv;rw[h 0 oa,h 1 oa,h 2 oa]
theorem cE {x y z:Nat->Int} {X Y:Int} (hX:0<=X) (hY:0<=Y) (hx:vv x<=X*X) (hy:vv y<=Y*Y) (hz:∀i,i<3->z i=x i+y i):vv z<=(X+Y)* (X+Y):=by
 have t:=wL (x0:=x 0) (x1:=x 1) (x2:=x 2) (y0:=y 0) (y1:=y 1) (y2:=y 2) hX hY hx hy
 unfold vv
 rw[hz 0 oa,hz 1 oa,hz 2 oa]
 exact t
theorem ef (c:Int) (x:Nat->Int):vv (fun i=>c*x i)=c*c*vv x:=by unfold vv;grind
theorem dI {x:Nat->Int} {B:Int} (hB:0<=B) (h:∀i,i<3->-B<=x i/\x i<=B):vv x<=(2*B)* (2*B):=by
 have q:=fun i hi=>(bR (h i hi).1 (h i hi).2 (h i hi).1 (h i hi).2).2
 have q0:=q 0 oa
 have q1:=q 1 oa
 have q2:=q 2 oa
 have e:(2*B)* (2*B)=4* (B*B):=by grind
 have p:0<=B*B:=av B
 unfold vv
 omega
theorem Jg (E h g:Nat->Int) (i:Nat) (hi:i<4):pe (cj (rq h)) (pe E (rq g)) i=pe (cj (rq h)) (pe E (rq h)) i+pe (cj (rq h)) (pe E (qv fun j=>g j-h j)) i:=by
 have r0:∀h:Nat->Int,rq h 0=1073741824:=fun h=>rfl
 have r1:∀h:Nat->Int,rq h 1=h 0:=fun h=>rfl
 have r2:∀h:Nat->Int,rq h 2=h 1:=fun h=>rfl
 have r3:∀h:Nat->Int,rq h 3=h 2:=fun h=>rfl
 rcases(show i=0\/i=1\/i=2\/i=3 by omega)with rfl|rfl|rfl|rfl<;>simp only[pe,cj,qv]<;>rw[r0,r1,r2,r3,r0,r1,r2,r3]<;>grind
theorem G9 (E h:Nat->Int):pe (cj (rq h)) (pe E (rq h)) 0=nn (rq h)*E 0/\∀i,i<3->pe (cj (rq h)) (pe E (rq h)) (i+1)=es (rq h) (qw E) i:=by
 constructor
 ·simp only[pe,cj,nn];grind
 ·intro i hi
  rcases(show i=0\/i=1\/i=2 by omega)with rfl|rfl|rfl<;>simp only[ld,lE,li,pe,cj,qw]<;>grind
theorem ey {x:Nat->Int} {X:Int} (h:nn x<=X*X):vv (qw x)<=X*X:=by
 have:=jC x
 have:=av (x 0)
 omega
theorem yt {A Q h g:Nat->Int} {K De:Int} (hI:∀i,i<4->bu (A i)) (hA:au A=true) (hJ:∀i,i<4->bu (Q i)) (hQ:au Q=true) (hs:aE h 1073741824=true) (gs:aE g 1073741824=true) (hK:1073741824<=K) (h2:nn (rq h)<=K*K) (g2:nn (rq g)<=K*K)
 (hDe:0<=De) (hd:vv (fun i=>g i-h i)<=De*De):
 ∃N P:Int,0<P/\0<N/\P* (1073741818*1073741818)<=N/\N* (1073741816*1073741816)<=P* (K*K)* (1073741829*1073741829)/\
  (∀X,0<=X->vv (qw (eD A Q))<=X*X->vv (fun i=>N*eD (cC A h) (cC Q g) (i+1))<=(P* (nn (rq h)*X+K*1152921515344265241*De)+N*8589934800)* (P* (nn (rq h)*X+K*1152921515344265241*De)+N*8589934800))/\
  (∀X,0<=X->vv (qw (eD (cC A h) (cC Q g)))<=X*X->vv (fun i=>P*nn (rq h)*eD A Q (i+1))<=(N* (X+8589934800)+P* (K*1152921515344265241*De))* (N* (X+8589934800)+P* (K*1152921515344265241*De)))/\
  (P* (nn (rq h)*eD A Q 0)<=N* (eD (cC A h) (cC Q g) 0+4294967400)+P* (K*1152921515344265241*De)):=by
 obtain⟨N,P,hP,hN,p1,p2,law⟩:=mB hI hA hJ hQ hs gs hK h2 g2
 obtain⟨_,l1,u1⟩:=bm hI hA
 obtain⟨_,l2,u2⟩:=bm hJ hQ
 have en:nn (eD A Q)<=1152921515344265241*1152921515344265241:=by
  rw[kT]
  have:=mM (show nn A<=1073741829*1073741829 by omega) (show nn Q<=1073741829*1073741829 by omega) (aT Q) da
  exact iT this da
 refine⟨N,P,hP,hN,p1,p2,?_⟩
 generalize eD (cC A h) (cC Q g)=D' at *
 generalize eD A Q=E at *
 obtain⟨t0,t1⟩:=G9 E h
 have nR:=aT (rq h)
 have dn:nn (pe (cj (rq h)) (pe E (qv fun j=>g j-h j)))<=(K*1152921515344265241*De)* (K*1152921515344265241*De):=by
  rw[dR,i_,dR,qP]
  have a:=mM h2 (mM en hd (fm _) (av _)) (mN (aT E) (fm _)) (av K)
  have e:K*K* (1152921515344265241*1152921515344265241* (De*De))=(K*1152921515344265241*De)* (K*1152921515344265241*De):=by grind
  rw[<-e];exact a
 have dv:=ey dn
 have d0:=cK (i:=0) (mN (mN oa da) hDe) dn oa
 have yd:=Jg E h g
 obtain⟨DD,hDD⟩:∃DD,DD=K*1152921515344265241*De:=⟨_,rfl⟩
 have hDD0:0<=DD:=by rw[hDD];exact mN (mN oa da) hDe
 rw[<-hDD]at dv d0|-
 generalize pe (cj (rq h)) (pe E (qv fun j=>g j-h j))=W at *
 generalize pe (cj (rq h)) (pe E (rq h))=Z at *
 generalize pe (cj (rq h)) (pe E (rq g))=Y at *
 have rb:vv (fun i=>N*D' (i+1)-P*Y (i+1))<=(N*8589934800)* (N*8589934800):=by
  have:=dI (B:=N*4294967400) (x:=fun i=>N*D' (i+1)-P*Y (i+1)) oa fun i hi=>law (i+1) oa
  have e:2* (N*4294967400)=N*8589934800:=oa
  rw[e]at this;exact this
 have zv:∀X,vv (qw E)<=X*X->vv (fun i=>P*Z (i+1))<=(P* (nn (rq h)*X))* (P* (nn (rq h)*X)):=fun X hX=>by
  have e1:vv (fun i=>P*Z (i+1))=P*P*vv (es (rq h) (qw E)):=by
   rw[ef P fun i=>Z (i+1)]
   have:vv (fun i=>Z (i+1))=vv (es (rq h) (qw E)):=yu t1
   rw[this]
  rw[e1,tX]
  have a:=mL (mL hX (show 0<=nn (rq h)*nn (rq h)from av _)) (show 0<=P*P from av P)
  have e:P*P* (nn (rq h)*nn (rq h)* (X*X))=(P* (nn (rq h)*X))* (P* (nn (rq h)*X)):=by grind
  rw[<-e];exact a
 have wv:vv (fun i=>P*W (i+1))<=(P*DD)* (P*DD):=by
  have:=ef P (qw W)
  have e2:vv (fun i=>P*W (i+1))=P*P*vv (qw W):=this
  rw[e2]
  have a:=mL dv (show 0<=P*P from av P)
  have e:P*P* (DD*DD)=(P*DD)* (P*DD):=by grind
  rw[<-e];exact a
 have PD0:0<=P*DD:=mN oa hDD0
 refine⟨fun X hX0 hX=>?_,fun X hX0 hX=>?_,?_⟩
 ·have z:=zv X hX
  have PX0:0<=P* (nn (rq h)*X):=mN oa (mN nR hX0)
  have a:=cE (z:=fun i=>P*Y (i+1)) PX0 PD0 z wv fun i hi=>by
   show P*Y (i+1)=P*Z (i+1)+P*W (i+1)
   rw[yd (i+1) oa];grind
  have b:=cE (z:=fun i=>N*D' (i+1)) (Int.add_nonneg PX0 PD0) (show 0<=N*8589934800 by omega) a rb fun i hi=>by
   show N*D' (i+1)=P*Y (i+1)+(N*D' (i+1)-P*Y (i+1));omega
  have e:P* (nn (rq h)*X)+P*DD=P* (nn (rq h)*X+DD):=by grind
  rw[e]at b;exact b
 ·have nv:vv (fun i=>N*D' (i+1))<=(N*X)* (N*X):=by
   have:=ef N (qw D')
   have e2:vv (fun i=>N*D' (i+1))=N*N*vv (qw D'):=this
   rw[e2]
   have a:=mL hX (show 0<=N*N from av N)
   have e:N*N* (X*X)=(N*X)* (N*X):=by grind
   rw[<-e];exact a
  have neg:∀x:Nat->Int,vv (fun i=>-x i)=vv x:=fun x=>by unfold vv;grind
  have rb2:vv (fun i=>-(N*D' (i+1)-P*Y (i+1)))<=(N*8589934800)* (N*8589934800):=by rw[neg fun i=>N*D' (i+1)-P*Y (i+1)];exact rb
  have wv2:vv (fun i=>-(P*W (i+1)))<=(P*DD)* (P*DD):=by rw[neg fun i=>P*W (i+1)];exact wv
  have NX0:0<=N*X:=mN oa hX0
  have a:=cE (z:=fun i=>P*Y (i+1)) NX0 (show 0<=N*8589934800 by omega) nv rb2 fun i hi=>by
   show P*Y (i+1)=N*D' (i+1)+-(N*D' (i+1)-P*Y (i+1));omega
  have b:=cE (z:=fun i=>P*Z (i+1)) (Int.add_nonneg NX0 (show 0<=N*8589934800 by omega)) PD0 a wv2 fun i hi=>by
   show P*Z (i+1)=P*Y (i+1)+-(P*W (i+1))
   rw[yd (i+1) oa];grind
  have e1:vv (fun i=>P*Z (i+1))=P*P* (nn (rq h)*nn (rq h)*vv (qw E)):=by
   rw[ef P fun i=>Z (i+1)]
   have:vv (fun i=>Z (i+1))=vv (es (rq h) (qw E)):=yu t1
   rw[this,tX]
  have e2:vv (fun i=>P*nn (rq h)*E (i+1))=P*P* (nn (rq h)*nn (rq h)*vv (qw E)):=by
   unfold vv qw;grind
  rw[e2,<-e1]
  have e3:N*X+N*8589934800=N* (X+8589934800):=by grind
  rw[e3]at b;exact b
 ·have l:=law 0 oa
  have y:=yd 0 oa
  rw[t0]at y
  have e:P*Y 0=P* (nn (rq h)*E 0)+P*W 0:=by rw[y];grind
  have w:=mL d0.1 (show 0<=P by omega)
  have e2:P*-DD=-(P*DD):=by grind
  have e3:N* (D' 0+4294967400)=N*D' 0+N*4294967400:=by grind
  omega
end Go.Proofs.YtbhahonkhiiilaaGreat
