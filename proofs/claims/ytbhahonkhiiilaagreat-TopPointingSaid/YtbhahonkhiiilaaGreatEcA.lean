/-
  The vector between two attitudes, component by component: behind a correction, and behind two turns. No program in sight.
-/
import Derived.Test.YtbhahonkhiiilaaGreatTqI
set_option linter.unusedSimpArgs false
set_option linter.unusedVariables false
namespace Go.Proofs.YtbhahonkhiiilaaGreat
open Go.RowKit PM Dt
variable{A Q h g c:Nat->Int} {m z L d:Int}
theorem sB (hI:∀i,i<4->bu (A i)) (hA:au A=true) (hJ:∀i,i<4->bu (Q i)) (hQ:au Q=true) {x:Int} (hx0:0<=x) (hx:x<=4200000) (h:Nr A Q x) (h0:0<=eD A Q 0):
 1152912600000000000<=eD A Q 0/\eD A Q 0<=1152921515344265241:=by
 obtain⟨_,l1,u1⟩:=bm hI hA
 obtain⟨_,l2,u2⟩:=bm hJ hQ
 have lo:1073741820*1073741820* (1073741820*1073741820)<=nn A*nn Q:=mM l1 l2 da oa
 rw[<-kT]at lo
 have e:=jC (eD A Q)
 unfold Nr at h
 have xx:(1073741824*x)* (1073741824*x)<=(1073741824*4200000)* (1073741824*4200000):=mM oa oa oa da
 refine⟨?_,(qM hI hA hJ hQ hx0 oa h h0).2⟩
 apply bC;intro hc
 have:=mM (show eD A Q 0<=1152912600000000000 by omega) (show eD A Q 0<=1152912600000000000 by omega) h0 da
 omega
theorem zA (hI:∀i,i<4->bu (A i)) (hA:au A=true) (hJ:∀i,i<4->bu (Q i)) (hQ:au Q=true) (hs:aE c 1073741824=true) (hcn:vv c<=1020000000000) (hz:0<=z)
 (hc:vv (fun i=>4294967296*c i-eD A Q (i+1))<=(1073741824*z)* (1073741824*z)) (hz2:z<=4096) (h0:1152912600000000000<=eD A Q 0) (h1:eD A Q 0<=1152921515344265241) (hE:∀i,i<3->-2251799813685248<=eD A Q (i+1)/\eD A Q (i+1)<=2251799813685248):
 ∀i,i<3->-(1073741824* (z+40))<=4*eD (cC A c) Q (i+1)-3*eD A Q (i+1)/\4*eD (cC A c) Q (i+1)-3*eD A Q (i+1)<=1073741824* (z+40):=by
 have g0:aE (fun _=>0) 1073741824=true:=da
 have k0:nn (rq fun _=>0)<=1073742300*1073742300:=da
 have k2:nn (rq c)<=1073742300*1073742300:=by have:=eS c;unfold vv at hcn;omega
 obtain⟨N,P,hP,hN,p1,p2,law⟩:=mB hI hA hJ hQ hs g0 (K:=1073742300) da k2 k0
 have eQ:cC Q (fun _=>0)=Q:=by unfold cC;rw[if_pos da]
 rw[eQ]at law
 obtain⟨_,l1,u1⟩:=bm hI hA
 obtain⟨_,l2,u2⟩:=bm hJ hQ
 have en:nn (eD A Q)<=1152921515344265241*1152921515344265241:=by
  rw[kT]
  have:=mM (show nn A<=1073741829*1073741829 by omega) (show nn Q<=1073741829*1073741829 by omega) (aT Q) da
  exact iT this da
 generalize eD (cC A c) Q=D' at *
 generalize eD A Q=E at *
 intro i hi
 have l:=law (i+1) oa
 have yv:=(Bv E c).1 i hi
 have sv:-(1152921515344265241* (1073741824*z))<=pe (qv fun j=>4294967296*c j-E (j+1)) E (i+1)/\pe (qv fun j=>4294967296*c j-E (j+1)) E (i+1)<=1152921515344265241* (1073741824*z):=by
  refine cK oa ?_ oa
  rw[dR,qP]
  have:=mM hc en (aT E) (av _)
  have e:1152921515344265241* (1073741824*z)* (1152921515344265241* (1073741824*z))=(1073741824*z)* (1073741824*z)* (1152921515344265241*1152921515344265241):=by grind
  rw[e];exact this
 have ei:=hE i hi
 generalize pe (cj (rq c)) (pe E (rq fun _=>0)) (i+1)=Y at *
 generalize pe (qv fun j=>4294967296*c j-E (j+1)) E (i+1)=S at *
 generalize D' (i+1)=x at *
 generalize E (i+1)=w at *
 generalize E 0=e0 at *
 have pk:P*3458764503083122663<=P* (4611686018427387904-e0):=mL oa oa
 have pk2:P* (4611686018427387904-e0)<=P*3458773418427387904:=mL oa oa
 have r:=bR (P:=N) (R:=2251799813685248) (a:=120000* (P* (4611686018427387904-e0)-3*N)) (b:=w) oa oa ei.1 ei.2
 have PS:=bR (P:=P) (R:=1152921515344265241* (1073741824*z)) (a:=P) (b:=S) oa oa sv.1 sv.2
 have e1:120000* (P* (4611686018427387904-e0)-3*N)*w=120000* (P* (4611686018427387904-e0)*w)-360000* (N*w):=by grind
 have e2:P* (4*Y)=P* (4611686018427387904-e0)*w-P*S:=by rw[yv];grind
 have e3:P* (1152921515344265241* (1073741824*z))=P*1152921515344265241* (1073741824*z):=by grind
 have zz:P*1152921515344265241* (1073741824*z)<=N*1073741824* (z+1):=by
  have a:P*1152921515344265241*4097<=N*4098:=oa
  have b:=mR (show P*1152921515344265241<=N+(P*1152921515344265241-N) by omega) (show 0<=1073741824*z by omega)
  have c2:4097* (P*1152921515344265241-N)<=N:=oa
  have d1:=mR c2 (show 0<=1073741824*z by omega)
  have d2:N* (1073741824*z)<=N* (1073741824*4096):=mL oa oa
  have f1:4097* (P*1152921515344265241-N)* (1073741824*z)=4097* (P*1152921515344265241* (1073741824*z))-4097* (N* (1073741824*z)):=by grind
  have f2:N*1073741824* (z+1)=N* (1073741824*z)+N*1073741824:=by grind
  omega
 rw[e1]at r
 rw[e3]at PS
 have f3:N*1073741824* (z+1)=N* (1073741824*z)+N*1073741824:=by grind
 have f4:N* (1073741824* (z+40))=N* (1073741824*z)+N*42949672960:=by grind
 have f5:N* (4*x-3*w)=4* (N*x)-3* (N*w):=by grind
 have f6:P* (4*Y)=4* (P*Y):=by grind
 constructor
 ·refine mC (a:=N) ?_ hN
  have f7:N*-(1073741824* (z+40))=-(N* (1073741824* (z+40))):=by grind
  omega
 ·refine mC (a:=N) ?_ hN
  omega
theorem Gk {v:Nat->Int} {M K:Int} (hL0:0<=L) (hK0:0<=K) (hM:0<=M) (hL:vv h<=L*L) (hK:nn (rq h)<=K*K) (hv:∀i,i<3->-M<=v i/\v i<=M) {i:Nat} (hi:i<3):
 -(2829* (K*L*M)+2000* (L*L*M))<=1000* (es (rq h) v i-nn (rq h)*v i)/\1000* (es (rq h) v i-nn (rq h)*v i)<=2829* (K*L*M)+2000* (L*L*M):=by
 have r0:rq h 0=1073741824:=rfl
 have r1:rq h 1=h 0:=rfl
 have r2:rq h 2=h 1:=rfl
 have r3:rq h 3=h 2:=rfl
 have hn:nn (rq h)=1152921504606846976+h 0*h 0+h 1*h 1+h 2*h 2:=eS h
 have hh:vv h=h 0*h 0+h 1*h 1+h 2*h 2:=rfl
 rw[hn]at hK
 rw[hh]at hL
 have s0:=av (h 0)
 have s1:=av (h 1)
 have s2:=av (h 2)
 have key:∀x y w a b c:Int,a*a+b*b+c*c<=L*L->1152921504606846976+(a*a+b*b+c*c)<=K*K->-M<=x/\x<=M->-M<=y/\y<=M->-M<=w/\w<=M->
  -(2829* (K*L*M)+2000* (L*L*M))<=1000* (y* (2* (a*b)+2* (1073741824*c))+w* (2* (a*c)-2* (1073741824*b))-2* (b*b+c*c)*x)/\1000* (y* (2* (a*b)+2* (1073741824*c))+w* (2* (a*c)-2* (1073741824*b))-2* (b*b+c*c)*x)<=2829* (K*L*M)+2000* (L*L*M):=fun x y w a b c h1 h2 hx hy hw=>by
  have a0:=av a
  have b0:=av b
  have c0:=av c
  have cs:=km y w 0 (2* (a*b)+2* (1073741824*c)) (2* (a*c)-2* (1073741824*b)) 0
  have id:(2* (a*b)+2* (1073741824*c))* (2* (a*b)+2* (1073741824*c))+(2* (a*c)-2* (1073741824*b))* (2* (a*c)-2* (1073741824*b))+0*0=4* ((1152921504606846976+a*a)* (b*b+c*c)):=by grind
  rw[id]at cs
  have y2:=(bR hy.1 hy.2 hy.1 hy.2).2
  have w2:=(bR hw.1 hw.2 hw.1 hw.2).2
  have p1:(1152921504606846976+a*a)* (b*b+c*c)<=K*K* (L*L):=mM oa oa oa (av K)
  have p2:(y*y+w*w+0*0)* (4* ((1152921504606846976+a*a)* (b*b+c*c)))<=2* (M*M)* (4* (K*K* (L*L))):=mM oa oa (mN da (mN oa oa)) (mN da (av M))
  have p3:2* (M*M)* (4* (K*K* (L*L)))=8* ((K*L*M)* (K*L*M)):=by grind
  have q:=av (K*L*M)
  have f:=bI (x:=1000* (y* (2* (a*b)+2* (1073741824*c))+w* (2* (a*c)-2* (1073741824*b)))) (p:=2829* (K*L*M)) (mN da (mN (mN hK0 hL0) hM)) (by
   have e1:1000* (y* (2* (a*b)+2* (1073741824*c))+w* (2* (a*c)-2* (1073741824*b)))* (1000* (y* (2* (a*b)+2* (1073741824*c))+w* (2* (a*c)-2* (1073741824*b))))=1000000* ((y* (2* (a*b)+2* (1073741824*c))+w* (2* (a*c)-2* (1073741824*b))+0*0)* (y* (2* (a*b)+2* (1073741824*c))+w* (2* (a*c)-2* (1073741824*b))+0*0)):=by grind
   have e2:2829* (K*L*M)* (2829* (K*L*M))=8003241* ((K*L*M)* (K*L*M)):=by grind
   rw[e1,e2];omega)
  have g:=bR (P:=L*L) (R:=M) (a:=b*b+c*c) (b:=x) oa oa hx.1 hx.2
  have e3:2* (b*b+c*c)*x=2* ((b*b+c*c)*x):=by grind
  rw[e3];omega
 have v0:=hv 0 oa
 have v1:=hv 1 oa
 have v2:=hv 2 oa
 rcases(show i=0\/i=1\/i=2 by omega)with rfl|rfl|rfl
 ·have k:=key (v 0) (v 1) (v 2) (h 0) (h 1) (h 2) oa oa v0 v1 v2
  rw[ld,hn,r0,r1,r2,r3]
  have e:(1073741824*1073741824+h 0*h 0-h 1*h 1-h 2*h 2)*v 0+(2* (h 0*h 1)+2* (1073741824*h 2))*v 1+(2* (h 0*h 2)-2* (1073741824*h 1))*v 2-(1152921504606846976+h 0*h 0+h 1*h 1+h 2*h 2)*v 0=v 1* (2* (h 0*h 1)+2* (1073741824*h 2))+v 2* (2* (h 0*h 2)-2* (1073741824*h 1))-2* (h 1*h 1+h 2*h 2)*v 0:=by grind
  rw[e];exact k
 ·have k:=key (v 1) (v 2) (v 0) (h 1) (h 2) (h 0) oa oa v1 v2 v0
  rw[lE,hn,r0,r1,r2,r3]
  have e:(2* (h 0*h 1)-2* (1073741824*h 2))*v 0+(1073741824*1073741824-h 0*h 0+h 1*h 1-h 2*h 2)*v 1+(2* (h 1*h 2)+2* (1073741824*h 0))*v 2-(1152921504606846976+h 0*h 0+h 1*h 1+h 2*h 2)*v 1=v 2* (2* (h 1*h 2)+2* (1073741824*h 0))+v 0* (2* (h 1*h 0)-2* (1073741824*h 2))-2* (h 2*h 2+h 0*h 0)*v 1:=by grind
  rw[e];exact k
 ·have k:=key (v 2) (v 0) (v 1) (h 2) (h 0) (h 1) oa oa v2 v0 v1
  rw[li,hn,r0,r1,r2,r3]
  have e:(2* (h 0*h 2)+2* (1073741824*h 1))*v 0+(2* (h 1*h 2)-2* (1073741824*h 0))*v 1+(1073741824*1073741824-h 0*h 0-h 1*h 1+h 2*h 2)*v 2-(1152921504606846976+h 0*h 0+h 1*h 1+h 2*h 2)*v 2=v 0* (2* (h 2*h 0)+2* (1073741824*h 1))+v 1* (2* (h 2*h 1)-2* (1073741824*h 0))-2* (h 0*h 0+h 1*h 1)*v 2:=by grind
  rw[e];exact k
theorem Fw {E d:Nat->Int} {M De:Int} (hL0:0<=L) (hM:0<=M) (hD:0<=De) (hL:vv h<=L*L) (hE:∀i,i<3->-M<=E (i+1)/\E (i+1)<=M) (hd:∀i,i<3->-De<=d i/\d i<=De) (h0:0<=E 0) {i:Nat} (hi:i<3):
 -(1415* (E 0* (L*De))+7000* (L* (M*De))+2147483648000* (M*De))<=1000*yS E h d i/\1000*yS E h d i<=1415* (E 0* (L*De))+7000* (L* (M*De))+2147483648000* (M*De):=by
 have hb:=fun i (hi:i<3)=>bY hL0 hL hi
 have md:∀i j,i<3->j<3->-(M*De)<=E (i+1)*d j/\E (i+1)*d j<=M*De:=fun i j hi hj=>bR (hE i hi).1 (hE i hi).2 (hd j hj).1 (hd j hj).2
 have lmd:∀i j k,i<3->j<3->k<3->-(L* (M*De))<=h i* (E (j+1)*d k)/\h i* (E (j+1)*d k)<=L* (M*De):=fun i j k hi hj hk=>bR (hb i hi).1 (hb i hi).2 (md j k hj hk).1 (md j k hj hk).2
 have hh:vv h=h 0*h 0+h 1*h 1+h 2*h 2:=rfl
 rw[hh]at hL
 have s0:=av (h 0)
 have s1:=av (h 1)
 have s2:=av (h 2)
 have cr:∀a b x y:Int,a*a+b*b<=L*L->(-De<=x/\x<=De)->(-De<=y/\y<=De)->-(1415* (E 0* (L*De)))<=1000* (E 0* (a*y-b*x))/\1000* (E 0* (a*y-b*x))<=1415* (E 0* (L*De)):=fun a b x y h1 hx hy=>by
  have cs:=km a b 0 y (-x) 0
  have x2:=(bR hx.1 hx.2 hx.1 hx.2).2
  have y2:=(bR hy.1 hy.2 hy.1 hy.2).2
  have xx:=av x
  have yy:=av y
  have e0:-x*-x=x*x:=Int.neg_mul_neg x x
  have p:(a*a+b*b+0*0)* (y*y+-x*-x+0*0)<=L*L* (2* (De*De)):=mM oa oa oa (av L)
  have q:=av (L*De)
  have f:=bI (x:=1000* (a*y-b*x)) (p:=1415* (L*De)) (mN da (mN hL0 hD)) (by
   have e1:1000* (a*y-b*x)* (1000* (a*y-b*x))=1000000* ((a*y+b*-x+0*0)* (a*y+b*-x+0*0)):=by grind
   have e2:1415* (L*De)* (1415* (L*De))=2002225* ((L*De)* (L*De)):=by grind
   have e3:L*L* (2* (De*De))=2* ((L*De)* (L*De)):=by grind
   rw[e1,e2];omega)
  have g1:=mL f.1 h0
  have g2:=mL f.2 h0
  have e4:E 0* (1000* (a*y-b*x))=1000* (E 0* (a*y-b*x)):=by grind
  have e5:E 0* (1415* (L*De))=1415* (E 0* (L*De)):=by grind
  have e6:E 0*-(1415* (L*De))=-(1415* (E 0* (L*De))):=by grind
  omega
 have d0:=hd 0 oa
 have d1:=hd 1 oa
 have d2:=hd 2 oa
 rcases(show i=0\/i=1\/i=2 by omega)with rfl|rfl|rfl
 ·have c:=cr (h 1) (h 2) (d 1) (d 2) oa d1 d2
  have a1:=md 1 2 oa oa
  have a2:=md 2 1 oa oa
  have b1:=lmd 1 1 0 oa oa oa
  have b2:=lmd 2 2 0 oa oa oa
  have b3:=lmd 1 0 1 oa oa oa
  have b4:=lmd 2 0 2 oa oa oa
  have b5:=lmd 0 0 0 oa oa oa
  have b6:=lmd 0 1 1 oa oa oa
  have b7:=lmd 0 2 2 oa oa oa
  have e:yS E h d 0=h 1* (E 2*d 0)+h 2* (E 3*d 0)-h 1* (E 1*d 1)-h 2* (E 1*d 2)+h 0* (E 1*d 0)+h 0* (E 2*d 1)+h 0* (E 3*d 2)+1073741824* (E 2*d 2-E 3*d 1)-E 0* (h 1*d 2-h 2*d 1):=by simp only[yS];grind
  simp only[Nat.reduceAdd]at a1 a2 b1 b2 b3 b4 b5 b6 b7
  omega
 ·have c:=cr (h 2) (h 0) (d 2) (d 0) oa d2 d0
  have a1:=md 2 0 oa oa
  have a2:=md 0 2 oa oa
  have b1:=lmd 0 0 1 oa oa oa
  have b2:=lmd 2 2 1 oa oa oa
  have b3:=lmd 0 1 0 oa oa oa
  have b4:=lmd 2 1 2 oa oa oa
  have b5:=lmd 1 0 0 oa oa oa
  have b6:=lmd 1 1 1 oa oa oa
  have b7:=lmd 1 2 2 oa oa oa
  have e:yS E h d 1=h 0* (E 1*d 1)+h 2* (E 3*d 1)-h 0* (E 2*d 0)-h 2* (E 2*d 2)+h 1* (E 1*d 0)+h 1* (E 2*d 1)+h 1* (E 3*d 2)+1073741824* (E 3*d 0-E 1*d 2)-E 0* (h 2*d 0-h 0*d 2):=by simp only[yS];grind
  simp only[Nat.reduceAdd]at a1 a2 b1 b2 b3 b4 b5 b6 b7
  omega
 ·have c:=cr (h 0) (h 1) (d 0) (d 1) oa d0 d1
  have a1:=md 0 1 oa oa
  have a2:=md 1 0 oa oa
  have b1:=lmd 0 0 2 oa oa oa
  have b2:=lmd 1 1 2 oa oa oa
  have b3:=lmd 0 2 0 oa oa oa
  have b4:=lmd 1 2 1 oa oa oa
  have b5:=lmd 2 0 0 oa oa oa
  have b6:=lmd 2 1 1 oa oa oa
  have b7:=lmd 2 2 2 oa oa oa
  have e:yS E h d 2=h 0* (E 1*d 2)+h 1* (E 2*d 2)-h 0* (E 3*d 0)-h 1* (E 3*d 1)+h 2* (E 1*d 0)+h 2* (E 2*d 1)+h 2* (E 3*d 2)+1073741824* (E 1*d 1-E 2*d 0)-E 0* (h 0*d 1-h 1*d 0):=by simp only[yS];grind
  simp only[Nat.reduceAdd]at a1 a2 b1 b2 b3 b4 b5 b6 b7
  omega
theorem mW {S:Int} (h0:1152921504606846976<=S) (h1:S<=1170930000000000000):∃K:Int,1073741824<=K/\K<=1082098000/\S<=K*K/\K*K<=S+2170000000:=by
 obtain⟨N,hN⟩:∃N,fY S.toNat=N:=⟨_,rfl⟩
 have h4:S.toNat<4^200:=Nat.lt_of_le_of_lt (show S.toNat<=1170930000000000000 by omega) da
 have hr:N<1082098000:=by rw[<-hN];exact(fc h4).2 oa
 have hl:1073741824<=N:=by rw[<-hN];exact(gN h4).2 oa
 have hu1:S.toNat<(N+1)* (N+1):=(fc h4).1 oa
 have hu2:N*N<=S.toNat:=(gN h4).1 oa
 have a:((N:Int)+1)* ((N:Int)+1)=(N:Int)*N+2*N+1:=by grind
 have b:S<((N:Int)+1)* ((N:Int)+1):=by
  have:((S.toNat:Nat):Int)<(((N+1)* (N+1):Nat):Int):=by exact_mod_cast hu1
  push_cast at this
  omega
 have c:(N:Int)*N<=S:=by
  have:((N*N:Nat):Int)<=((S.toNat:Nat):Int):=by exact_mod_cast hu2
  push_cast at this
  omega
 exact⟨N+1,oa,oa,oa,oa⟩
theorem z6 {ep:Int} (hI:∀i,i<4->bu (A i)) (hA:au A=true) (hJ:∀i,i<4->bu (Q i)) (hQ:au Q=true) (hs:aE h 1073741824=true) (gs:aE g 1073741824=true) (hL0:0<=L) (hL1:L<=71000000) (hh:vv h<=L*L) (hg:vv g<=L*L)
 (hm0:0<=m) (hm:m<=2097152) (hd0:0<=d) (hd1:d<=1048576) (hE:∀i,i<3->-(1073741824*m)<=eD A Q (i+1)/\eD A Q (i+1)<=1073741824*m) (hd:∀i,i<3->-d<=g i-h i/\g i-h i<=d)
 (h0:1152912600000000000<=eD A Q 0) (h1:eD A Q 0<=1152921515344265241)
 (hep:1073741824* (2836* (L*m)+1430* (L*d)+2001* (m*d))+1000* (3* (L*L*m)+L*L*d)<=1152921504606846976000* (ep-16)):
 ∀i,i<3->-(1073741824*ep)<=eD (cC A h) (cC Q g) (i+1)-eD A Q (i+1)-1073741824* (g i-h i)/\eD (cC A h) (cC Q g) (i+1)-eD A Q (i+1)-1073741824* (g i-h i)<=1073741824*ep:=by
 have LLb:L*L<=71000000*71000000:=mM hL1 hL1 hL0 da
 have LL0:0<=L*L:=av L
 have nh:nn (rq h)=1152921504606846976+vv h:=by have:=eS h;unfold vv;omega
 have ng:nn (rq g)=1152921504606846976+vv g:=by have:=eS g;unfold vv;omega
 have vh:=fm h
 obtain⟨K,k1,k2,k3,k4⟩:=mW (S:=1152921504606846976+L*L) oa oa
 have k5:K<=1076100000:=by
  apply bC;intro hc
  have:=mM (show 1076100000<=K by omega) (show 1076100000<=K by omega) da oa
  omega
 obtain⟨N,P,hP,hN,p1,p2,law⟩:=mB hI hA hJ hQ hs gs k1 (show nn (rq h)<=K*K by omega) oa
 have M0:0<=1073741824*m:=oa
 generalize eD (cC A h) (cC Q g)=D' at *
 generalize eD A Q=E at *
 intro i hi
 have l:=law (i+1) oa
 have y:=J8 E h g hi
 have w:=Gk (v:=fun j=>E (j+1)) hL0 oa M0 hh (show nn (rq h)<=K*K by omega) hE hi
 have s:=Fw (d:=fun j=>g j-h j) hL0 M0 hd0 hh hE hd oa hi
 have ei:=hE i hi
 have di:=hd i hi
 have w:-(2829* (K*L* (1073741824*m))+2000* (L*L* (1073741824*m)))<=1000* (es (rq h) (fun j=>E (j+1)) i-nn (rq h)*E (i+1))/\1000* (es (rq h) (fun j=>E (j+1)) i-nn (rq h)*E (i+1))<=2829* (K*L* (1073741824*m))+2000* (L*L* (1073741824*m)):=w
 generalize pe (cj (rq h)) (pe E (rq g)) (i+1)=Y at *
 generalize es (rq h) (fun j=>E (j+1)) i=W at *
 generalize yS E h (fun j=>g j-h j) i=S at *
 generalize nn (rq h)=R at *
 generalize D' (i+1)=x at *
 generalize E (i+1)=e at *
 generalize g i-h i=dd at *
 generalize E 0=e0 at *
 generalize L*L=LL at *
 have a1:80000000* (P*1152921504606846976-N)<=N:=oa
 have px:∀X:Int,0<=X->80000000* (P*1152921504606846976*X)<=80000001* (N*X):=fun X hX=>by
  have:=mR a1 hX
  have f:80000000* (P*1152921504606846976-N)*X=80000000* (P*1152921504606846976*X)-80000000* (N*X):=by grind
  omega
 have a2:N* (1152921504606846976-LL-32000000000)<=P*1329227995784915872903807060280344576:=by
  have t0:0<=1152921504606846976-LL-32000000000:=oa
  have t1:(1152921504606846976-LL-32000000000)* (K*K)<=(1152921504606846976-LL-32000000000)* (1152921504606846976+LL+2170000000):=mL oa t0
  have t2:(1152921504606846976-LL-32000000000)* (1152921504606846976+LL+2170000000)=1329227995784915872903807060280344576-1152921504606846976*29830000000-LL*LL-LL*34170000000-32000000000*2170000000:=by grind
  have q:=av LL
  have t3:(1152921504606846976-LL-32000000000)* (K*K)<=1329227995784915872903807060280344576-1152921504606846976*29830000000:=oa
  have t4:=mL t3 (show 0<=P by omega)
  have t5:=mR p2 t0
  have f1:P* (K*K)* (1073741829*1073741829)* (1152921504606846976-LL-32000000000)=P* ((1152921504606846976-LL-32000000000)* (K*K))* (1073741829*1073741829):=by grind
  have f2:N* (1073741816*1073741816)* (1152921504606846976-LL-32000000000)=N* (1152921504606846976-LL-32000000000)* (1073741816*1073741816):=by grind
  rw[f1,f2]at t5
  omega
 have NL:0<=N*LL:=mN oa LL0
 have f3:N* (1152921504606846976-LL-32000000000)=1152921504606846976*N-N*LL-32000000000*N:=by grind
 have pl:=px LL LL0
 have b2:=bR (P:=N*LL+32000000000*N) (R:=1073741824*m) (a:=1152921504606846976* (P*R-N)) (b:=e) (by
  have:P*1152921504606846976<=P*R:=mL oa oa
  omega) (by
  have:P*R<=P* (1152921504606846976+LL):=mL oa oa
  have f:P* (1152921504606846976+LL)=P*1152921504606846976+P*LL:=by grind
  have f2:P*1152921504606846976*LL=1152921504606846976* (P*LL):=by grind
  have nl:N*LL<=N* (71000000*71000000):=mL oa oa
  omega) ei.1 ei.2
 have b4:=bR (P:=N*LL+9300000000000*N) (R:=d) (a:=1152921504606846976* (P*e0-N)) (b:=dd) (by
  have:P*1152912600000000000<=P*e0:=mL h0 oa
  omega) (by
  have:P*e0<=P*1152921515344265241:=mL h1 oa
  omega) di.1 di.2
 have KL:K*L* (1073741824*m)<=1076100000* (L* (1073741824*m)):=by
  have:=mR k5 (mN hL0 M0)
  have f:K*L* (1073741824*m)=K* (L* (1073741824*m)):=by grind
  omega
 have Lm0:0<=L*m:=mN hL0 hm0
 have Ld0:0<=L*d:=mN hL0 hd0
 have md0:0<=m*d:=mN hm0 hd0
 have LLm0:0<=LL*m:=mN LL0 hm0
 have LLd0:0<=LL*d:=mN LL0 hd0
 have f4:L* (1073741824*m)=1073741824* (L*m):=by grind
 have f5:LL* (1073741824*m)=1073741824* (LL*m):=by grind
 rw[f4]at KL
 rw[f5]at w
 have wb:1000* (W-R*e)<=3044286900000* (1073741824* (L*m))+2147483648000* (LL*m)/\-(3044286900000* (1073741824* (L*m))+2147483648000* (LL*m))<=1000* (W-R*e):=oa
 have sb:-(1631383944212135316015* (L*d)+7000* (L* (1073741824*m*d))+2147483648000* (1073741824*m*d))<=1000*S/\1000*S<=1631383944212135316015* (L*d)+7000* (L* (1073741824*m*d))+2147483648000* (1073741824*m*d):=by
  have:e0* (L*d)<=1152921515344265241* (L*d):=mR h1 Ld0
  omega
 have f6:1073741824*m*d=1073741824* (m*d):=by grind
 have f7:L* (1073741824* (m*d))=1073741824* (m* (L*d)):=by grind
 have f8:m* (L*d)<=2097152* (L*d):=mR hm Ld0
 rw[f6,f7]at sb
 have sb2:-(1647147000000000000000* (L*d)+2305843009213693952000* (m*d))<=1000*S/\1000*S<=1647147000000000000000* (L*d)+2305843009213693952000* (m*d):=oa
 obtain⟨T,hT⟩:∃T,T=3044286900000* (1073741824* (L*m))+2147483648000* (LL*m)+(1647147000000000000000* (L*d)+2305843009213693952000* (m*d)):=⟨_,rfl⟩
 have T0:0<=T:=oa
 have pT:=px T T0
 have b35:=bR (P:=P) (R:=T) (a:=P) (b:=1000* (W-R*e+S)) oa oa oa oa
 have id:N* (x-e-1073741824*dd)=(N*x-P*Y)+(P*R-N)*e+P* (W-R*e+S)+1073741824* ((P*e0-N)*dd):=by rw[y];grind
 have g1:1152921504606846976* (P*R-N)*e=1152921504606846976* ((P*R-N)*e):=by grind
 have g2:1152921504606846976* (P*e0-N)*dd=1152921504606846976* ((P*e0-N)*dd):=by grind
 have g3:P* (1000* (W-R*e+S))=1000* (P* (W-R*e+S)):=by grind
 have g4:P*1152921504606846976*T=1152921504606846976* (P*T):=by grind
 have g5:(N*LL+32000000000*N)* (1073741824*m)=N* (1073741824* (LL*m)+34359738368000000000*m):=by grind
 have g6:(N*LL+9300000000000*N)*d=N* (LL*d+9300000000000*d):=by grind
 rw[g1,g5]at b2
 rw[g2,g6]at b4
 rw[g3]at b35
 rw[g4]at pT
 have LLmb:LL*m<=71000000*71000000*2097152:=mM LLb hm hm0 da
 have tot:1152921504606846976000* (80000000*4294967400)+80000000*1000* (1073741824* (LL*m)+34359738368000000000*m)+80000001*T+80000000*1000*1073741824* (LL*d+9300000000000*d)<=80000000*1000*1152921504606846976* (1073741824*ep):=oa
 have tN:=mL tot (show 0<=N by omega)
 have g7:N* (1152921504606846976000* (80000000*4294967400)+80000000*1000* (1073741824* (LL*m)+34359738368000000000*m)+80000001*T+80000000*1000*1073741824* (LL*d+9300000000000*d))=1152921504606846976000*80000000* (N*4294967400)+80000000*1000* (N* (1073741824* (LL*m)+34359738368000000000*m))+80000001* (N*T)+80000000*1000*1073741824* (N* (LL*d+9300000000000*d)):=by grind
 have g8:N* (80000000*1000*1152921504606846976* (1073741824*ep))=80000000*1000*1152921504606846976* (N* (1073741824*ep)):=by grind
 rw[g7,g8]at tN
 constructor
 ·refine mC (a:=N) ?_ hN
  have:N*-(1073741824*ep)=-(N* (1073741824*ep)):=by grind
  omega
 ·refine mC (a:=N) ?_ hN
  omega
end Go.Proofs.YtbhahonkhiiilaaGreat
