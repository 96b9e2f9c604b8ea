/-
  Twelve squarings of a table: the bounds in numbers; the column that is taken.
-/
import Derived.Test.YtbhahonkhiiilaaGreatLaD
import Derived.Test.YtbhahonkhiiilaaGreatSkJ
import Derived.Test.YtbhahonkhiiilaaGreatPtA
set_option linter.unusedSimpArgs false
set_option linter.unusedVariables false
namespace Go.Proofs.YtbhahonkhiiilaaGreat.La
section
open Go.RowKit PM Dt
theorem jB {D L p b h G K L' p' b':Int} {S u:Nat->Int} (W:iD D L p b h G K L' p' b') (hL:379625063<=L) (hN:0<dt u u) (V:Dm D L p b S u/\Ey S):Dm D L' p' b' (kM S) u/\Ey (kM S):=by
 have t:=Gc V.1 oa hN
 have t2:379625063*379625063<=L*L:=jr oa hL oa hL
 obtain⟨s,X,h1,h2,h3,h4,h5,h6⟩:=K9 V.2 V.1.sy oa
 exact⟨Js W V.1 hN h1 h6 h2 h3 h4,h5⟩
theorem W0:iD 1152921504606846976 1073741800 6979321856 815400000000000000 5369134382 1994105158260796159576902902466326529 2475880189251228702907412481 715733410 17284559097 576689017101158504:=⟨⟨da,da,da,da,da,da,da⟩,da,da,da,da,da,da,da,da⟩
theorem W1:iD 1152921504606846976 715733410 17284559097 576689017101158504 7517893672 1661798223802217637999634306593743164 5572200882107726712010969754 858857388 33448154674 288458695542028318:=⟨⟨da,da,da,da,da,da,da⟩,da,da,da,da,da,da,da,da⟩
theorem W2:iD 1152921504606846976 858857388 33448154674 288458695542028318 5638420615 1412436418688515232743532536021104486 3869788534461178566570758234 1010486324 47455238112 72171804939813003:=⟨⟨da,da,da,da,da,da,da⟩,da,da,da,da,da,da,da,da⟩
theorem W3:iD 1152921504606846976 1010486324 47455238112 72171804939813003 4580658685 1334436768008748522786707675953237735 2795557729302068777830366062 1069550630 55006550417 4517891902696113:=⟨⟨da,da,da,da,da,da,da⟩,da,da,da,da,da,da,da,da⟩
theorem W4:iD 1152921504606846976 1069550630 55006550417 4517891902696113 4311863724 1329248409627488681444790265930798178 2495322309995630011299397055 1073725330 59533965594 17708333553206:=⟨⟨da,da,da,da,da,da,da⟩,da,da,da,da,da,da,da,da⟩
theorem W5:iD 1152921504606846976 1073725330 59533965594 17708333553206 4295033279 1329227998574464184194193478443988025 2475956145472666285779219341 1073741817 63829913525 4567028068:=⟨⟨da,da,da,da,da,da,da⟩,da,da,da,da,da,da,da,da⟩
theorem W6:iD 1152921504606846976 1073741817 63829913525 4567028068 4294967329 1329227998260804153129836646606071227 2475880110852562994470062777 1073741817 68124881361 4294970897:=⟨⟨da,da,da,da,da,da,da⟩,da,da,da,da,da,da,da,da⟩
theorem W7:iD 1152921504606846976 1073741817 68124881361 4294970897 4294967329 1329227998260805284202065961477816604 2475880110852562994470062777 1073741817 72419849214 4294971387:=⟨⟨da,da,da,da,da,da,da⟩,da,da,da,da,da,da,da,da⟩
theorem W8:iD 1152921504606846976 1073741817 72419849214 4294971387 4294967329 1329227998260806491472269626891946714 2475880110852562994470062777 1073741817 76714817099 4294971910:=⟨⟨da,da,da,da,da,da,da⟩,da,da,da,da,da,da,da,da⟩
theorem W9:iD 1152921504606846976 1073741817 76714817099 4294971910 4294967329 1329227998260807772529478828485007055 2475880110852562994470062777 1073741817 81009785016 4294972466:=⟨⟨da,da,da,da,da,da,da⟩,da,da,da,da,da,da,da,da⟩
theorem KX:iD 1152921504606846976 1073741817 81009785016 4294972466 4294967329 1329227998260809127373695215524769021 2475880110852562994470062777 1073741817 85304752965 4294973054:=⟨⟨da,da,da,da,da,da,da⟩,da,da,da,da,da,da,da,da⟩
theorem Ld:iD 1152921504606846976 1073741817 85304752965 4294973054 4294967329 1329227998260810556004920428689076719 2475880110852562994470062777 1073741817 89599720946 4294973673:=⟨⟨da,da,da,da,da,da,da⟩,da,da,da,da,da,da,da,da⟩
theorem Ig {S u:Nat->Int} (hN:0<dt u u) (V:Dm 1152921504606846976 1073741800 6979321856 815400000000000000 S u/\Ey S):Dm 1152921504606846976 1073741817 89599720946 4294973673 (je S 12) u/\Ey (je S 12):=by
 have V1:=jB W0 da hN V
 have V2:=jB W1 da hN V1
 have V3:=jB W2 da hN V2
 have V4:=jB W3 da hN V3
 have V5:=jB W4 da hN V4
 have V6:=jB W5 da hN V5
 have V7:=jB W6 da hN V6
 have V8:=jB W7 da hN V7
 have V9:=jB W8 da hN V8
 have V10:=jB W9 da hN V9
 have V11:=jB KX da hN V10
 have V12:=jB Ld da hN V11
 exact V12
theorem BL (S u:Nat->Int):Tn S u 0 0+Tn S u 1 1+Tn S u 2 2+Tn S u 3 3=dt u u* (S 0+S 5+S 10+S 15):=by
 simp only[Tn,dt,iK,En,Nat.zero_mul,Nat.zero_add,Nat.one_mul,Nat.reduceMul,Nat.reduceAdd]
 generalize u 0=a0;generalize u 1=a1;generalize u 2=a2;generalize u 3=a3
 grind
def ax (b:Nat):Nat->Int:=fun i=>if i=b then 1 else 0
theorem gX (v:Nat->Int) {b:Nat} (hb:b<4):dt v (ax b)=v b:=by
 rcases(show b=0\/b=1\/b=2\/b=3 by omega)with rfl|rfl|rfl|rfl<;>simp[dt,ax]
theorem Kz {b:Nat} (hb:b<4):dt (ax b) (ax b)=1:=by rw[gX _ hb];simp[ax]
theorem BC {S:Nat->Int} (sy:sK S) (u:Nat->Int) {b:Nat} (hb:b<4) (a:Nat):dt (d_ S b) (En u a)=iK S (En u a) b:=by
 have e:∀i,i<4->d_ S b i=S (b*4+i):=fun i hi=>by
  rw[mX sy hb hi]
  rcases(show i=0\/i=1\/i=2\/i=3 by omega)with rfl|rfl|rfl|rfl<;>simp[d_]
 rw[uZ e]
 rfl
theorem Ix (S u:Nat->Int) {b:Nat} (hb:b<4) (a:Nat):dt u u*iK S (En u a) b=Tn S u a 0*En u 0 b+Tn S u a 1*En u 1 b+Tn S u a 2*En u 2 b+Tn S u a 3*En u 3 b:=by
 have:=ml u (iK S (En u a)) (ax b)
 rw[gX _ hb,eR (ax b),eR (ax b),eR (ax b),eR (ax b),gX _ hb,gX _ hb,gX _ hb,gX _ hb]at this
 exact this
theorem J1 (u:Nat->Int) {b:Nat} (hb:b<4):dt u u=En u 0 b*En u 0 b+En u 1 b*En u 1 b+En u 2 b*En u 2 b+En u 3 b*En u 3 b:=by
 have:=ml u (ax b) (ax b)
 rw[Kz hb,eR (ax b),eR (ax b),eR (ax b),eR (ax b),gX _ hb,gX _ hb,gX _ hb,gX _ hb]at this
 omega
theorem yY (s:Nat->Int):∀n,n<=4->∀k,k<n->s (k*5)<=s (l9 s n*5)
 |0,_,k,hk=>oa
 | n+1,hn,k,hk=>by
   have ih:=yY s n oa
   unfold l9
   split
   ·rename_i h
    by_cases e:k=n
    ·subst e;exact iR _
    ·have:=ih k oa;omega
   ·rename_i h
    by_cases e:k=n
    ·subst e;omega
    ·exact ih k oa
theorem j1 (x:Int):(x.natAbs:Int)*x.natAbs=x*x:=Int.natAbs_mul_self
theorem Gw {S u:Nat->Int} {D L p b:Int} (hD:0<D) (hL:0<L) (hp:0<=p) (hb:0<=b) (hsm:100* (2*p+2*b)<=D) (hN:0<dt u u) (V:Dm D L p b S u) {B:Nat} (hB:B<4) (hmax:∀k,k<4->S (k*5)<=S (B*5)):
 0<dt (d_ S B) (d_ S B)/\NB 3 (fun j=>(D-3*p)*dt (d_ S B) (En u (j+1))) ((p+3*b)* (dt (d_ S B) (En u 0)).natAbs):=by
 have sy:=V.sy
 have l0:=V.l0
 have hr:=V.r
 have hBB:=V.B
 have hl:0<Tn S u 0 0:=by have:=Int.mul_pos hL hN;omega
 have cc:∀a,dt u u*dt (d_ S B) (En u a)=Tn S u a 0*En u 0 B+Tn S u a 1*En u 1 B+Tn S u a 2*En u 2 B+Tn S u a 3*En u 3 B:=fun a=>by rw[BC sy u hB,Ix S u hB]
 have hx:=J1 u hB
 have e5:S (B*5)=iK S (ax B) B:=by
  have:∀c,c<4->iK S (ax c) c=S (c*5):=fun c hc=>by
   rcases(show c=0\/c=1\/c=2\/c=3 by omega)with rfl|rfl|rfl|rfl<;>simp[iK,ax]
  exact(this B hB).symm
 have e6:dt u u*S (B*5)=En u 0 B*dt (d_ S B) (En u 0)+En u 1 B*dt (d_ S B) (En u 1)+En u 2 B*dt (d_ S B) (En u 2)+En u 3 B*dt (d_ S B) (En u 3):=by
  have:=ml u (iK S (ax B)) (ax B)
  rw[gX _ hB,<-e5]at this
  rw[this]
  have q:∀a,dt (iK S (ax B)) (En u a)=dt (d_ S B) (En u a):=fun a=>by rw[sS sy,eR,gX _ hB,BC sy u hB]
  rw[q,q,q,q,eR (ax B),eR (ax B),eR (ax B),eR (ax B),gX _ hB,gX _ hB,gX _ hB,gX _ hB]
  grind
 have tr:=BL S u
 have m0:=hmax 0 oa;have m1:=hmax 1 oa;have m2:=hmax 2 oa;have m3:=hmax 3 oa
 have n1:=hBB.at (i:=0) oa
 have n2:=hBB.at (i:=4) oa
 have n3:=hBB.at (i:=8) oa
 simp only[Nat.reduceDiv,Nat.reduceMod,Nat.reduceAdd,Nat.zero_mul,Nat.reduceMul]at n1 n2 n3 m0 m1 m2 m3
 have hxv:NB 3 (fun j=>En u (j+1) B) 0\/True:=.inr trivial
 have c0:=cc 0
 obtain⟨y0,hy0⟩:∃y0,dt (d_ S B) (En u 0)=y0:=⟨_,rfl⟩
 obtain⟨x0,hx0⟩:∃x0,En u 0 B=x0:=⟨_,rfl⟩
 obtain⟨N,hNN⟩:∃N,dt u u=N:=⟨_,rfl⟩
 obtain⟨l,hll⟩:∃l,Tn S u 0 0=l:=⟨_,rfl⟩
 rw[hll]at hr hBB hl l0 c0 tr n1 n2 n3
 rw[hNN]at hN l0 c0 e6 tr hx
 rw[hx0]at hx c0 e6
 rw[hy0]at c0 e6
 have sx:=eZ x0
 have s1:=eZ (En u 1 B);have s2:=eZ (En u 2 B);have s3:=eZ (En u 3 B)
 have hxx:sm 3 (fun j=>En u (j+1) B*En u (j+1) B)=N-x0*x0:=by simp only[sm,Nat.reduceAdd];omega
 have rx2:=cs 3 (fun j=>D*Tn S u 0 (j+1)) (fun j=>En u (j+1) B)
 have erx:sm 3 (fun j=>D*Tn S u 0 (j+1)*En u (j+1) B)=D* (N*y0-l*x0):=by
  rw[c0];simp only[sm,Nat.reduceAdd];grind
 rw[erx,hxx]at rx2
 have rx3:(D* (N*y0-l*x0))* (D* (N*y0-l*x0))<=(p*l)* (p*l)* (N-x0*x0):=iT rx2 (mR hr.2 oa)
 obtain⟨t,ht⟩:∃t,N*y0-l*x0=t:=⟨_,rfl⟩
 rw[ht]at rx3
 have hpl:0<=p*l:=hr.1
 have hbl:0<=b*l:=hBB.1
 have k1:-(p*l*N)<=D* (x0*t)/\D* (x0*t)<=p*l*N:=by
  have a1:(D*t)* (D*t)* (x0*x0)<=(p*l)* (p*l)* (N*N):=by
   have b1:(D*t)* (D*t)<=(p*l)* (p*l)*N:=by
    have:(p*l)* (p*l)* (N-x0*x0)<=(p*l)* (p*l)*N:=mL oa (eZ _)
    omega
   have b2:=jr (eZ (D*t)) b1 sx (show x0*x0<=N by omega)
   have e1:p*l* (p*l)*N*N=p*l* (p*l)* (N*N):=by grind
   omega
  have e1:(D* (x0*t))* (D* (x0*t))=(D*t)* (D*t)* (x0*x0):=by grind
  have e2:(p*l*N)* (p*l*N)=(p*l)* (p*l)* (N*N):=by grind
  have h0:0<=p*l*N:=mN hpl oa
  constructor
  ·have:=gF (x:=-(D* (x0*t))) h0 (by rw[Int.neg_mul_neg];omega)
   omega
  ·exact gF h0 oa
 have hX3:∀a:Int,0<=a->N-x0*x0<=a*a->NB 3 (fun j=>En u (j+1) B) a:=fun a ha h=>⟨ha,by rw[hxx];exact h⟩
 have k2:D* (N* (N*S (B*5)))<=D* (l* (x0*x0))+2* (p*l*N)+b*l*N:=by
  have c1:=cc 1;have c2:=cc 2;have c3:=cc 3
  rw[hNN]at c1 c2 c3
  have e1:N* (N*S (B*5))=x0* (N*y0)+En u 1 B* (N*dt (d_ S B) (En u 1))+En u 2 B* (N*dt (d_ S B) (En u 2))+En u 3 B* (N*dt (d_ S B) (En u 3)):=by rw[e6];grind
  have q1:=dV sy u 1 0;have q2:=dV sy u 2 0;have q3:=dV sy u 3 0
  rw[c1,c2,c3,q1,q2,q3,hx0]at e1
  have f1:=nD (n:=9) hBB (w:=fun i=>En u (i/3+1) B*En u (i % 3+1) B) (b:=N) ⟨oa,by
   have:sm 9 (fun i=>En u (i/3+1) B*En u (i % 3+1) B* (En u (i/3+1) B*En u (i % 3+1) B))=(N-x0*x0)* (N-x0*x0):=by
    rw[<-hxx];simp only[sm,Nat.reduceDiv,Nat.reduceMod,Nat.reduceAdd];grind
   rw[this]
   exact jr oa oa oa oa⟩
  have f2:sm 9 (fun i=>D*Tn S u (i/3+1) (i % 3+1)* (En u (i/3+1) B*En u (i % 3+1) B))=D* (N* (N*S (B*5))-x0* (N*y0)-x0*t):=by
   rw[e1,<-ht,c0];simp only[sm,Nat.reduceDiv,Nat.reduceMod,Nat.reduceAdd];grind
  rw[f2]at f1
  have e3:D* (N* (N*S (B*5))-x0* (N*y0)-x0*t)=D* (N* (N*S (B*5)))-D* (l* (x0*x0))-2* (D* (x0*t)):=by
   have:N*y0=l*x0+t:=oa
   rw[this];grind
  omega
 have k3:D* (N*l)-3* (b*l*N)<=4* (D* (N* (N*S (B*5)))):=by
  have f1:N* (S 0+S 5+S 10+S 15)<=4* (N*S (B*5)):=by
   have:N* (S 0+S 5+S 10+S 15)<=N* (4*S (B*5)):=mL oa oa
   have e:N* (4*S (B*5))=4* (N*S (B*5)):=by grind
   omega
  rw[<-tr]at f1
  have f2:D* (l+Tn S u 1 1+Tn S u 2 2+Tn S u 3 3)<=D* (4* (N*S (B*5))):=mL f1 oa
  have f3:D*l-3* (b*l)<=D* (4* (N*S (B*5))):=by
   have e:D* (l+Tn S u 1 1+Tn S u 2 2+Tn S u 3 3)=D*l+D*Tn S u 1 1+D*Tn S u 2 2+D*Tn S u 3 3:=by grind
   omega
  have f4:=mL f3 (show 0<=N by omega)
  have e1:N* (D*l-3* (b*l))=D* (N*l)-3* (b*l*N):=by grind
  have e2:N* (D* (4* (N*S (B*5))))=4* (D* (N* (N*S (B*5)))):=by grind
  omega
 have k4:N<=5* (x0*x0):=by
  have f1:(l*N)* (D-8*p-7*b)<=4* (D*l* (x0*x0)):=by
   have e1:(l*N)* (D-8*p-7*b)=D* (N*l)-8* (p*l*N)-7* (b*l*N):=by grind
   have e2:4* (D*l* (x0*x0))=4* (D* (l* (x0*x0))):=by grind
   omega
  have f2:(l*N)* (4*D)<=(l*N)* (5* (D-8*p-7*b)):=mL oa (mN oa oa)
  have e3:(l*N)* (5* (D-8*p-7*b))=5* ((l*N)* (D-8*p-7*b)):=by grind
  apply gi (show 0<4* (D*l)from by have:=Int.mul_pos hD hl;omega)
  have e4:4* (D*l)*N=(l*N)* (4*D):=by grind
  have e5':4* (D*l)* (5* (x0*x0))=5* (4* (D*l* (x0*x0))):=by grind
  omega
 have hx1:0<x0*x0:=oa
 obtain⟨A,hA⟩:∃A:Int,A=x0.natAbs:=⟨_,rfl⟩
 have hA2:A*A=x0*x0:=by rw[hA];exact j1 x0
 have hA0:0<A:=by
  have h0:0<=A:=oa
  rcases Int.lt_or_le 0 A with h|h
  ·exact h
  ·have:A=0:=oa
   rw[this]at hA2;omega
 obtain⟨Y,hY⟩:∃Y:Int,Y=y0.natAbs:=⟨_,rfl⟩
 have hY2:Y*Y=y0*y0:=by rw[hY];exact j1 y0
 have hxA:NB 3 (fun j=>En u (j+1) B) (3*A):=hX3 _ oa (by
  have:3*A* (3*A)=9* (A*A):=by grind
  omega)
 have k5:(D-3*p)* (l*A)<=D* (N*Y):=by
  have f0:=nD hr hxA
  rw[erx,ht]at f0
  have f1:-(p*l* (3*A))<=D*t/\D*t<=p*l* (3*A):=f0
  have e1:D* (N*y0)=D* (l*x0)+D*t:=by rw[<-ht];grind
  have eA:x0=A\/x0=-A:=oa
  have eY:y0=Y\/y0=-Y:=oa
  have g1:(D-3*p)* (l*A)=D* (l*A)-p*l* (3*A):=by grind
  have hY0:0<=D* (N*Y):=mN oa (mN oa oa)
  rcases eA with h|h<;>rcases eY with h'|h'<;>rw[h,h']at e1
  ·omega
  ·have e2:D* (N*-Y)=-(D* (N*Y)):=by grind
   omega
  ·have e2:D* (l*-A)=-(D* (l*A)):=by grind
   omega
  ·have e2:D* (l*-A)=-(D* (l*A)):=by grind
   have e3:D* (N*-Y)=-(D* (N*Y)):=by grind
   omega
 refine⟨?_,?_⟩
 ·--the column is not zero
  have f:=ml u (d_ S B) (d_ S B)
  rw[hNN,hy0]at f
  have hq:0<Y:=by
   rcases Int.lt_or_le 0 Y with h|h
   ·exact h
   ·have:Y=0:=oa
    rw[this,Int.mul_zero,Int.mul_zero]at k5
    have:0<(D-3*p)* (l*A):=Int.mul_pos oa (Int.mul_pos hl hA0)
    omega
  have g1:=Int.mul_pos hq hq
  have g2:=eZ (dt (d_ S B) (En u 1));have g3:=eZ (dt (d_ S B) (En u 2));have g4:=eZ (dt (d_ S B) (En u 3))
  have g5:0<N*dt (d_ S B) (d_ S B):=oa
  rcases Int.lt_or_le 0 (dt (d_ S B) (d_ S B))with h|h
  ·exact h
  ·have:=mL h (show 0<=N by omega)
   rw[Int.mul_zero]at this;omega
 ·have f1:NB 3 (fun j=>D*N*dt (d_ S B) (En u (j+1))) ((p+3*b)* (l*A)):=by
   have g1:=(hr.mul (c:=A) oa)
   have g2:=NB.app hBB hxA
   have g1':NB 3 (fun j=>x0* (D*Tn S u 0 (j+1))) (A* (p*l)):=by
    rcases(show x0=A\/x0=-A by omega)with h|h
    ·rw[h];exact g1
    ·rw[h];exact g1.neg.congr fun j _=>by grind
   refine((g1'.add g2).congr fun j hj=>?_).mono ?_
   ·have c:=cc (j+1)
    rw[hNN,hx0,dV sy u (j+1) 0]at c
    have e:D*N*dt (d_ S B) (En u (j+1))=D* (N*dt (d_ S B) (En u (j+1))):=by grind
    rw[e,c]
    have d1:∀k,k<3->(j*3+k)/3=j:=fun k hk=>oa
    have d2:∀k,k<3->(j*3+k) % 3=k:=fun k hk=>oa
    have d10:=d1 0 oa;have d20:=d2 0 oa
    rw[Nat.add_zero]at d10 d20
    simp only[sm,d10,d20,d1 0 oa,d1 1 oa,d1 2 oa,d2 0 oa,d2 1 oa,d2 2 oa,Nat.reduceAdd]
    grind
   ·have:(p+3*b)* (l*A)=A* (p*l)+b*l* (3*A):=by grind
    omega
  rw[hy0,<-hY]
  have hDN:0<D*N:=Int.mul_pos hD hN
  refine NB.cancel hDN ((f1.mul (c:=D-3*p) oa).congr (fun j _=>by grind)|>.mono ?_)
  have g1:=mL k5 (show 0<=p+3*b by omega)
  have g2:(D-3*p)* ((p+3*b)* (l*A))=(p+3*b)* ((D-3*p)* (l*A)):=by grind
  have g3:D*N* ((p+3*b)*Y)=(p+3*b)* (D* (N*Y)):=by grind
  omega
theorem GS (f:Nat->Int):nn f=dt f f:=rfl
theorem EA {q c d u:Nat->Int} {a b:Int} (h:∀i,i<4->a*q i=b*c i+d i):a*dt q u=b*dt c u+dt d u:=by
 have h0:=h 0 oa;have h1:=h 1 oa;have h2:=h 2 oa;have h3:=h 3 oa
 have x0:d 0=a*q 0-b*c 0:=oa
 have x1:d 1=a*q 1-b*c 1:=oa
 have x2:d 2=a*q 2-b*c 2:=oa
 have x3:d 3=a*q 3-b*c 3:=oa
 unfold dt;rw[x0,x1,x2,x3];grind
theorem Cd {c u:Nat->Int} {R P E C:Int} (hk:eX c=true) (hz:zQ c=false) (hN:0<dt u u) (hR:0<=R) (hNR:dt u u<=R*R) (hE:0<E) (hP:0<=P)
 (hv:NB 3 (fun j=>E*dt c (En u (j+1))) (P* (dt c (En u 0)).natAbs)) (hC:∀M:Int,35184372088832<=M->2147483648*P*R* (M+1)+2*E*R*M<=2*E*C*M):
 eX (df c)=true/\1073741822*1073741822<=nn (df c)/\nn (df c)<1073741826*1073741826/\NB 3 (fun j=>dt (df c) (En u (j+1))) C:=by
 obtain⟨_,h1,⟨M,Q,hM,hQ,hq1,hq2,hd⟩,h2,h3⟩:=eF hk hz
 refine⟨h1,h2,h3,?_⟩
 obtain⟨d,hd⟩:∃d:Nat->Int,∀i,i<4->2* (M*df c i)=2* (1073741824* (Q*c i))+d i/\-M<=d i/\d i<=M:=by
  have:=fun i=>Classical.propDecidable (i<4)
  have key:∀i,∃x,i<4->2* (M*df c i)=2* (1073741824* (Q*c i))+x/\-M<=x/\x<=M:=fun i=>by
   by_cases hi:i<4
   ·obtain⟨x,hx⟩:=hd i hi;exact⟨x,fun _=>hx⟩
   ·exact⟨0,fun h=>absurd h hi⟩
  exact Classical.skolem.1 key
 have lin:∀a,2*M*dt (df c) (En u a)=2147483648*Q*dt c (En u a)+dt d (En u a):=fun a=>EA fun i hi=>by
  have:=(hd i hi).1
  have e1:2*M*df c i=2* (M*df c i):=by grind
  have e2:2147483648*Q*c i=2* (1073741824* (Q*c i)):=by grind
  omega
 have hRM:0<=2*M*R:=mN oa hR
 have nd:NB 3 (fun j=>dt d (En u (j+1))) (2*M*R):=by
  refine⟨hRM,?_⟩
  have f:=ml u d d
  have g:dt d d<=4* (M*M):=by
   have q:∀i,i<4->d i*d i<=M*M:=fun i hi=>o8 (hd i hi).2.1 (hd i hi).2.2
   have q0:=q 0 oa;have q1:=q 1 oa;have q2:=q 2 oa;have q3:=q 3 oa
   unfold dt;omega
  have h0:=eZ (dt d (En u 0))
  have h4:dt u u*dt d d<=(R*R)* (4* (M*M)):=by
   refine jr oa hNR ?_ g
   have a0:=eZ (d 0);have a1:=eZ (d 1);have a2:=eZ (d 2);have a3:=eZ (d 3)
   unfold dt;omega
  have e:2*M*R* (2*M*R)=(R*R)* (4* (M*M)):=by grind
  rw[e]
  simp only[sm,Nat.reduceAdd]
  omega
 obtain⟨Y,hY⟩:∃Y:Int,Y=(dt c (En u 0)).natAbs:=⟨_,rfl⟩
 rw[<-hY]at hv
 have hY2:Y*Y=dt c (En u 0)*dt c (En u 0):=by rw[hY];exact j1 _
 have hY0:0<=Y:=oa
 have hQY:Q*Y<=R* (M+1):=by
  apply gF (mN hR oa)
  have f:=ml u c c
  have s1:=eZ (dt c (En u 1));have s2:=eZ (dt c (En u 2));have s3:=eZ (dt c (En u 3))
  have f1:Y*Y<=dt u u*dt c c:=oa
  have f2:Q*Q* (Y*Y)<=Q*Q* (dt u u*dt c c):=mL f1 (eZ Q)
  have f3:dt u u* (Q*Q*dt c c)<=(R*R)* ((M+1)* (M+1)):=jr oa hNR (mN (eZ Q) (by
   have a0:=eZ (c 0);have a1:=eZ (c 1);have a2:=eZ (c 2);have a3:=eZ (c 3)
   unfold dt;omega)) (by rw[<-GS];omega)
  have e1:Q*Y* (Q*Y)=Q*Q* (Y*Y):=by grind
  have e2:Q*Q* (dt u u*dt c c)=dt u u* (Q*Q*dt c c):=by grind
  have e3:R* (M+1)* (R* (M+1))=(R*R)* ((M+1)* (M+1)):=by grind
  omega
 have hME:0<2*M*E:=Int.mul_pos oa hE
 refine NB.cancel hME ((((hv.mul (c:=2147483648*Q) oa).add (nd.mul (c:=E) oa)).congr fun j hj=>?_).mono ?_)
 ·have:=lin (j+1)
  have e:2*M*E*dt (df c) (En u (j+1))=E* (2*M*dt (df c) (En u (j+1))):=by grind
  rw[e,this];grind
 ·have g:=hC M hM
  have g1:2147483648*P* (Q*Y)<=2147483648*P* (R* (M+1)):=mL hQY oa
  have e1:2147483648*Q* (P*Y)=2147483648*P* (Q*Y):=by grind
  have e2:2147483648*P* (R* (M+1))=2147483648*P*R* (M+1):=by grind
  have e3:E* (2*M*R)=2*E*R*M:=by grind
  have e4:2*M*E*C=2*E*C*M:=by grind
  omega
theorem EF {q u:Nat->Int} {C:Int} (h1:eX q=true) (h3:nn q<1073741826*1073741826) (h:NB 3 (fun j=>dt q (En u (j+1))) C):eX (sG q)=true/\nn (sG q)=nn q/\NB 3 (fun j=>dt (sG q) (En u (j+1))) C:=by
 unfold sG
 split
 ·have hw:∀i,i<4->mI q i=-q i:=fun i hi=>by
   have:=cK (x:=q) (X:=1073741826) oa oa hi
   unfold mI wrap64;omega
  have w0:=hw 0 oa;have w1:=hw 1 oa;have w2:=hw 2 oa;have w3:=hw 3 oa
  refine⟨(bN _).2 fun i hi=>(bE _).2 ?_,?_,h.neg.congr fun j hj=>?_⟩
  ·have:=cK (x:=q) (X:=1073741826) oa oa hi
   rw[hw i hi];omega
  ·unfold nn;rw[w0,w1,w2,w3,Int.neg_mul_neg,Int.neg_mul_neg,Int.neg_mul_neg,Int.neg_mul_neg]
  ·unfold dt;rw[w0,w1,w2,w3];grind
 ·exact⟨h1,rfl,h⟩
theorem Gh {S u:Nat->Int} (hN1:1073741820*1073741820<=nn u) (hN2:nn u<1073741829*1073741829) (V:Dm 1152921504606846976 1073741800 6979321856 815400000000000000 S u/\Ey S):
 eX (qB (je S 12))=true/\1073741822*1073741822<=nn (qB (je S 12))/\nn (qB (je S 12))<1073741826*1073741826/\NB 3 (fun j=>dt (qB (je S 12)) (En u (j+1))) 106242738349:=by
 rw[GS]at hN1 hN2
 have hN:0<dt u u:=oa
 obtain⟨V12,b12⟩:=Ig hN V
 have hB:=wg (je S 12) 4 (ns _)
 obtain⟨c1,c2⟩:=Gw da da da da da hN V12 hB (yY (je S 12) 4 (ns _))
 unfold qB
 generalize je S 12=T at *
 generalize l9 T 4=B at *
 have hc:∀i,i<4->-2147483648<=d_ T B i/\d_ T B i<=2147483648:=fun i hi=>by
  rcases(show i=0\/i=1\/i=2\/i=3 by omega)with rfl|rfl|rfl|rfl
  ·exact b12 B oa
  ·exact b12 (4+B) oa
  ·exact b12 (8+B) oa
  ·exact b12 (12+B) oa
 have hk:eX (d_ T B)=true:=(bN _).2 fun i hi=>(bE _).2 (by have:=hc i hi;omega)
 have hz:zQ (d_ T B)=false:=by
  cases h:zQ (d_ T B)with
  |false=>rfl
  | true=>
    unfold zQ at h
    rw[List.all_eq_true]at h
    have z:=fun i (hi:i<4)=>beq_iff_eq.1 (h i (List.mem_range.2 hi))
    unfold dt at c1
    rw[z 0 oa,z 1 oa,z 2 oa,z 3 oa]at c1
    omega
 obtain⟨u1,u2,u3,u4⟩:=Cd (R:=1073741829) (C:=106242738349) hk hz hN da oa da da c2 (fun M hM=>by omega)
 obtain⟨p1,p2,p3⟩:=EF u1 u3 u4
 exact⟨p1,oa,oa,p3⟩
def dy (k:Nat):Nat->Int:=fun i=>if i=k then 1073741824 else 0
def gS (u:Nat->Int):Nat->e_:=fun s=>⟨dy s,aC u (dy s),1⟩
theorem KY (f:Nat->Int):sm 3 f=f 0+f 1+f 2:=by simp[sm]
theorem KQ (v:Nat->Int) {a:Int} (ha:0<=a) (h:fW v v<=a*a):NB 3 v a:=⟨ha,by rw[KY];exact h⟩
theorem Bj {v:Nat->Int} {a:Int} (h:NB 3 v a):fW v v<=a*a:=by have:=h.2;rw[KY]at this;exact this
theorem Bm {u a:Nat->Int} (hN:0<=dt u u) (h:fW a a=1152921504606846976):NB 3 (gv u a) (dt u u*1073741824):=by
 refine KQ _ (mN hN da) ?_
 have e:fW (gv u a) (gv u a)=dt u u*dt u u*fW a a:=gz u a
 rw[e,h]
 have e:dt u u*1073741824* (dt u u*1073741824)=dt u u*dt u u*1152921504606846976:=by grind
 omega
theorem pA {k:Nat} (hk:k<2):fW (dy k) (dy k)=1152921504606846976:=by
 rcases(show k=0\/k=1 by omega)with rfl|rfl<;>rfl
structure AY (u b:Nat->Int) (k:Nat):Prop where
 kb:cx b=true
 db:lp b=true
 e:∃e:Nat->Int,(∀j,j<3->1152921504606846976*b j=gv u (dy k) j+e j)/\NB 3 e 998459313073815552
 b1:1073741813*1073741813<=fW b b
 b2:fW b b<=1073741837*1073741837
theorem FW {u:Nat->Int} (hI:∀i,i<4->bu (u i)) (hv:au u=true) {k:Nat} (hk:k<2):AY u (aC u (dy k)) k:=by
 obtain⟨ku,lo,hi⟩:=bm hI hv
 have hM:=oK hi
 have ka:cx (dy k)=true:=by rcases(show k=0\/k=1 by omega)with rfl|rfl<;>decide
 have e0:∀j,j<3->∃e,1152921504606846976*cN (bL u) (dy k) j=gv u (dy k) j+e/\-576460752303423488<=e/\e<=576460752303423488:=fun j hj=>by
  obtain⟨d,h1,h2,h3⟩:=fA u (3*j+k) oa
  obtain⟨e,h4,h5,h6⟩:=kI (bL u) (dy k) hj
  have c:∀M:Nat->Int,ap (tr M) (dy k) j=1073741824*tr M (3*j+k):=fun M=>by
   unfold ap dy
   rcases(show k=0\/k=1 by omega)with rfl|rfl<;>simp<;>omega
  have g:gv u (dy k) j=1073741824*tr (bD u) (3*j+k):=c (bD u)
  rw[c]at h4
  have z:e=0:=oa
  refine⟨1073741824*d,?_,oa,oa⟩
  rw[g];omega
 obtain⟨e,he⟩:∃e:Nat->Int,∀j,j<3->1152921504606846976*cN (bL u) (dy k) j=gv u (dy k) j+e j/\-576460752303423488<=e j/\e j<=576460752303423488:=by
  have key:∀j,∃x,j<3->1152921504606846976*cN (bL u) (dy k) j=gv u (dy k) j+x/\-576460752303423488<=x/\x<=576460752303423488:=fun j=>by
   by_cases hj:j<3
   ·obtain⟨x,hx⟩:=e0 j hj;exact⟨x,fun _=>hx⟩
   ·exact⟨0,fun h=>absurd h hj⟩
  exact Classical.skolem.1 key
 have eN:NB 3 e 998459313073815552:=NB.of (fun i hi=>(he i hi).2) oa oa
 have hg:=Bm (u:=u) (by have:nn u=dt u u:=rfl;omega) (pA hk)
 have gg:fW (gv u (dy k)) (gv u (dy k))=dt u u*dt u u*1152921504606846976:=by
  have:=gz u (dy k)
  rw[<-pA hk];exact this
 have e1:=fun j hj=>(he j hj).1
 have lo:1073741820*1073741820<=dt u u:=lo
 have hi:dt u u<1073741829*1073741829:=hi
 have b2:fW (cN (bL u) (dy k)) (cN (bL u) (dy k))<=1073741837*1073741837:=
  Bj (NB.cancel (c:=1152921504606846976) oa (((hg.add eN).congr fun j hj=>(e1 j hj).symm).mono oa))
 have b1:1073741813*1073741813<=fW (cN (bL u) (dy k)) (cN (bL u) (dy k)):=by
  apply Int.not_lt.1;intro hc
  have hb:NB 3 (cN (bL u) (dy k)) 1073741813:=KQ _ oa oa
  have h2:=Bj (((hb.mul (c:=1152921504606846976) oa).add eN.neg).congr (w:=gv u (dy k)) fun j hj=>by have:=e1 j hj;omega)
  rw[gg]at h2
  have:=jr oa lo oa lo
  omega
 have kb:cx (cN (bL u) (dy k))=true:=(bK _).2 fun i hi=>(bE _).2 (by
  have:=(KQ (a:=1073741837) _ da b2).at hi;omega)
 have eq:aC u (dy k)=cN (bL u) (dy k):=by unfold aC jt iV;rw[hv,hM,ka,kb];rfl
 rw[eq]
 refine⟨kb,?_,⟨e,e1,eN⟩,b1,b2⟩
 obtain⟨nE,n,hn0,n1,n2,_⟩:=lZ kb
 have b1:_<=cN (bL u) (dy k) 0*cN (bL u) (dy k) 0+cN (bL u) (dy k) 1*cN (bL u) (dy k) 1+cN (bL u) (dy k) 2*cN (bL u) (dy k) 2:=b1
 have b2:cN (bL u) (dy k) 0*cN (bL u) (dy k) 0+cN (bL u) (dy k) 1*cN (bL u) (dy k) 1+cN (bL u) (dy k) 2*cN (bL u) (dy k) 2<=_:=b2
 have h1:(1073741760:Int)<=n:=by
  apply Int.not_lt.1;intro hc
  have:=jr (show 0<=(n:Int)+1 by omega) (show(n:Int)+1<=1073741760 by omega) (show 0<=(n:Int)+1 by omega) (show(n:Int)+1<=1073741760 by omega)
  omega
 have h2:(n:Int)<=1073741888:=by
  apply Int.not_lt.1;intro hc
  have:=jr da (show 1073741888<=(n:Int) by omega) da (show 1073741888<=(n:Int) by omega)
  omega
 unfold lp;rw[nE,hn0,dT h1,dT h2];rfl
end
section
open Go.RowKit PM Dt
variable{u:Nat->Int}
theorem xD (h:∀k,k<2->AY u (aC u (dy k)) k):∀s,s<2->dX (gS u s)=true:=fun s hs=>by
 have d:lp (dy s)=true:=by rcases(show s=0\/s=1 by omega)with rfl|rfl<;>decide+kernel
 show dX ⟨dy s,aC u (dy s),1⟩=true
 unfold dX;rw[d,(h s hs).db];rfl
theorem IW (h:∀k,k<2->AY u (aC u (dy k)) k):∃X:Nat->Int,(∀j,j<16->4294967296*fU (fK (gS u) 2) j=1* (Kt (dy 0) (aC u (dy 0)) j+Kt (dy 1) (aC u (dy 1)) j)+2305843009213693952*vR j+X j)/\(∀j,j<16->-5368709120<=X j/\X j<=5368709120)/\Ey (fU (fK (gS u) 2))/\sK (fU (fK (gS u) 2)):=by
 have hE:∀j,j<16->∃x y,(1073741824*dE (gS u 0) (j/4) (j % 4)=Kt (dy 0) (aC u (dy 0)) j+x/\-1073741824<=x/\x<=1073741824)/\(1073741824*dE (gS u 1) (j/4) (j % 4)=Kt (dy 1) (aC u (dy 1)) j+y/\-1073741824<=y/\y<=1073741824):=fun j hj=>by
  obtain⟨x,hx⟩:=DW (xD h 0 oa) j hj
  obtain⟨y,hy⟩:=DW (xD h 1 oa) j hj
  exact⟨x,y,hx,hy⟩
 have hK:∀s,s<2->∀j,j<16->-(2147483900*1073741824)<=Kt (dy s) (aC u (dy s)) j/\Kt (dy s) (aC u (dy s)) j<=2147483900*1073741824:=fun s hs j hj=>by
  have:=(Et (e:=dy s) (b:=aC u (dy s)) (E:=1073741824) (B:=1073741837) oa oa (by rw[pA hs];decide) (h s hs).b2).at hj
  omega
 have hM:∀j,j<16->(dE (gS u 0) (j/4) (j % 4)+dE (gS u 1) (j/4) (j % 4)<=2*fK (gS u) 2 j/\2*fK (gS u) 2 j<=dE (gS u 0) (j/4) (j % 4)+dE (gS u 1) (j/4) (j % 4)+1)/\-2147484002<=fK (gS u) 2 j/\fK (gS u) 2 j<=2147484002:=fun j hj=>by
  obtain⟨x,y,⟨hx,_,_⟩,hy,_,_⟩:=hE j hj
  have k0:=hK 0 oa j hj
  have k1:=hK 1 oa j hj
  have e:fK (gS u) 2 j=dG (b_ (dE (gS u 0) (j/4) (j % 4)+dE (gS u 1) (j/4) (j % 4)) 2):=by
   have a:kP (gS u) (fun s=>dE s (j/4) (j % 4)) 2=dE (gS u 0) (j/4) (j % 4)+dE (gS u 1) (j/4) (j % 4):=by
    show 0+1*dE (gS u 0) (j/4) (j % 4)+1*dE (gS u 1) (j/4) (j % 4)=_;omega
   have b:lI (gS u) 2=2:=rfl
   unfold fK bG eM
   rw[a,b,if_neg oa,if_neg oa,Int.mul_one]
  rw[e,Ec (by unfold b_;omega)]
  unfold b_;omega
 have hH:=fun j (hj:j<16)=>I6 (m:=fK (gS u) 2) (j:=j) (by have:=hM j hj;omega)
 have hi:∀j,0<=vR j/\vR j<=1:=fun j=>by unfold vR;split<;>omega
 refine⟨fun j=>4294967296*fU (fK (gS u) 2) j-1* (Kt (dy 0) (aC u (dy 0)) j+Kt (dy 1) (aC u (dy 1)) j)-2305843009213693952*vR j,fun j hj=>by dsimp only;omega,fun j hj=>?_,fun j hj=>?_,xF fun i k hi hk=>?_⟩
 ·obtain⟨x,y,hx,hy⟩:=hE j hj
  have a:=hM j hj
  have b:=hH j hj
  have c:=hi j
  dsimp only
  omega
 ·have a:=hM j hj
  have b:=hH j hj
  have c:=hi j
  omega
 ·rw[xK _ i k hk,xK _ k i hi,sn _ _ i k hk,sn _ _ k i hi]
  have:kP (gS u) (fun s=>dE s i k) 2=kP (gS u) (fun s=>dE s k i) 2:=by congr 1;funext s;exact Aj s i k
  rw[this]
  by_cases e:i=k
  ·rw[if_pos e,if_pos e.symm]
  ·rw[if_neg e,if_neg (Ne.symm e)]
theorem KA (a b:Nat->Int):sm 9 (fun i=>(a (i/3)*a (i % 3)+b (i/3)*b (i % 3))* (a (i/3)*a (i % 3)+b (i/3)*b (i % 3)))=fW a a*fW a a+fW b b*fW b b+2* (fW a b*fW a b):=by
 simp only[sm,fW,Nat.reduceDiv,Nat.reduceMod];grind
theorem Bf {b b':Nat->Int} (hi:dt u u<1073741829*1073741829) (h:AY u b 0) (h':AY u b' 1):-2000000000<=fW b b'/\fW b b'<=2000000000:=by
 obtain⟨e,e1,e2⟩:=h.e
 obtain⟨e',f1,f2⟩:=h'.e
 have N0:=H4 u
 have g:=Bm (u:=u) N0 (pA (k:=0) oa)
 have g':=Bm (u:=u) N0 (pA (k:=1) oa)
 have d1:=nD g f2
 have d2:=nD e2 g'
 have d3:=nD e2 f2
 rw[KY]at d1 d2 d3
 have o:fW (gv u (dy 0)) (gv u (dy 1))=0:=by simp only[fW,Bx,BF,C6,dy];simp;grind
 have key:1152921504606846976*1152921504606846976*fW b b'=fW (gv u (dy 0)) (gv u (dy 1))+(gv u (dy 0) 0*e' 0+gv u (dy 0) 1*e' 1+gv u (dy 0) 2*e' 2)+(e 0*gv u (dy 1) 0+e 1*gv u (dy 1) 1+e 2*gv u (dy 1) 2)+(e 0*e' 0+e 1*e' 1+e 2*e' 2):=by
  have x0:=e1 0 oa;have x1:=e1 1 oa;have x2:=e1 2 oa
  have y0:=f1 0 oa;have y1:=f1 1 oa;have y2:=f1 2 oa
  have z:1152921504606846976*1152921504606846976*fW b b'=(1152921504606846976*b 0)* (1152921504606846976*b' 0)+(1152921504606846976*b 1)* (1152921504606846976*b' 1)+(1152921504606846976*b 2)* (1152921504606846976*b' 2):=by unfold fW;grind
  rw[z,x0,x1,x2,y0,y1,y2];unfold fW;grind
 rw[o]at key
 generalize dt u u=N at *
 omega
set_option maxRecDepth 100000 in
theorem H_ (lo:1073741820*1073741820<=dt u u) (hi:dt u u<1073741829*1073741829) (h:∀k,k<2->AY u (aC u (dy k)) k):
 Dm 1152921504606846976 1073741800 6979321856 815400000000000000 (fU (fK (gS u) 2)) u/\Ey (fU (fK (gS u) 2)):=by
 obtain⟨X,hX,hXb,hbnd,hsy⟩:=IW h
 refine⟨?_,hbnd⟩
 have dd:=Bf hi (h 0 oa) (h 1 oa)
 obtain⟨e,he,eN⟩:=(h 0 oa).e
 obtain⟨f,hf,fN⟩:=(h 1 oa).e
 have ab1:=(h 0 oa).b1
 have ab2:=(h 0 oa).b2
 have bb1:=(h 1 oa).b1
 have bb2:=(h 1 oa).b2
 generalize aC u (dy 0)=a at *
 generalize aC u (dy 1)=b at *
 obtain⟨Y,hY⟩:∃Y:Nat->Nat->Int,Y=fun i k=>-Kt e a (i*4+k)+(-Kt f b (i*4+k)+Tn X u i k):=⟨_,rfl⟩
 have hT:∀i k,i<4->k<4->4294967296*Tn (fU (fK (gS u) 2)) u i k=1152921504606846976* (Kt a a (i*4+k)+Kt b b (i*4+k))+2305843009213693952* (if i=k then dt u u else 0)+Y i k:=fun i k hi' hk'=>by
  have t:=xV hX u i k
  have s:Tn (fun j=>Kt (dy 0) a j+Kt (dy 1) b j) u i k=Tn (Kt (dy 0) a) u i k+Tn (Kt (dy 1) b) u i k:=by
   have:=xV (S:=fun j=>Kt (dy 0) a j+Kt (dy 1) b j) (A:=Kt (dy 0) a) (B:=Kt (dy 1) b) (X:=fun _=>0) (c:=1) (a:=1) (b:=1) (fun j _=>by omega) u i k
   have z:Tn (fun _=>0) u i k=0:=by simp[Tn,dt,iK]
   omega
  rw[s,yP _ _ _ hi' hk',yP _ _ _ hi' hk',Do he _ oa,Do hf _ oa,KV u hi' hk']at t
  rw[t,hY];dsimp only;omega
 have hYn:NB 16 (fun j=>Y (j/4) (j % 4)) (2* (998459313073815552*1073741837)+(2* (998459313073815552*1073741837)+4*5368709120*dt u u)):=by
  refine(((Et da da (Bj eN) ab2).neg.add ((Et da da (Bj fN) bb2).neg.add (uH (u:=u) (c:=5368709120) oa hXb))).congr fun j hj=>?_)
  rw[hY];dsimp only
  rw[show j/4*4+j % 4=j by omega]
 obtain⟨Y0,_,YB,Ya,_⟩:=NB.sub3 hYn
 generalize hNN:dt u u=N at *
 have t00:=hT 0 0 oa oa
 rw[if_pos rfl]at t00
 have k00:Kt a a (0*4+0)=fW a a/\Kt b b (0*4+0)=fW b b:=⟨rfl,rfl⟩
 rw[k00.1,k00.2]at t00
 have hl:1073741800*N<=Tn (fU (fK (gS u) 2)) u 0 0:=oa
 refine⟨hsy,by rw[hNN];exact hl,?_,?_⟩
 ·refine NB.cancel (c:=4294967296) da (((Y0.mul (c:=1152921504606846976) oa).congr fun j hj=>?_).mono oa)
  have t:=hT 0 (j+1) oa oa
  rw[if_neg oa]at t
  have z:Kt a a (0*4+(j+1))=0/\Kt b b (0*4+(j+1))=0:=by
   constructor<;>(rcases(show j=0\/j=1\/j=2 by omega)with rfl|rfl|rfl<;>simp only[Kt,Nat.reduceAdd,Nat.reduceMul]<;>grind)
  rw[z.1,z.2]at t
  omega
 ·have g1:NB 9 (fun j=>a (j/3)*a (j % 3)+b (j/3)*b (j % 3)) 1630477267647604518:=by
   refine⟨da,?_⟩
   rw[KA]
   have p0:=jr (show 0<=fW a a by omega) ab2 (show 0<=fW a a by omega) ab2
   have p1:=jr (show 0<=fW b b by omega) bb2 (show 0<=fW b b by omega) bb2
   have p2:=o8 dd.1 dd.2
   omega
  have g2:NB 9 (fun j=>(if j/3=j % 3 then 2*N-fW a a-fW b b else 0)) (3*80000000000):=by
   refine NB.of (c:=80000000000) (fun j hj=>?_) da da
   split<;>omega
  refine NB.cancel (c:=4294967296) da (((((g1.mul (c:=2658455991569831745807614120560689152) da).add (g2.mul (c:=1329227995784915872903807060280344576) da)).add (YB.mul (c:=1152921504606846976) oa)).congr fun j hj=>?_).mono oa)
  have t:=hT (j/3+1) (j % 3+1) oa oa
  have z:∀c:Nat->Int,Kt c c ((j/3+1)*4+(j % 3+1))=2* (c (j/3)*c (j % 3))-(if j/3=j % 3 then fW c c else 0):=fun c=>by
   rcases(show j=0\/j=1\/j=2\/j=3\/j=4\/j=5\/j=6\/j=7\/j=8 by omega)with rfl|rfl|rfl|rfl|rfl|rfl|rfl|rfl|rfl<;>simp[Kt]<;>grind
  rw[z a,z b]at t
  have e1:4294967296* (1152921504606846976*Tn (fU (fK (gS u) 2)) u (j/3+1) (j % 3+1))=1152921504606846976* (4294967296*Tn (fU (fK (gS u) 2)) u (j/3+1) (j % 3+1)):=by grind
  rw[e1,t]
  by_cases hjj:j/3=j % 3
  ·rw[if_pos hjj,if_pos hjj,if_pos hjj,if_pos oa];grind
  ·rw[if_neg hjj,if_neg hjj,if_neg hjj,if_neg oa];grind
theorem og (hI:∀i,i<4->bu (u i)) (hv:au u=true):DV (gS u) 2=0/\(∀i,i<4->bu (s7 (gS u) 2 i))/\au (s7 (gS u) 2)=true/\vv (fun i=>am (s7 (gS u) 2) u (i+1))<=101*101:=by
 obtain⟨_,lo,hi⟩:=bm hI hv
 have h:=fun k (hk:k<2)=>FW hI hv hk
 have vS:i5 (gS u) 2=true:=by
  unfold i5
  exact Bool.and_eq_true_iff.2 ⟨rfl,Bool.and_eq_true_iff.2 ⟨rfl,List.all_eq_true.2 fun k hk=>xD h k (List.mem_range.1 hk)⟩⟩
 have sp:536870912<=oO (gS u) 2 2:=by
  have:oO (gS u) 2 2=1073741824:=by
   have:oO (gS u) 2 2=mx (mx 0 (gW (dM (dy 0) (dy 1)))) (gW (dM (dy 1) (dy 0))):=by simp[oO,r6,gS]
   rw[this];decide+kernel
  omega
 have e:s7 (gS u) 2=qB (je (fU (fK (gS u) 2)) 12)/\DV (gS u) 2=0:=by
  unfold s7 DV D_
  rw[vS,dT sp,if_pos rfl,if_pos sp]
  exact⟨rfl,rfl⟩
 obtain⟨p1,p2,p3,p4⟩:=Gh lo hi (H_ lo hi h)
 rw[e.1]
 generalize qB (je (fU (fK (gS u) 2)) 12)=p at *
 have pI:∀i,i<4->bu (p i):=fun i hi=>by have:=iB p1 hi;exact⟨oa,oa⟩
 have pv:au p=true:=vk p1 oa oa
 refine⟨e.2,pI,pv,?_⟩
 obtain⟨_,s,hs,r,hr⟩:=dJ pI pv hI hv
 have n1:NB 3 (fun j=>s*eD p u (j+1)) 106242738349:=by
  have q:NB 3 (fun j=>eD p u (j+1)) 106242738349:=p4.neg.congr fun j hj=>by
   rcases(show j=0\/j=1\/j=2 by omega)with rfl|rfl|rfl<;>simp only[dt,En,eD,pe,cj]<;>grind
  rcases hs with rfl|rfl
  ·exact q.congr fun j _=>oa
  ·exact q.neg.congr fun j _=>oa
 have n2:NB 3 (fun j=>r (j+1)) 929887698:=NB.of (fun i hi=>(hr (i+1) oa).1) da da
 have n3:=NB.cancel (c:=1073741824) (a:=101) (v:=fun i=>am p u (i+1)) da (((n1.add n2).congr fun j hj=>by have:=(hr (j+1) oa).2;omega).mono da)
 have:=Bj n3
 exact this
end
end Go.Proofs.YtbhahonkhiiilaaGreat.La
