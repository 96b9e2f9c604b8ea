/-
  A turn of an attitude, and a direction that is seen from it: bounds. No program in sight.
-/
import Derived.Test.YtbhahonkhiiilaaGreatBdD
set_option linter.unusedSimpArgs false
set_option linter.unusedVariables false
namespace Go.Proofs.YtbhahonkhiiilaaGreat
section
open Go.RowKit PM Dt
theorem vo {Q T r eta v:Nat->Int} {N P:Int} (hN:35184372088832<=N) (hP:0<P) (hNP:P*1073741818<=N)
 (l1:1073741820*1073741820<=nn Q) (u1:nn Q<1073741829*1073741829) (l2:1073741820*1073741820<=nn T) (u2:nn T<1073741829*1073741829) (hv:vv v<=1073741828*1073741828)
 (he:∀j,j<4->-(1152921504606846976*P+1073741824*N)<=eta j/\eta j<=1152921504606846976*P+1073741824*N)
 (hE:∀i,i<4->2147483648*N*T i=2147483648*P*pe Q r i+eta i):
 N*N* (1073741816*1073741816)<=P*P*nn r* (1073741829*1073741829)/\P*P*nn r* (1073741820*1073741820)<=N*N* (1073741832*1073741832)/\
  ∀i,i<3->-(N*N*4611686076409446651)<=N*N*es T v i-P*P*es r (es Q v) i/\N*N*es T v i-P*P*es r (es Q v) i<=N*N*4611686076409446651:=by
 have hF:1152921504606846976*P+1073741824*N<=N*2147483655:=oa
 have hF0:0<=1152921504606846976*P+1073741824*N:=oa
 have hn:nn eta<=(N*4294967310)* (N*4294967310):=iT (gH he) (mM oa oa oa oa)
 have nr:=aT r
 have nQ:=aT Q
 have nT:=aT T
 have hNN:0<=N*N:=av N
 have hPP:0<=P*P:=av P
 have hPR:0<=P*P*nn r:=mN hPP nr
 have eA:nn (sc (2147483648*N) T)=4611686018427387904* (N*N)*nn T:=by rw[c_];grind
 have eB:nn (sc (2147483648*P) (pe Q r))=4611686018427387904* (P*P*nn r*nn Q):=by rw[c_,dR];grind
 have hA:nn (sc (2147483648*N) T)<=(N*2305843019951112192)* (N*2305843019951112192):=by
  rw[eA]
  have a:=mL (show nn T<=1073741829*1073741829 by omega) (show 0<=4611686018427387904* (N*N) by omega)
  have e:(N*2305843019951112192)* (N*2305843019951112192)=4611686018427387904* (N*N)* (1073741829*1073741829):=by grind
  omega
 have hn1:nn (sc (-1) eta)<=(N*4294967310)* (N*4294967310):=by rw[c_];omega
 have hB:nn (sc (2147483648*P) (pe Q r))<=(N*2305843024246079502)* (N*2305843024246079502):=by
  have t:=jX (x:=sc (2147483648*N) T) (y:=sc (-1) eta) (z:=sc (2147483648*P) (pe Q r)) oa oa hA hn1 (fun i hi=>by
   have:=hE i hi
   show 2147483648*P*pe Q r i=2147483648*N*T i+-1*eta i
   omega)
  have e:N*2305843019951112192+N*4294967310=N*2305843024246079502:=oa
  rw[e]at t
  exact t
 have up:P*P*nn r* (1073741820*1073741820)<=N*N* (1073741832*1073741832):=by
  rw[eB]at hB
  have a:=mL l1 hPR
  have b:(N*2305843024246079502)* (N*2305843024246079502)<=4611686018427387904* (N*N* (1073741832*1073741832)):=by
   have e:(N*2305843024246079502)* (N*2305843024246079502)=N*N* (2305843024246079502*2305843024246079502):=by grind
   rw[e];omega
  omega
 refine⟨?_,up,fun i hi=>?_⟩
 ·apply bC;intro hc
  have h1:P*P*nn r*nn Q<=N*N* (1073741816*1073741816):=by
   have:=mL (show nn Q<=1073741829*1073741829 by omega) hPR
   omega
  have t:=jX (x:=sc (2147483648*P) (pe Q r)) (y:=eta) (z:=sc (2147483648*N) T) (X:=N*2305842992033824768) (Y:=N*4294967310) oa oa (by
   rw[eB]
   have e:(N*2305842992033824768)* (N*2305842992033824768)=4611686018427387904* (N*N* (1073741816*1073741816)):=by grind
   omega) hn (fun i hi=>hE i hi)
  have e:N*2305842992033824768+N*4294967310=N*2305842996328792078:=oa
  rw[e,eA]at t
  have a:=mL l2 (show 0<=4611686018427387904* (N*N) by omega)
  have e2:(N*2305842996328792078)* (N*2305842996328792078)=N*N* (2305842996328792078*2305842996328792078):=by grind
  rw[e2]at t
  have:0<N*N:=Int.mul_pos oa oa
  omega
 ·have d:=Fn (A:=sc (2147483648*N) T) (B:=sc (2147483648*P) (pe Q r)) (n:=eta) (fun j hj=>hE j hj) v hi
  rw[GO _ T v hi,GO _ (pe Q r) v hi,JA Q r v hi]at d
  have hvn:=aT (qv v)
  rw[qP]at hvn
  have b1:=cK (x:=pe (pe (cj (sc (2147483648*N) T)) (qv v)) eta) (X:=N*2305843019951112192*1073741828* (N*4294967310)) (mN oa oa) (by
   rw[dR,dR,i_,qP]
   have x:=mM (mM hA hv hvn (av _)) hn (aT eta) (mN (av _) da)
   have e:(N*2305843019951112192)* (N*2305843019951112192)* (1073741828*1073741828)* ((N*4294967310)* (N*4294967310))=(N*2305843019951112192*1073741828* (N*4294967310))* (N*2305843019951112192*1073741828* (N*4294967310)):=by grind
   rw[<-e];exact x) (i:=i+1) oa
  have b2:=cK (x:=pe (pe (cj eta) (qv v)) (sc (2147483648*P) (pe Q r))) (X:=N*2305843024246079502*1073741828* (N*4294967310)) (mN oa oa) (by
   rw[dR,dR,i_,qP]
   have x:=mM (mM hn hv hvn (av _)) hB (aT _) (mN (av _) da)
   have e:(N*4294967310)* (N*4294967310)* (1073741828*1073741828)* ((N*2305843024246079502)* (N*2305843024246079502))=(N*2305843024246079502*1073741828* (N*4294967310))* (N*2305843024246079502*1073741828* (N*4294967310)):=by grind
   rw[<-e];exact x) (i:=i+1) oa
  have e1:N*2305843019951112192*1073741828* (N*4294967310)=N*N* (2305843019951112192*1073741828*4294967310):=by grind
  have e2:N*2305843024246079502*1073741828* (N*4294967310)=N*N* (2305843024246079502*1073741828*4294967310):=by grind
  rw[e1]at b1
  rw[e2]at b2
  have e3:2147483648*N* (2147483648*N)*es T v i=4611686018427387904* (N*N*es T v i):=by grind
  have e4:2147483648*P* (2147483648*P)*es r (es Q v) i=4611686018427387904* (P*P*es r (es Q v) i):=by grind
  rw[e3,e4]at d
  omega
theorem BX {E M u v g:Nat->Int} {V:Int} (h0:0<=V) (hM:∀j,j<9->∃d,1073741824*M j=E j+d/\-536870912<=d/\d<=536870912)
 (hg:∀i,i<3->∃e,1073741824*g i=ap M v i+e/\-536870912<=e/\e<=536870912) (hn0:0<=nn u) (hn:nn u<1073741829*1073741829)
 (hF:vv (ap E v)=nn u*nn u*vv v) (hv:vv v<=V*V) {i:Nat} (hi:i<3):-(9*V+8)<=8*g i/\8*g i<=9*V+8:=by
 have b:=fun j (hj:j<3)=>bY h0 hv hj
 have hFi:-(nn u*V)<=ap E v i/\ap E v i<=nn u*V:=by
  refine bY (v:=ap E v) (mN hn0 h0) ?_ hi
  rw[hF]
  have:=mL hv (mN hn0 hn0)
  have e:nn u*nn u* (V*V)=nn u*V* (nn u*V):=by grind
  omega
 have hnV:nn u*V<=1152921515344265241*V:=mR oa h0
 obtain⟨d0,m0,l0,u0⟩:=hM (3*i) oa
 obtain⟨d1,m1,l1,u1⟩:=hM (3*i+1) oa
 obtain⟨d2,m2,l2,u2⟩:=hM (3*i+2) oa
 obtain⟨e,hgi,le,ue⟩:=hg i hi
 have p0:=bR (P:=536870912) (R:=V) l0 u0 (b 0 oa).1 (b 0 oa).2
 have p1:=bR (P:=536870912) (R:=V) l1 u1 (b 1 oa).1 (b 1 oa).2
 have p2:=bR (P:=536870912) (R:=V) l2 u2 (b 2 oa).1 (b 2 oa).2
 have key:1073741824*ap M v i=ap E v i+(d0*v 0+d1*v 1+d2*v 2):=by
  unfold ap
  have a0:1073741824* (M (3*i)*v 0)=(E (3*i)+d0)*v 0:=by rw[<-m0];grind
  have a1:1073741824* (M (3*i+1)*v 1)=(E (3*i+1)+d1)*v 1:=by rw[<-m1];grind
  have a2:1073741824* (M (3*i+2)*v 2)=(E (3*i+2)+d2)*v 2:=by rw[<-m2];grind
  grind
 generalize d0*v 0=D0 at *
 generalize d1*v 1=D1 at *
 generalize d2*v 2=D2 at *
 generalize nn u*V=NV at *
 generalize ap M v i=X at *
 generalize ap E v i=Y at *
 generalize g i=G at *
 have hh:1152921504606846976*G=Y+(D0+D1+D2)+1073741824*e:=oa
 omega
theorem gM (Q:Nat->Int) {v w:Nat->Int} (h:∀i,i<3->v i=w i):aC Q v=aC Q w:=by
 have hx:∀g,cN g v=cN g w:=fun g=>by
  funext i
  unfold cN d3
  rw[h 0 oa,h 1 oa,h 2 oa]
 have ho:cx v=cx w:=by unfold cx;rw[h 0 oa,h 1 oa,h 2 oa]
 unfold aC jt
 rw[hx,ho]
def R0 (X:cG):Prop:=∀i,i<4->X.h i=gE X i
theorem EU (X:cG) {h:Nat->Int} (e:∀i,i<4->h i=gE X i) {i:Nat} (hi:i<3):cZ h i=aC X.Q X.T i:=by
 have:=lH (aC X.Q X.T) X.f hi
 unfold cZ at this|-
 rw[e i oa,e 3 oa]
 exact this
theorem p5 {X:cG} {S:dw} (k:RI X S) {sun:Nat->Int} (hs:ce (aF X sun)=true) (hh:∀i,i<4->(d7 X S sun).h i=gE X i):
 R0 (d7 X S sun)/\(d7 X S sun).Q=X.Q/\(∀i,i<3->aX (d7 X S sun) i=0)/\∀i,i<3->zn X (d7 X S sun).h i=0:=by
 have k':=k.tick hs
 have hS:=k'.b.s
 rw[Ad k hs]at hS
 obtain⟨_,hm⟩:=eU k.b.q k.b.v k.b.t hS
 have hl:∀i,i<3->iH X.Q X.T (d7 X S sun).h i=0:=fun i hi=>by
  rw[(hm i hi).2,EU X hh hi];omega
 have hQ:(d7 X S sun).Q=X.Q:=by
  rw[Hm k hs];unfold bJ;rw[if_pos (p_ hl)]
 have hb:aC (d7 X S sun).Q (d7 X S sun).T=aC X.Q X.T:=by rw[hQ];exact gM _ (ID k hs)
 have ht:gE (d7 X S sun)=gE X:=by unfold gE;rw[hb,Ad k hs]
 refine⟨fun i hi=>by rw[ht];exact hh i hi,hQ,fun i hi=>?_,hl⟩
 show iH (d7 X S sun).Q (d7 X S sun).T (d7 X S sun).h i=0
 unfold iH
 rw[hb]
 exact hl i hi
theorem lG {X:cG} {S:dw} (k:RI X S) {sun:Nat->Int} (hs:ce (aF X sun)=true) (r:R0 X):∀i,i<4->(d7 X S sun).h i=gE X i:=fun i hi=>by
 rw[zE k hs]
 split
 ·exact r i hi
 ·have hP:=jm k i
  have e:=r i hi
  have hf:=qj (h:=X.h i) (by rw[e];omega)
  rcases jc (h:=X.h i) (P:=gE X i) (by rw[e];omega) hP with⟨_,_,c⟩|⟨a,_⟩|⟨a,_⟩
  ·exact c
  ·omega
  ·omega
theorem Lg {X:cG} {S:dw} (k:RI X S) {sun:Nat->Int} (hs:ce (aF X sun)=true) {B:Int} (hB:3145728<=B/\B<=16777216) (h:∀i,i<4->-B<=X.h i/\X.h i<=B):
 ∀i,i<4->-(B-1048576)<=(d7 X S sun).h i/\(d7 X S sun).h i<=B-1048576:=fun i hi=>by
 rw[zE k hs]
 split
 ·rename_i e;rw[k.z i hi e];omega
 ·have:=wO (h:=X.h i) (P:=gE X i) (B:=B) oa (h i hi) (jm k i)
  omega
def PB (E:Int) (X:cG):Prop:=∀i,i<4->(-2097152<=X.h i/\X.h i<=2097152)/\-E<=X.h i-gE X i/\X.h i-gE X i<=E
theorem Lk {X:cG} {S:dw} (k:RI X S) {sun:Nat->Int} (hs:ce (aF X sun)=true) {E:Int} (hE:1046528<=E) (h:PB E X):PB (E-830527) (d7 X S sun):=by
 have k':=k.tick hs
 have step:∀i,i<4->(-2097152<=(d7 X S sun).h i/\(d7 X S sun).h i<=2097152)/\-(E-1046528)<=(d7 X S sun).h i-gE X i/\(d7 X S sun).h i-gE X i<=E-1046528:=fun i hi=>by
  rw[zE k hs]
  split
  ·rename_i e
   have z:=k.z i hi e
   have t:gE X i=0:=fy hi e
   rw[z,t];omega
  ·obtain⟨_,b,c,d⟩:=oW (h i hi).1 (jm k i) (h i hi).2
   exact⟨⟨c,d⟩,oa,oa⟩
 have hS:=k'.b.s
 rw[Ad k hs]at hS
 obtain⟨_,hm⟩:=eU k.b.q k.b.v k.b.t hS
 have hl:∀i,i<3->-5242880<=iH X.Q X.T (d7 X S sun).h i/\iH X.Q X.T (d7 X S sun).h i<=5242880:=fun i hi=>by
  have a:=hm i hi
  have b:=(step i oa).1
  have c:=(step 3 oa).1
  have e:cZ (d7 X S sun).h i=(d7 X S sun).h i+(d7 X S sun).h 3:=rfl
  omega
 have hb:∀i,i<3->-108000<=aC (d7 X S sun).Q (d7 X S sun).T i-aC X.Q X.T i/\aC (d7 X S sun).Q (d7 X S sun).T i-aC X.Q X.T i<=108000:=fun i hi=>by
  rw[gM _ (ID k hs),Hm k hs]
  exact q9 k.b.q k.b.v k.b.t hl hi
 have ht:=jW (f:=X.f) (D:=108000) da hb k.w
 intro i hi
 have a:=step i hi
 have b:=ht i
 have e:gE (d7 X S sun) i=bo (aC (d7 X S sun).Q (d7 X S sun).T) X.f i:=by unfold gE;rw[Ad k hs]
 have e2:gE X i=bo (aC X.Q X.T) X.f i:=rfl
 refine⟨a.1,?_,?_⟩<;>rw[e]<;>omega
theorem Jc {X:cG} {S:dw} (k:RI X S) {sun:Nat->Int} (hs:ce (aF X sun)=true) (h:PB 1046528 X):∀i,i<4->(d7 X S sun).h i=gE X i:=fun i hi=>by
 rw[zE k hs]
 split
 ·rename_i e
  have t:gE X i=0:=fy hi e
  rw[k.z i hi e,t]
 ·exact(oW (h i hi).1 (jm k i) (h i hi).2).1 oa
def i8 (k:Nat) (X:cG):Prop:=
 (k<=14/\∀i,i<4->-(16777216-1048576* (k:Int))<=X.h i/\X.h i<=16777216-1048576* (k:Int))\/(14<=k/\k<=18/\PB (4194304-830527* ((k:Int)-14)) X)\/(19<=k/\R0 X/\∀i,i<3->aX X i=0)
theorem pW {X:cG} {S:dw} (k:RI X S):i8 0 X:=.inl ⟨oa,fun i hi=>by have:=k.b.s.b i hi;omega⟩
theorem lq {X:cG} {S:dw} (k:RI X S) {sun:Nat->Int} (hs:ce (aF X sun)=true) {n:Nat} (h:i8 n X):i8 (n+1) (d7 X S sun):=by
 have hB:∀m:Nat,14<=m->m<=18->PB (4194304-830527* ((m:Int)-14)) X->i8 (m+1) (d7 X S sun):=fun m m1 m2 hp=>by
  by_cases e:m=18
  ·subst e
   have c:=Jc k hs (fun i hi=>by have:=hp i hi;omega)
   obtain⟨r,_,z,_⟩:=p5 k hs c
   exact .inr (.inr ⟨oa,r,z⟩)
  ·have b:=Lk k hs (E:=4194304-830527* ((m:Int)-14)) oa hp
   refine .inr (.inl ⟨oa,oa,?_⟩)
   have e2:4194304-830527* ((m:Int)-14)-830527=4194304-830527* (((m+1:Nat):Int)-14):=oa
   rw[<-e2];exact b
 rcases h with⟨h1,h2⟩|⟨h1,h2,h3⟩|⟨h1,h2,_⟩
 ·by_cases e:n=14
  ·subst e
   refine hB 14 oa oa fun i hi=>?_
   have a:=h2 i hi
   have b:=jm k i
   refine⟨oa,?_,?_⟩<;>omega
  ·have a:=Lg k hs (B:=16777216-1048576* (n:Int)) oa h2
   exact .inl ⟨oa,fun i hi=>by have:=a i hi;omega⟩
 ·exact hB n h1 h2 h3
 ·obtain⟨r,_,z,_⟩:=p5 k hs (lG k hs h2)
  exact .inr (.inr ⟨oa,r,z⟩)
theorem pO {X:cG} {S:dw} (k:RI X S) {sun:Nat->Int} (hs:ce (aF X sun)=true) {n:Nat} (hn:19<=n) (h:i8 n X):
 (d7 X S sun).Q=X.Q/\(∀i,i<4->(d7 X S sun).h i=X.h i)/\∀i,i<3->zn X (d7 X S sun).h i=0:=by
 have r:R0 X:=by
  rcases h with⟨h1,_⟩|⟨_,h2,_⟩|⟨_,h2,_⟩
  ·omega
  ·omega
  ·exact h2
 have c:=lG k hs r
 obtain⟨_,q,_,o⟩:=p5 k hs c
 exact⟨q,fun i hi=>by rw[c i hi,r i hi],o⟩
end
section
open Go.RowKit PM Dt
variable{D s t:Nat->Int}
theorem fm (D:Nat->Int):0<=vv D:=by
 have m0:=av (D 0)
 have m1:=av (D 1)
 have m2:=av (D 2)
 have hvD:vv D=D 0*D 0+D 1*D 1+D 2*D 2:=rfl
 omega
end
section
open Go.RowKit PM Dt
def qz (X:cG) (D:Nat->Int):Nat->Int:=bo (fun i=>aC X.Q X.T i-D i) X.f
structure FJ (X:cG) (S:dw):Prop where
 b:BI X
 s:vQ S
 z:∀i:Nat,i<4->(i:Int)=X.f->X.h i=0
 n:∀i,i<4->-216001<=X.h i-qz X S.D i/\X.h i-qz X S.D i<=216001
theorem FJ.ri {X:cG} {S:dw} (k:FJ X S):RI X dw.zero:=
 ⟨k.b,⟨fun i hi=>z0 (N:=4194304) da,fun i hi=>z0 (N:=1073741824) da⟩,k.z,fun i hi=>rfl⟩
theorem FJ.w {X:cG} {S:dw} (k:FJ X S):kN X.f=true:=k.ri.w
theorem zq {h P:Int} (hh:-16777216<=h/\h<=16777216) (hP:-16777216<=P/\P<=16777216) (hE:-1000000<=P-h/\P-h<=1000000):iE h (gx h P)=P:=by
 have hf:=qj hh
 have hc:gx h P=P-h+f9 h:=by unfold gx;rw[iu hP]
 unfold iE
 rw[hc,rF oa,show h-f9 h+(P-h+f9 h)=P by omega,iu hP]
def gR (X:cG) (c:Nat->Int):cG:=iF X c (fun _=>0)
theorem KZ (X:cG) (c:Nat->Int) (i:Nat):(gR X c).h i=if(i:Int)=X.f then X.h i else iE (X.h i) (c i):=by
 unfold gR iF
 rw[if_pos gZ];rfl
theorem JB (X:cG) (c:Nat->Int):(gR X c).f=X.f:=by unfold gR iF;rw[if_pos gZ]
theorem Hv (X:cG) (c:Nat->Int):(gR X c).Q=bJ X.Q (iH X.Q X.T (gR X c).h):=by unfold gR iF;rw[if_pos gZ];rfl
theorem H6 {X:cG} (k:BI X) (c:Nat->Int):∀i,i<3->(gR X c).T i=X.T i:=fun i hi=>by
 have hD:∀i,i<3->jZ X c (fun _=>0) i=0:=fun i hi=>by
  obtain⟨qI,qv⟩:=k.att c
  obtain⟨_,_,hb⟩:=js qI qv da da (KW (v:=fun _=>0) (fun i hi=>rfl))
  have:=(hb i hi).2
  unfold jZ;omega
 have bT:=fun i hi=>(iP k.t).1 i hi
 obtain⟨_,hv⟩:=yW (f:=X.T) (g:=jZ X c (fun _=>0)) (fun i hi=>by have:=bT i hi;omega) (fun i hi=>by rw[hD i hi];decide)
 unfold gR iF
 rw[if_pos gZ]
 show(if fG (kY X c fun _=>0)=true then kY X c (fun _=>0)else X.T) i=X.T i
 split
 ·show dS X.T (jZ X c fun _=>0) i=_
  rw[hv i,hD i hi];omega
 ·rfl
theorem BP {X:cG} (kb:BI X) (kw:kN X.f=true) (sun D:Nat->Int) (hb:∀i,i<3->-4194304<=D i/\D i<=4194304):oA (aF X sun) D=qz X D:=by
 obtain⟨_,hm⟩:=eU kb.q kb.v kb.t kb.s
 unfold oA zx qz
 have hr:∀i,i<3->jv (aF X sun) D i=aC X.Q X.T i-D i:=fun i hi=>by
  have h1:=(hm i hi).2
  show cZ X.h i+((4*aX X i)/4-D i)=_
  have h3:aX X i=aC X.Q X.T i-cZ X.h i:=h1
  rw[h3];omega
 have hok:cx (jv (aF X sun) D)=true:=(bK _).2 fun i hi=>(bE _).2 (by rw[hr i hi];have:=(hm i hi).1;have:=hb i hi;omega)
 rw[hok,show kN (aF X sun).f=true from kw]
 show bo _ X.f=_
 rw[il hr kw]
theorem yA {X:cG} {S:dw} (k:FJ X S) (sun To:Nat->Int) (hb:∀i,i<3->-4194304<=pG (ee S (aF X sun)) S To i/\pG (ee S (aF X sun)) S To i<=4194304):
 ky S (aF X sun) To=dU X.h X.f (qz X (pG (ee S (aF X sun)) S To)):=by
 unfold ky
 rw[BP k.b k.w sun _ hb]
 rfl
theorem yK {X:cG} {S S2:dw} (k:FJ X S) (k2:vQ S2) (hd:∀i,i<3->-262144<=S2.D i-S.D i/\S2.D i-S.D i<=262144):∀i,i<4->(gR X (dU X.h X.f (qz X S2.D))).h i=qz X S2.D i:=fun i hi=>by
 obtain⟨_,hm⟩:=eU k.b.q k.b.v k.b.t k.b.s
 have hw:=k.w
 have hn:=jW (d:=fun i=>aC X.Q X.T i-S2.D i) (e:=fun i=>aC X.Q X.T i-S.D i) (f:=X.f) (D:=262144) da (fun i hi=>by have:=hd i hi;show _<=(_-_)-(_-_)/\(_-_)-(_-_)<=_;omega) hw
 have hP:=rG (d:=fun i=>aC X.Q X.T i-S2.D i) (f:=X.f) (m:=5242880) da (fun i hi=>by have:=(hm i hi).1;have:=k2.d i hi;show _<=_-_/\_-_<=_;omega) hw
 rw[KZ]
 split
 ·rename_i e
  have t:qz X S2.D i=0:=fy hi e
  rw[k.z i hi e,t]
 ·rename_i e
  have c:dU X.h X.f (qz X S2.D) i=gx (X.h i) (qz X S2.D i):=by unfold dU;rw[if_neg e]
  have a1:=k.n i hi
  have a2:=hn i
  have a3:=hP i
  rw[c]
  exact zq (k.b.s.b i hi) (by unfold qz;omega) (by unfold qz at a1|-;omega)
theorem vJ {X:cG} {S S2:dw} (k:FJ X S) (k2:vQ S2) (hd:∀i,i<3->-262144<=S2.D i-S.D i/\S2.D i-S.D i<=262144):
 FJ (gR X (dU X.h X.f (qz X S2.D))) S2/\∀i,i<3->zn X (gR X (dU X.h X.f (qz X S2.D))).h i=S2.D i:=by
 obtain⟨_,hm⟩:=eU k.b.q k.b.v k.b.t k.b.s
 have hw:=k.w
 have hh:=yK k k2 hd
 have kb:BI (gR X (dU X.h X.f (qz X S2.D))):=k.b.tick _ _
 have hS:=kb.s
 rw[JB]at hS
 generalize hY:gR X (dU X.h X.f (qz X S2.D))=Y at *
 have yf:Y.f=X.f:=by rw[<-hY,JB]
 have yQ:Y.Q=bJ X.Q (iH X.Q X.T Y.h):=by rw[<-hY];exact Hv _ _
 have yT:∀i,i<3->Y.T i=X.T i:=by rw[<-hY];exact H6 k.b _
 obtain⟨_,hm2⟩:=eU k.b.q k.b.v k.b.t hS
 have own:∀i,i<3->iH X.Q X.T Y.h i=S2.D i:=fun i hi=>by
  have a:=(hm2 i hi).2
  have b:=lH (fun i=>aC X.Q X.T i-S2.D i) X.f hi
  have c:cZ Y.h i=cZ (bo (fun i=>aC X.Q X.T i-S2.D i) X.f) i:=by
   unfold cZ
   rw[hh i oa,hh 3 oa];rfl
  rw[a,c,b]
  show _-(_-_)=_
  omega
 refine⟨⟨kb,k2,fun i hi e=>?_,fun i hi=>?_⟩,own⟩
 ·rw[yf]at e
  rw[hh i hi];exact fy hi e
 ·have hb:∀i,i<3->-108000<=aC Y.Q Y.T i-aC X.Q X.T i/\aC Y.Q Y.T i-aC X.Q X.T i<=108000:=fun i hi=>by
   rw[gM _ yT,yQ]
   exact q9 k.b.q k.b.v k.b.t (fun i hi=>by rw[own i hi];have:=k2.d i hi;omega) hi
  have ht:=jW (d:=fun i=>aC Y.Q Y.T i-S2.D i) (e:=fun i=>aC X.Q X.T i-S2.D i) (f:=X.f) (D:=108000) da (fun i hi=>by have:=hb i hi;show _<=(_-_)-(_-_)/\(_-_)-(_-_)<=_;omega) hw i
  rw[hh i hi]
  have e1:qz Y S2.D i=bo (fun i=>aC Y.Q Y.T i-S2.D i) X.f i:=by unfold qz;rw[yf]
  rw[e1]
  unfold qz
  omega
theorem A8 {l:Nat->Int} (h:zV l=true):∀i,i<3->l i=0:=fun i hi=>by
 unfold zV at h
 exact beq_iff_eq.1 (List.all_eq_true.1 h i (List.mem_range.2 hi))
theorem xz {Q l l':Nat->Int} (h:∀i,i<3->l i=l' i):bJ Q l=bJ Q l':=by
 have hz:zV l=zV l':=Bool.eq_iff_iff.2 ⟨fun k=>p_ fun i hi=>by rw[<-h i hi];exact A8 k i hi,fun k=>p_ fun i hi=>by rw[h i hi];exact A8 k i hi⟩
 have hr:rq (aJ 2 l)=rq (aJ 2 l'):=by
  funext i
  unfold rq aJ
  rw[h 0 oa,h 1 oa,h 2 oa]
 have hm:∀i,i<3->aJ 2 l i=aJ 2 l' i:=fun i hi=>by unfold aJ;rw[h i hi]
 have hs:aE (aJ 2 l) 1073741824=aE (aJ 2 l') 1073741824:=Bool.eq_iff_iff.2 ⟨fun k=>(bp _ _).2 fun i hi=>by rw[<-hm i hi];exact(bp _ _).1 k i hi,fun k=>(bp _ _).2 fun i hi=>by rw[hm i hi];exact(bp _ _).1 k i hi⟩
 unfold bJ aR ls
 rw[hz,hr,hs]
structure Gl (n:Nat) (X:cG) (S:dw) (sun:Nat->Int):Prop where
 k:RI X S
 st:i8 n X
 r:ee S (aF X sun)=true->R0 X
 a:20<=n->ee S (aF X sun)=true
theorem Gl.start {X:cG} {sun:Nat->Int} (k:RI X dw.zero):Gl 0 X dw.zero sun:=⟨k,pW k,fun h=>(by cases h),fun h=>by omega⟩
theorem vy {X:cG} (kw:kN X.f=true) {D:Nat->Int} (h:∀i,i<3->D i=0):qz X D=gE X:=il (fun i hi=>by show _-_=_;rw[h i hi];omega) kw
theorem Gl.fi {n:Nat} {X:cG} {S:dw} {sun:Nat->Int} (h:Gl n X S sun) (ha:ee S (aF X sun)=true):FJ X S:=
 ⟨h.k.b,h.k.s,h.k.z,fun i hi=>by rw[vy h.k.w h.k.d,h.r ha i hi];omega⟩
theorem GX {X:cG} {S:dw} {sun:Nat->Int} (k:RI X S) (ha:ee S (aF X sun)=false) (To:Nat->Int):oA (aF X sun) (pG (ee S (aF X sun)) S To)=gE X:=by
 have hd:∀i,i<3->pG (ee S (aF X sun)) S To i=0:=fun i hi=>by rw[ha];exact k.d i hi
 rw[BP k.b k.w sun _ fun i hi=>by rw[hd i hi];decide]
 exact vy k.w hd
theorem Df {X:cG} {S:dw} {sun:Nat->Int} (k:RI X S) (hs:ce (aF X sun)=true) (ha:ee S (aF X sun)=false) (To:Nat->Int):gR X (ky S (aF X sun) To)=d7 X S sun:=by
 unfold ky
 rw[GX k ha]
 exact(pV k hs).symm
theorem Jb {a b:Nat->Int} (h:pB a b=true):∀j,j<4->a j=b j:=fun j hj=>by
 unfold pB at h
 exact beq_iff_eq.1 (List.all_eq_true.1 h j (List.mem_range.2 hj))
theorem Bz {a b:Nat->Int} (h:∀j,j<4->a j=b j):pB a b=true:=by
 unfold pB
 exact List.all_eq_true.2 fun j hj=>beq_iff_eq.2 (h j (List.mem_range.1 hj))
theorem Gl.step {n:Nat} {X:cG} {S:dw} {sun A To:Nat->Int} (h:Gl n X S sun) (hs:ce (aF X sun)=true) (ha:ee S (aF X sun)=false) (hA:∀i,i<3->-1073741824<=A i/\A i<=1073741824) (hT:∀i,i<3->-4194304<=To i/\To i<=4194304):
 Gl (n+1) (gR X (ky S (aF X sun) To)) (mo S (aF X sun) A To) sun:=by
 rw[Df h.k hs ha]
 have t:=h.k.tick hs
 have kd:∀i,i<3->(mo S (aF X sun) A To).D i=0:=fun i hi=>by show pG (ee S (aF X sun)) S To i=0;rw[ha];exact h.k.d i hi
 have hP:(mo S (aF X sun) A To).P=gE X:=GX h.k ha To
 have hn:n<20:=by
  apply bC;intro hc
  rw[h.a oa]at ha;cases ha
 refine⟨⟨t.b,h.k.s.step _ hA hT,t.z,kd⟩,lq h.k hs h.st,fun hr=>?_,fun h20=>?_⟩
 ·have e:pB (d7 X S sun).h (mo S (aF X sun) A To).P=true:=by
   unfold ee at hr
   exact(Bool.and_eq_true _ _|>.mp hr).2
  rw[hP]at e
  exact(p5 h.k hs (Jb e)).1
 ·have r:R0 X:=by
   rcases h.st with⟨h1,_⟩|⟨_,h2,_⟩|⟨_,h2,_⟩
   ·omega
   ·omega
   ·exact h2
  have e:pB (d7 X S sun).h (mo S (aF X sun) A To).P=true:=by
   rw[hP];exact Bz (lG h.k hs r)
  unfold ee
  exact Bool.and_eq_true _ _|>.mpr ⟨rfl,e⟩
theorem BM {X:cG} {S:dw} {sun A To:Nat->Int} (k:FJ X S) (ha:ee S (aF X sun)=true) (hA:∀i,i<3->-1073741824<=A i/\A i<=1073741824) (hT:∀i,i<3->-4194304<=To i/\To i<=4194304):
 FJ (gR X (ky S (aF X sun) To)) (mo S (aF X sun) A To)/\ee (mo S (aF X sun) A To) (aF (gR X (ky S (aF X sun) To)) sun)=true/\
  (gR X (ky S (aF X sun) To)).Q=bJ X.Q (mo S (aF X sun) A To).D:=by
 have k2:vQ (mo S (aF X sun) A To):=k.s.step _ hA hT
 have hD:=fun i hi=>sC k.s (ee S (aF X sun)) hT (i:=i) hi
 have e1:(mo S (aF X sun) A To).D=pG (ee S (aF X sun)) S To:=rfl
 have e2:=yA k sun To fun i hi=>(hD i hi).1
 rw[<-e1]at e2
 obtain⟨kn,own⟩:=vJ k k2 (fun i hi=>(hD i hi).2)
 have hit:=yK k k2 (fun i hi=>(hD i hi).2)
 have hP:(mo S (aF X sun) A To).P=qz X (mo S (aF X sun) A To).D:=BP k.b k.w sun _ fun i hi=>(hD i hi).1
 rw[<-e2]at kn own hit
 refine⟨kn,?_,?_⟩
 ·have e:pB (gR X (ky S (aF X sun) To)).h (mo S (aF X sun) A To).P=true:=by rw[hP];exact Bz hit
  unfold ee
  exact Bool.and_eq_true _ _|>.mpr ⟨rfl,e⟩
 ·rw[Hv]
  exact xz own
end
end Go.Proofs.YtbhahonkhiiilaaGreat
