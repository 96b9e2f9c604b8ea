/-
  Near: what is left shrinks. No program in sight.
-/
import Derived.Test.YtbhahonkhiiilaaGreatCnA
set_option linter.unusedSimpArgs false
set_option linter.unusedVariables false
namespace Go.Proofs.YtbhahonkhiiilaaGreat
section
open Go.RowKit PM Dt
variable{mu k y ep:Int} {m L D W W':Nat->Int}
def qu (a V:Int):Int:=32* (V/32+2)-19*jF a (V/32+2)/10+48
theorem iJ (a b:Int):jF a b<=a/\jF a b<=b/\(jF a b=a\/jF a b=b):=by unfold jF;split<;>omega
theorem Bt.mono {a b m W:Int} (h:Bt a m W) (hab:b<=a):Bt b m W:=by unfold Bt at *;omega
theorem CP {a V:Int} (hL:nn L<=1073741836*1073741836) (h0:1055000000<=L 0) (hV0:0<=V) (hV:vv (qw L)<=V*V) (a0:0<=a) (a1:a<=4194304) (h:∀i,i<3->Bt a (m i) (aB L i)):
 vv (fun i=>1073741824*L (i+1)-2*L 0*m i)<=(1073741824*qu a V)* (1073741824*qu a V):=by
 obtain⟨n,n0,na,nb,vL,_,hm⟩:=Fi hL h a0 a1
 obtain⟨mu,hmu⟩:∃mu,mu=jF a n:=⟨_,rfl⟩
 have hmu2:=iJ a n
 rw[<-hmu]at hmu2
 obtain⟨n',n0',na',nb',vL',hs,_⟩:=Fi (mu:=mu) (m:=m) hL (fun i hi=>(h i hi).mono hmu2.1) oa oa
 have en:n'=n:=by
  have le:∀{n n':Int},0<=n->0<=n'->vv (bH L)<=n*n->(0<n'->(n'-1)* (n'-1)<vv (bH L))->n'<=n:=fun{n n'} h0 h0' ha hb=>by
   apply bC;intro hc
   have a:=hb oa
   have b:=bW h0 (show n<=n'-1 by omega)
   omega
  have:=le n0 n0' na nb'
  have:=le n0' n0 na' nb
  omega
 rw[en]at hs
 have hs:=hs oa
 clear nb' na' vL' n0' en
 have nV:n<=V/32+2:=by
  apply bC;intro hc
  have b:=nb oa
  have t:vv (fun i=>32*bH L i)<=(V+32)* (V+32):=cE hV0 da hV (dI (B:=16) (x:=fun i=>32*bH L i-L (i+1)) da fun i hi=>by unfold bH;omega) fun i hi=>by
   show 32*bH L i=L (i+1)+(32*bH L i-L (i+1));omega
  have s:=cF (v:=bH L) (N:=32) da (show 0<=V+32 by omega) t (show V+32<=32* (n-1) by omega)
  omega
 have cL:=cK (show(0:Int)<=1073741836 by decide) hL (show 0<4 by omega)
 obtain⟨S,hS⟩:∃S,S=m 0*L 1+m 1*L 2+m 2*L 3:=⟨_,rfl⟩
 rw[<-hS]at hm hs
 have e:vv (fun i=>1073741824*L (i+1)-2*L 0*m i)=1152921504606846976*vv (qw L)-4294967296* (L 0*S)+4* (L 0*L 0*vv m):=by unfold vv qw;rw[hS];grind
 rw[e]
 have m0:=fm m
 have b1:4* (L 0*L 0*vv m)<=L 0* (134217730* (S+32*n)):=by
  have x:=mL (show 32*vv m<=S+32*n by omega) (show 0<=L 0*L 0 by exact av _)
  have z:=mR cL.2 (show 0<=L 0 by omega)
  have w:=mR z (show 0<=S+32*n by omega)
  have e1:L 0*L 0* (32*vv m)=32* (L 0*L 0*vv m):=by grind
  have e2:1073741836*L 0* (S+32*n)=1073741836* (L 0* (S+32*n)):=by grind
  have e3:L 0* (134217730* (S+32*n))=134217730* (L 0* (S+32*n)):=by grind
  have q:=mN (show 0<=L 0 by omega) (show 0<=S+32*n by omega)
  omega
 have b2:1152921504606846976*vv (qw L)-4294967296* (L 0*S)+4* (L 0*L 0*vv m)<=1152921504606846976* ((32*n+32)* (32*n+32))-4160749566* (L 0*S)+4294967360* (L 0*n):=by
  have e1:L 0* (134217730* (S+32*n))=134217730* (L 0*S)+4294967360* (L 0*n):=by grind
  omega
 have b3:=mL (show 32* (mu* (n-2))-128*n<=S by omega) (show 0<=L 0 by omega)
 have e4:L 0* (32* (mu* (n-2))-128*n)=L 0* (mu* (32*n+32))-96* (L 0*mu)-128* (L 0*n):=by grind
 have b4:=mL (show mu<=n by omega) (show 0<=L 0 by omega)
 have b5:=mR h0 (mN (show 0<=mu by omega) (show 0<=32*n+32 by omega))
 have b6:=mR cL.2 n0
 have y0:=mN (show 0<=mu by omega) (show 0<=32*n+32 by omega)
 obtain⟨Z,hZ⟩:∃Z,Z=10* (32*n+32)-19*mu+140:=⟨_,rfl⟩
 have k:100* (1152921504606846976* ((32*n+32)* (32*n+32))-4160749566* (L 0*S)+4294967360* (L 0*n))<=1152921504606846976* (Z*Z):=by
  have e5:Z*Z=100* ((32*n+32)* (32*n+32))-380* (mu* (32*n+32))+2800* (32*n+32)+(19*mu-140)* (19*mu-140):=by rw[hZ];grind
  have:=av (19*mu-140)
  omega
 have Zr:Z<=10*qu a V:=by
  have x:=iJ a n
  have y:=iJ a (V/32+2)
  rw[hZ];unfold qu
  omega
 have Z0:0<=Z:=oa
 have z2:=bW Z0 Zr
 have e6:10*qu a V* (10*qu a V)=100* (qu a V*qu a V):=by grind
 have e7:1073741824*qu a V* (1073741824*qu a V)=1152921504606846976* (qu a V*qu a V):=by grind
 rw[e7]
 omega
theorem Fo.near (h:Fo k y D W') (hk:0<=k) (hy:0<=y) (i:Nat) (hi:i<3):∃m g:Int,D i=m+g/\Bt (262144*k) m (W i)/\∃e:Int,(e=W' i-W i\/e=-(W' i-W i))/\0<=e/\-(y+e)<=g/\g<=y+e:=by
 have a:=h i hi
 obtain⟨e,he,e0,e1⟩:∃e:Int,(e=W' i-W i\/e=-(W' i-W i))/\0<=e/\W' i-W i<=e/\-e<=W' i-W i:=by
  by_cases c:0<=W' i-W i
  ·exact⟨_,.inl rfl,oa,oa,oa⟩
  ·exact⟨_,.inr rfl,oa,oa,oa⟩
 unfold Bt
 rcases a with a|a|a
 ·exact⟨W i,D i-W i,oa,oa,e,he,e0,oa,oa⟩
 ·by_cases c:D i<=W i
  ·exact⟨D i,0,oa,oa,e,he,e0,oa,oa⟩
  ·exact⟨W i,D i-W i,oa,oa,e,he,e0,oa,oa⟩
 ·by_cases c:W i<=D i
  ·exact⟨D i,0,oa,oa,e,he,e0,oa,oa⟩
  ·exact⟨W i,D i-W i,oa,oa,e,he,e0,oa,oa⟩
def yF (y:Int):Int:=17321*y/10000+1
theorem Fo.split (h:Fo k y D W') (hk:0<=k) (hy:0<=y) (he0:0<=ep) (he:vv (fun i=>W' i-W i)<=ep*ep):∃m:Nat->Int,(∀i,i<3->Bt (262144*k) (m i) (W i))/\vv (fun i=>D i-m i)<=(yF y+ep)* (yF y+ep):=by
 have s:∀i,∃m,i<3->Bt (262144*k) m (W i)/\∃e:Int,(e=W' i-W i\/e=-(W' i-W i))/\0<=e/\-(y+e)<=D i-m/\D i-m<=y+e:=fun i=>by
  by_cases hi:i<3
  ·obtain⟨m,g,e1,b,e,q1,q2,q3,q4⟩:=h.near (W:=W) hk hy i hi
   exact⟨m,fun _=>⟨b,e,q1,q2,oa,oa⟩⟩
  ·exact⟨0,fun h=>absurd h hi⟩
 obtain⟨m,hm⟩:=Classical.skolem.1 s
 refine⟨m,fun i hi=>(hm i hi).1,?_⟩
 have s2:∀i,∃e,i<3->(e=W' i-W i\/e=-(W' i-W i))/\0<=e/\-(y+e)<=D i-m i/\D i-m i<=y+e:=fun i=>by
  by_cases hi:i<3
  ·obtain⟨_,e,q⟩:=hm i hi;exact⟨e,fun _=>q⟩
  ·exact⟨0,fun h=>absurd h hi⟩
 obtain⟨e,he2⟩:=Classical.skolem.1 s2
 have ve:vv e<=ep*ep:=by
  have x:∀i,i<3->e i*e i=(W' i-W i)* (W' i-W i):=fun i hi=>by rcases(he2 i hi).1 with q|q<;>rw[q]<;>grind
  have:vv e=vv (fun i=>W' i-W i):=by unfold vv;rw[x 0 oa,x 1 oa,x 2 oa]
  omega
 have t:=cE (z:=fun i=>y+e i) (x:=fun _=>y) (show 0<=yF y by unfold yF;omega) he0 (xA (v:=fun _=>y) hy fun i hi=>⟨oa,oa⟩) ve fun i hi=>rfl
 refine iT ?_ t
 have q:=fun i hi=>(bR (P:=y+e i) (R:=y+e i) (he2 i hi).2.2.1 (he2 i hi).2.2.2 (he2 i hi).2.2.1 (he2 i hi).2.2.2).2
 have q0:=q 0 oa
 have q1:=q 1 oa
 have q2:=q 2 oa
 unfold vv
 show(D 0-m 0)* (D 0-m 0)+(D 1-m 1)* (D 1-m 1)+(D 2-m 2)* (D 2-m 2)<=(y+e 0)* (y+e 0)+(y+e 1)* (y+e 1)+(y+e 2)* (y+e 2)
 omega
end
section
open Go.RowKit PM Dt
def Aw (x:Int):Int:=x+x/10000+30
theorem Gz {A Q q:Nat->Int} {x:Int} (hI:∀i,i<4->bu (A i)) (hA:au A=true) (hJ:∀i,i<4->bu (Q i)) (hQ:au Q=true) (hK:∀i,i<4->bu (q i)) (hq:au q=true)
 (hx0:0<=x) (hx:x<=14600000) (h:Nr A Q x) (h0:0<=eD A Q 0):∃g:Int,(g=1\/g=-1)/\nn (fun i=>g*am A q i-am Q q i)<=Aw x*Aw x:=by
 obtain⟨_,l1,u1⟩:=bm hI hA
 obtain⟨_,l2,u2⟩:=bm hJ hQ
 obtain⟨_,l3,u3⟩:=bm hK hq
 have en:nn (eD A Q)=nn A*nn Q:=kT A Q
 have ew:=jC (eD A Q)
 have lo:1073741820*1073741820* (1073741820*1073741820)<=nn A*nn Q:=mM l1 l2 da oa
 have hi':nn A*nn Q<=1073741829*1073741829* (1073741829*1073741829):=mM oa oa oa da
 have v0:=fm (qw (eD A Q))
 have up:eD A Q 0<=1073741829*1073741829:=by
  apply bC;intro hc
  have:=bW (show(0:Int)<=1073741829*1073741829+1 by decide) (show 1073741829*1073741829+1<=eD A Q 0 by omega)
  omega
 have xx:x*x<=14600000*x:=mR hx hx0
 have hn:vv (qw (eD A Q))<=1152921504606846976* (x*x):=by
  have e:(1073741824*x)* (1073741824*x)=1152921504606846976* (x*x):=by grind
  have h:vv (qw (eD A Q))<=(1073741824*x)* (1073741824*x):=h
  omega
 obtain⟨k,hk⟩:∃k,k=x/100+1:=⟨_,rfl⟩
 have dn:1073741820*1073741820-1073741824*k<=eD A Q 0:=by
  apply bC;intro hc
  have a:=bW h0 (show eD A Q 0<=1073741820*1073741820-1073741824*k by omega)
  have e:(1073741820*1073741820-1073741824*k)* (1073741820*1073741820-1073741824*k)=1073741820*1073741820* (1073741820*1073741820)-2475849334410746265600*1000000*k+1152921504606846976* (k*k)-(2*1073741824* (1073741820*1073741820)-2475849334410746265600*1000000)*k:=by grind
  have kk:k*k<=150000*k:=mR oa oa
  omega
 have c0:-(1073741824* (x/100+20))<=eD A Q 0-nn Q/\eD A Q 0-nn Q<=1073741824* (x/100+20):=oa
 have cs:=(bR c0.1 c0.2 c0.1 c0.2).2
 obtain⟨X,hX⟩:∃X,X=x+x/10000+25:=⟨_,rfl⟩
 have nX:(eD A Q 0-nn Q)* (eD A Q 0-nn Q)+vv (qw (eD A Q))<=1152921504606846976* (X*X):=by
  obtain⟨w,hw⟩:∃w,w=x/100:=⟨_,rfl⟩
  obtain⟨z,hz⟩:∃z,z=x/10000:=⟨_,rfl⟩
  have e1:1073741824* (x/100+20)* (1073741824* (x/100+20))=1152921504606846976* (w*w+40*w+400):=by rw[<-hw];grind
  have e2:X*X=x*x+2* (x*z)+50*x+z*z+50*z+625:=by rw[hX,<-hz];grind
  have b1:w*w*10000<=x*x:=by
   have:=mM (show w*100<=x by omega) (show w*100<=x by omega) oa hx0
   have e:w*100* (w*100)=w*w*10000:=by grind
   omega
  have b2:=mL (show x-9999<=10000*z by omega) hx0
  have e3:x* (x-9999)=x*x-9999*x:=by grind
  have e4:x* (10000*z)=10000* (x*z):=by grind
  have:=av z
  rw[e1]at cs
  omega
 have id:∀i,i<4->nn Q* (eD A q i-eD Q q i)=pe (fun j=>match j with|0=>eD A Q 0-nn Q|j+1=>eD A Q (j+1)) (eD Q q) i:=fun i hi=>by
  rcases(show i=0\/i=1\/i=2\/i=3 by omega)with rfl|rfl|rfl|rfl<;>simp only[pe,eD,cj,nn]<;>grind
 obtain⟨c,hc⟩:∃c:Nat->Int,c=fun j=>match j with|0=>eD A Q 0-nn Q|j+1=>eD A Q (j+1):=⟨_,rfl⟩
 rw[<-hc]at id
 have nc:nn c=(eD A Q 0-nn Q)* (eD A Q 0-nn Q)+vv (qw (eD A Q)):=by
  rw[jC c]
  have e0:c 0=eD A Q 0-nn Q:=by rw[hc]
  have e1:vv (qw c)=vv (qw (eD A Q)):=by rw[hc];rfl
  rw[e0,e1]
 have n1:nn (sc (nn Q) fun i=>eD A q i-eD Q q i)=nn c* (nn Q*nn q):=by
  rw[GM (x:=sc (nn Q) fun i=>eD A q i-eD Q q i) (y:=pe c (eD Q q)) fun i hi=>id i hi,dR,kT]
 rw[c_]at n1
 have hE:nn (fun i=>eD A q i-eD Q q i)<=(1073741824* (X+1))* (1073741824* (X+1)):=by
  have e1:nn c* (nn Q*nn q)=nn Q* (nn c*nn q):=by grind
  have e2:nn Q*nn Q*nn (fun i=>eD A q i-eD Q q i)=nn Q* (nn Q*nn (fun i=>eD A q i-eD Q q i)):=by grind
  rw[e1,e2]at n1
  have n2:=Int.eq_of_mul_eq_mul_left (show nn Q≠0 by omega) n1
  have a:=mM (show nn c<=1152921504606846976* (X*X) by omega) (show nn q<=1073741829*1073741829 by omega) oa (mN da (av X))
  have b:=mR l2 (aT fun i=>eD A q i-eD Q q i)
  have e3:(1073741824* (X+1))* (1073741824* (X+1))=1152921504606846976* (X*X+2*X+1):=by grind
  have XX:X*X<=15000000*X:=mR oa oa
  omega
 obtain⟨_,s,hs1,e,he⟩:=dJ hI hA hK hq
 obtain⟨_,t,ht1,f,hf⟩:=dJ hJ hQ hK hq
 have ss:=lh hs1
 have tt:=lh ht1
 refine⟨t*s,by rcases hs1 with rfl|rfl<;>rcases ht1 with rfl|rfl<;>decide,?_⟩
 have ne:=gH (B:=536870912) fun i hi=>(he i hi).1
 have nf:=gH (B:=536870912) fun i hi=>(hf i hi).1
 have k1:=jX (x:=fun i=>eD A q i-eD Q q i) (y:=fun i=>s*e i) (z:=fun i=>eD A q i-eD Q q i+s*e i) (Y:=1073741824) oa da hE (by
  have:nn (fun i=>s*e i)=s*s*nn e:=c_ s e
  rw[this,ss];omega) fun i hi=>rfl
 have k2:=jX (x:=fun i=>eD A q i-eD Q q i+s*e i) (y:=fun i=>-t*f i) (z:=fun i=>t* (1073741824* (t*s*am A q i-am Q q i))) (Y:=1073741824) oa da k1 (by
  have:nn (fun i=>-t*f i)=-t*-t*nn f:=c_ (-t) f
  have z:-t*-t=t*t:=by grind
  rw[this,z,tt];omega) fun i hi=>by
  have a:=(he i hi).2
  have b:=(hf i hi).2
  show t* (1073741824* (t*s*am A q i-am Q q i))=eD A q i-eD Q q i+s*e i+-t*f i
  have c1:t* (1073741824* (t*s*am A q i-am Q q i))=t*t*s* (1073741824*am A q i)-t* (1073741824*am Q q i):=by grind
  rw[c1,a,b,tt]
  have c2:1*s* (s*eD A q i+e i)-t* (t*eD Q q i+f i)=s*s*eD A q i-t*t*eD Q q i+s*e i+-t*f i:=by grind
  rw[c2,ss,tt];omega
 have z1:nn (fun i=>t* (1073741824* (t*s*am A q i-am Q q i)))=1152921504606846976*nn (fun i=>t*s*am A q i-am Q q i):=by
  have a:nn (fun i=>t* (1073741824* (t*s*am A q i-am Q q i)))=t*t* (1152921504606846976*nn (fun i=>t*s*am A q i-am Q q i)):=by unfold nn;grind
  rw[a,tt];omega
 rw[z1]at k2
 have z2:(1073741824* (X+1)+1073741824+1073741824)* (1073741824* (X+1)+1073741824+1073741824)=1152921504606846976* ((X+3)* (X+3)):=by grind
 rw[z2]at k2
 exact iT (mC k2 da) (bW oa (by unfold Aw;omega))
end
section
open Go.RowKit PM Dt
variable{k y ep V d w:Int} {Q q D W L:Nat->Int}
theorem Bt.vv {a:Int} {m W:Nat->Int} (h:∀i,i<3->Bt a (m i) (W i)):vv m<=vv W:=by
 have s:∀i,i<3->m i*m i<=W i*W i:=fun i hi=>by
  rcases h i hi with⟨_,a,b,_⟩|⟨_,a,b,_⟩
  ·exact mM b b a oa
  ·have:=mM (show-m i<=-W i by omega) (show-m i<=-W i by omega) oa oa
   have e1:-m i*-m i=m i*m i:=by grind
   have e2:-W i*-W i=W i*W i:=by grind
   omega
 have:=s 0 oa
 have:=s 1 oa
 have:=s 2 oa
 unfold Go.Proofs.YtbhahonkhiiilaaGreat.vv
 omega
theorem Fo.len (h:Fo k y D W) (hk:0<=k) (hy:0<=y) (hw0:0<=w) (hw:vv W<=w*w):vv D<=(w+yF y)* (w+yF y):=by
 obtain⟨m,hm,hg⟩:=h.split (W:=W) (ep:=0) hk hy da (by unfold vv;show(W 0-W 0)* (W 0-W 0)+(W 1-W 1)* (W 1-W 1)+(W 2-W 2)* (W 2-W 2)<=_;rw[Int.sub_self,Int.sub_self,Int.sub_self];decide)
 have g:vv (fun i=>D i-m i)<=yF y*yF y:=by rw[Int.add_zero]at hg;exact hg
 exact cE (z:=D) hw0 (by unfold yF;omega) (iT (Bt.vv hm) hw) g fun i hi=>by show D i=m i+(D i-m i);omega
theorem IH (hL:nn L<=1073741836*1073741836) (hV0:0<=V) (hV:vv (qw L)<=V*V):vv (aB L)<=4194304*4194304/\vv (aB L)<=(V/32+2)* (V/32+2):=by
 have ok:=(gY hL).1
 refine⟨(fE ok).2.2,?_⟩
 have t:vv (fun i=>32*bH L i)<=(V+32)* (V+32):=cE hV0 da hV (dI (B:=16) (x:=fun i=>32*bH L i-L (i+1)) da fun i hi=>by unfold bH;omega) fun i hi=>by
  show 32*bH L i=L (i+1)+(32*bH L i-L (i+1));omega
 have s:=cF (v:=bH L) (N:=32) (Y:=V/32+2) da (show 0<=V+32 by omega) t oa
 have b:∀i,i<3->aB L i*aB L i<=bH L i*bH L i:=fun i hi=>by
  have le:=wC ok hi
  have le:(0<=aB L i/\aB L i<=bH L i)\/(bH L i<=aB L i/\aB L i<=0):=le
  rcases le with⟨a,b⟩|⟨a,b⟩
  ·exact mM b b a oa
  ·have:=mM (show-aB L i<=-bH L i by omega) (show-aB L i<=-bH L i by omega) oa oa
   have e1:-aB L i*-aB L i=aB L i*aB L i:=by grind
   have e2:-bH L i*-bH L i=bH L i*bH L i:=by grind
   omega
 have:=b 0 oa
 have:=b 1 oa
 have:=b 2 oa
 unfold vv at s|-
 omega
theorem za (hl:1073741814*1073741814<=nn L) (h0:0<=L 0) (hV0:0<=V) (hV1:V<=190000000) (hV:vv (qw L)<=V*V):1055000000<=L 0:=by
 apply bC;intro hc
 have a:=bW h0 (show L 0<=1055000000 by omega)
 have b:=bW hV0 hV1
 have:=jC L
 omega
def Jp (k y V ep:Int):Int:=qu (jF (262144*k) 4194304) V+2* (yF y+ep)+1
def Jj (k y V d ep:Int):Int:=Jp k y V ep+(2*d*V/1073741824+1)* (2*d*V/1073741824+1)/(2*Jp k y V ep)+18
theorem AJ (hI:∀i,i<4->bu (Q i)) (hQ:au Q=true) (hK:∀i,i<4->bu (q i)) (hq:au q=true) (hI':∀i,i<4->bu (bJ Q D i)) (hQ':au (bJ Q D)=true)
 (hV0:0<=V) (hV1:V<=190000000) (hV:vv (qw (am Q q))<=V*V) (fo:Fo k y D W) (hk:0<=k) (hy:0<=y) (hy1:y<=2000000) (he0:0<=ep) (he1:ep<=2000000) (he:vv (fun i=>W i-aB (am Q q) i)<=ep*ep) (hd0:0<=d) (hd1:d<=6300000) (hd:vv D<=d*d):
 vv (qw (am (bJ Q D) q))<=Jj k y V d ep*Jj k y V d ep:=by
 obtain⟨hl,hL⟩:=fZ hI hQ hK hq
 obtain⟨h0,_⟩:=dJ hI hQ hK hq
 have l0:=za hl h0 hV0 hV1 hV
 have cL:=cK (show(0:Int)<=1073741836 by decide) hL (show 0<4 by omega)
 obtain⟨m,hm,hg⟩:=fo.split hk hy he0 he
 obtain⟨a,ha⟩:∃a,a=jF (262144*k) 4194304:=⟨_,rfl⟩
 have ha2:=iJ (262144*k) 4194304
 rw[<-ha]at ha2
 have rd:=CP (a:=a) hL l0 hV0 hV oa oa fun i hi=>(hm i hi).mono ha2.1
 have dm:vv (aJ 2 D)<=(2*d)* (2*d):=by
  have:=ef 2 D
  have e:2*d* (2*d)=4* (d*d):=by grind
  have e2:vv (aJ 2 D)=2*2*vv D:=this
  omega
 obtain⟨g,hg1,t⟩:=pE (q:=q) hI hQ hK hq dm oa oa (by rw[<-lK];exact hI') (by rw[<-lK];exact hQ')
 rw[<-lK]at t
 have r0:0<=qu a V:=by
  have x:=iJ a (V/32+2)
  unfold qu;omega
 have r1:qu a V<=190000200:=by
  have x:=iJ a (V/32+2)
  unfold qu;omega
 have y0:0<=yF y/\yF y<=3465000:=by unfold yF;omega
 have b1:vv (fun i=>2*am Q q 0* (D i-m i))<=(2*1073741836* (yF y+ep))* (2*1073741836* (yF y+ep)):=by
  rw[ef (2*am Q q 0) fun i=>D i-m i]
  have x:=mM (bR (P:=2147483672) (R:=2147483672) (a:=2*am Q q 0) (b:=2*am Q q 0) oa oa oa oa).2 hg (fm _) da
  have e:(2*1073741836* (yF y+ep))* (2*1073741836* (yF y+ep))=2147483672*2147483672* ((yF y+ep)* (yF y+ep)):=by grind
  omega
 have s1:=cE (z:=fun i=>1073741824*am Q q (i+1)-am Q q 0*aJ 2 D i) (y:=fun i=>-(2*am Q q 0* (D i-m i))) (X:=1073741824*qu a V) (Y:=2*1073741836* (yF y+ep)) oa oa rd (by rw[jS fun i=>2*am Q q 0* (D i-m i)];exact b1) fun i hi=>by
  show 1073741824*am Q q (i+1)-am Q q 0* (2*D i)=(1073741824*am Q q (i+1)-2*am Q q 0*m i)+-(2*am Q q 0* (D i-m i))
  grind
 obtain⟨A,hA⟩:∃A,A=Jp k y V ep:=⟨_,rfl⟩
 have hA2:A=qu a V+2* (yF y+ep)+1:=by rw[hA,ha];rfl
 obtain⟨b,hb⟩:∃b,b=2*d*V/1073741824+1:=⟨_,rfl⟩
 have dv:=mN (show 0<=2*d by omega) hV0
 have dv2:2*d*V<=12600000*190000000:=mM oa hV1 hV0 da
 have b0:1<=b/\b<=2300000:=oa
 have hZ:Jj k y V d ep=A+b*b/(2*A)+18:=by rw[hA,hb];rfl
 rw[hZ]
 have A0:1<=A:=oa
 have bb:=(bR (P:=2300000) (R:=b) (a:=b) (b:=b) oa oa oa oa).2
 obtain⟨c,hc⟩:∃c,c=b*b/(2*A)+1:=⟨_,rfl⟩
 have hc1:b*b<=2*A*c:=by
  have:=Int.lt_mul_ediv_self_add (show 0<2*A by omega) (x:=b*b)
  have e:2*A*c=2*A* (b*b/(2*A))+2*A:=by rw[hc];grind
  omega
 have q0:0<=b*b/(2*A):=ea (av b) oa
 have dv3:2*d*V<=12600000*V:=mR oa hV0
 have bA:b<=A:=by
  have x:=iJ a (V/32+2)
  have r2:30* (V/32+2)<=qu a V:=by unfold qu;omega
  omega
 have q1:b*b/(2*A)<=b:=by
  have x:=mR bA (show 0<=b by omega)
  have e:b* (2*A)=2* (A*b):=by grind
  have z:=mN (show 0<=A by omega) (show 0<=b by omega)
  exact Int.ediv_le_of_le_mul oa (by rw[e];omega)
 have v:=t.vec (A:=1073741824*A) (V:=V) (U:=1073741824* (A+c)) (Z:=A+b*b/(2*A)+18) oa hV (iT s1 (bW oa (by rw[hA2];omega))) oa ?_ ?_
 ·have e:vv (qw fun i=>g*am (bJ Q D) q i)=vv (qw (am (bJ Q D) q)):=by
   have:=lh hg1
   have x:vv (qw fun i=>g*am (bJ Q D) q i)=g*g*vv (qw (am (bJ Q D) q)):=by unfold vv qw;grind
   rw[x,this];omega
  rw[<-e];exact v
 ·have x:=bW dv (show 2*d*V<=1073741824*b by omega)
  have e1:1073741824*A* (1073741824*A)+1073741824*b* (1073741824*b)=1152921504606846976* (A*A+b*b):=by grind
  have e2:1073741824* (A+c)* (1073741824* (A+c))=1152921504606846976* (A*A+2*A*c+c*c):=by grind
  have:=av c
  rw[e2]
  omega
 ·omega
end
section
open Go.RowKit PM Dt
variable{mu La pi g c w G:Int} {l L L':Nat->Int}
theorem Cy (mv:Mv l L (fun i=>g*L' i) La pi) (hl:1073741814*1073741814<=nn L) (hL:nn L<=1073741836*1073741836) (h0:0<=L 0) (h1:L 0<=1062500000) (hb:∀i,i<3->Bt mu (l i) (aB L i)) (m0:0<=mu) (m1:mu<=4194304) (hp:pi<=2*mu)
 (hc:L 0<=c) (hw0:0<=w) (hw:w*w+c*c<=1073741814*1073741814) (hG:1073741824* (G+sE La pi c+10)<=(2*mu-pi)*w):L 0+G<=g*L' 0:=by
 obtain⟨n,n0,na,nb,vL,hs,_⟩:=Fi hL hb m0 m1
 have nf:=pC (N:=4840000) hl h0 h1 da da n0 na
 have hs:=hs oa
 have nu:n<=33554600:=by
  apply bC;intro hc
  have a:=bW (show(0:Int)<=33554600 by decide) (show 33554600<=n-1 by omega)
  have b:vv (fun i=>32*bH L i)<=(1073741836+32)* (1073741836+32):=cE da da (ey hL) (dI (B:=16) (x:=fun i=>32*bH L i-L (i+1)) da fun i hi=>by unfold bH;omega) fun i hi=>by
   show 32*bH L i=L (i+1)+(32*bH L i-L (i+1));omega
  have c:=ef 32 (bH L)
  have:=nb oa
  omega
 obtain⟨V,hV⟩:∃V,V=32*n+32:=⟨_,rfl⟩
 rw[<-hV]at vL
 have s:=mv.s V c oa vL oa hc
 have wV:w<=V:=by
  apply bC;intro hx
  have a:=bW (show 0<=V+1 by omega) (show V+1<=w by omega)
  have b:=bW h0 hc
  have:=jC L
  have e:(V+1)* (V+1)=V*V+2*V+1:=by grind
  omega
 have x:=mL wV (show 0<=2*mu-pi by omega)
 have e1:(2*mu-pi)*V=2* (mu*V)-pi*V:=by grind
 have e2:mu*V=32* (mu* (n-2))+96*mu:=by rw[hV];grind
 have s:1073741824*L 0+2* (l 0*L 1+l 1*L 2+l 2*L 3)-pi*V-1073741824*sE La pi c<=1073741824* (g*L' 0):=s
 omega
theorem tx (hg:g=1\/g=-1) (h0:0<=L' 0) (h:0<g*L' 0):g=1:=by
 rcases hg with rfl|rfl
 ·rfl
 ·omega
def gI (f:Int):Int:=if f<644245094 then 5830000 else if f<966367641 then 3050000 else if f<1041529569 then 1660000 else 970000
theorem CI (mv:Mv l L (fun i=>g*L' i) 8388608 930680) (hl:1073741814*1073741814<=nn L) (hL:nn L<=1073741836*1073741836) (h0:0<=L 0) (h1:L 0<=1062500000) (hb:∀i,i<3->Bt 4194304 (l i) (aB L i)) {f:Int} (hf:f<=L 0):f+gI f<=g*L' 0:=by
 have fin:=fun c w G (hc:L 0<=c) (a:0<=w) (b:w*w+c*c<=1073741814*1073741814) (d:1073741824* (G+sE 8388608 930680 c+10)<=(2*4194304-930680)*w)=>Cy (c:=c) (w:=w) (G:=G) mv hl hL h0 h1 hb da da da hc a b d
 have last:=fin 1062500000 154900000 970000 h1 da da da
 unfold gI
 split
 ·by_cases c:L 0<=651000000
  ·have:=fin 651000000 853800000 5830000 c da da (by decide+kernel);omega
  ·omega
 split
 ·by_cases c:L 0<=970000000
  ·have:=fin 970000000 460400000 3050000 c da da (by decide+kernel);omega
  ·omega
 split
 ·by_cases c:L 0<=1043500000
  ·have:=fin 1043500000 252900000 1660000 c da da (by decide+kernel);omega
  ·omega
 omega
end
section
open Go.RowKit PM Dt
structure Ck (tau fr D W:Int):Prop where
 f:(0<=W/\D=262144*tau)\/(W<=0/\D=-(262144*tau))\/(-fr<=W/\W<=fr)
 w:(0<=W/\-W<=D/\D<=W)\/(W<=0/\W<=D/\D<=-W)
 o:(0<=W/\(W<=D\/262144*tau-826432<=D)/\D<=262144*tau+826432)\/(W<=0/\(D<=W\/D<=-(262144*tau)+826432)/\-(262144*tau)-826432<=D)
variable{tau fr fr' dl D W W':Int}
theorem Ck.neg (h:Ck tau fr D W):Ck tau fr (-D) (-W):=⟨by have:=h.f;omega,by have:=h.w;omega,by have:=h.o;omega⟩
theorem zu (x:Int):aI (-x) (-262144) 262144=-aI x (-262144) 262144:=by unfold aI;(repeat' split)<;>omega
theorem lO (x:Int):(262144<=x/\aI x (-262144) 262144=262144)\/(-262144<=x/\x<=262144/\aI x (-262144) 262144=x)\/(x<=-262144/\aI x (-262144) 262144=-262144):=by unfold aI;split<;>split<;>omega
theorem Ck.pos (h:Ck tau fr D W) (hw:0<=W') (hd:-dl<=W'-W/\W'-W<=dl) (d0:0<=dl) (d1:dl<=40000) (t0:-3<=tau) (hf:fr+dl<=fr') (hf2:262144* (tau+1)<=fr') (hf3:dl<=fr'):
 Ck (tau+1) fr' (D+aI (W'-D) (-262144) 262144) W':=by
 obtain⟨f,w,o⟩:=h
 have c:=lO (W'-D)
 generalize aI (W'-D) (-262144) 262144=s at *
 by_cases hW:0<=W
 ·have w:-W<=D/\D<=W:=oa
  have o:(W<=D\/262144*tau-826432<=D)/\D<=262144*tau+826432\/W=0:=oa
  have f:D=262144*tau\/(-fr<=W/\W<=fr)\/W=0:=oa
  refine⟨?_,.inl ?_,.inl ?_⟩
  ·omega
  ·omega
  ·omega
 ·have w:W<=D/\D<=-W:=oa
  refine⟨?_,.inl ?_,.inl ?_⟩
  ·omega
  ·omega
  ·omega
theorem Ck.step (h:Ck tau fr D W) (hd:-dl<=W'-W/\W'-W<=dl) (d0:0<=dl) (d1:dl<=40000) (t0:-3<=tau) (hf:fr+dl<=fr') (hf2:262144* (tau+1)<=fr') (hf3:dl<=fr'):
 Ck (tau+1) fr' (D+aI (W'-D) (-262144) 262144) W':=by
 by_cases hw:0<=W'
 ·exact h.pos hw hd d0 d1 t0 hf hf2 hf3
 ·have a:=h.neg.pos (W':=-W') oa oa d0 d1 t0 hf hf2 hf3
  have e:-W'- -D=-(W'-D):=oa
  rw[e,zu]at a
  have b:=a.neg
  have e2:-(-D+-aI (W'-D) (-262144) 262144)=D+aI (W'-D) (-262144) 262144:=oa
  rw[e2,Int.neg_neg]at b
  exact b
theorem Ck.flip (h:Ck tau fr D W) (t0:-3<=tau) (t1:tau<=3):Ck (-tau) fr D (-W):=by
 obtain⟨f,w,o⟩:=h
 exact⟨oa,oa,oa⟩
end
section
open Go.RowKit PM Dt
variable{tau fr:Int} {D L:Nat->Int}
theorem B7 (hl:1073741814*1073741814<=nn L) (hL:nn L<=1073741836*1073741836) (h0:0<=L 0) (h1:L 0<=95000000):∃n:Int,33420000<=n/\n<=33554600/\vv (bH L)<=n*n/\(n-1)* (n-1)<vv (bH L)/\∀i,i<3->∃r,n*aB L i=4194304*bH L i-r/\-n<=r/\r<=n:=by
 obtain⟨n,_,n0,na,nb,hw⟩:=dW (gY hL).1
 have nf:=pC (N:=33420000) hl h0 h1 da da n0 na
 have nb:=nb oa
 refine⟨n,nf,?_,na,nb,fun i hi=>?_⟩
 ·apply bC;intro hc
  have a:=bW (show(0:Int)<=33554600 by decide) (show 33554600<=n-1 by omega)
  have b:vv (fun i=>32*bH L i)<=(1073741836+32)* (1073741836+32):=cE da da (ey hL) (dI (B:=16) (x:=fun i=>32*bH L i-L (i+1)) da fun i hi=>by unfold bH;omega) fun i hi=>by
   show 32*bH L i=L (i+1)+(32*bH L i-L (i+1));omega
  have c:=ef 32 (bH L)
  omega
 ·rcases hw with⟨a,_⟩|⟨_,r,hr⟩
  ·omega
  ·exact⟨r i,hr i hi⟩
theorem Ck.bt {d w mu:Int} (h:Ck tau fr d w) (hm:mu+826432<=262144*tau) (h0:0<=mu):Bt mu d w:=by
 obtain⟨f,w,o⟩:=h
 unfold Bt;omega
theorem C5 {mu:Int} {m:Nat->Int} (hl:1073741814*1073741814<=nn L) (hL:nn L<=1073741836*1073741836) (h0:0<=L 0) (h1:L 0<=95000000) (hm:∀i,i<3->Bt mu (m i) (aB L i)) (m0:4<=mu) (m1:mu<=4194304):33419998* (32*mu-128)-256<=m 0*L 1+m 1*L 2+m 2*L 3:=by
 obtain⟨n,n0,na,nb,_,hs,_⟩:=Fi hL hm oa m1
 have nf:=pC (N:=33420000) hl h0 h1 da da n0 na
 have hs:=hs oa
 have a:=mR (show 33419998<=n-2 by omega) (show 0<=32*mu-128 by omega)
 have e:(n-2)* (32*mu-128)=32* (mu* (n-2))-128*n+256:=by grind
 omega
theorem Jt {f:Nat->Int} {n:Int} (hn:33420000<=n) (h:(n-1)* (n-1)<vv f):∃i,i<3/\(19290000<=f i\/f i<=-19290000):=by
 obtain⟨i,hi,h⟩:=CZ (f:=f) (B:=19289999) da (by
  have:=bW (show(0:Int)<=33419999 by decide) (show 33419999<=n-1 by omega)
  omega)
 exact⟨i,hi,oa⟩
theorem Lh (hl:1073741814*1073741814<=nn L) (hL:nn L<=1073741836*1073741836) (h0:0<=L 0) (h1:L 0<=95000000) (hk:∀i,i<3->Ck tau fr (D i) (aB L i)) (ht:4<=tau):
 237000000000000<=D 0*L 1+D 1*L 2+D 2*L 3/\(5<=tau->517900000000000<=D 0*L 1+D 1*L 2+D 2*L 3)/\(fr<=2359296->720000000000000<=D 0*L 1+D 1*L 2+D 2*L 3):=by
 have bt:∀i,i<3->Bt 222144 (D i) (aB L i):=fun i hi=>(hk i hi).bt oa da
 have tK:∀m:Nat->Int,(∀i,i<3->Bt 222144 (m i) (aB L i))->237000000000000<=m 0*L 1+m 1*L 2+m 2*L 3:=fun m hm=>by
  have:=C5 hl hL h0 h1 hm da da
  omega
 refine⟨tK D bt,fun h5=>by have:=C5 hl hL h0 h1 (fun i hi=>(hk i hi).bt (mu:=484288) oa da) da da;omega,fun hf=>?_⟩
 obtain⟨n,n1,n2,na,nb,hw⟩:=B7 hl hL h0 h1
 obtain⟨i,hi,hb⟩:=Jt n1 nb
 obtain⟨r,r1,r2,r3⟩:=hw i hi
 have q:32*bH L i-L (i+1)<=16/\-16<=32*bH L i-L (i+1):=by unfold bH;omega
 obtain⟨f,w,o⟩:=hk i hi
 have big:(2359297<=aB L i/\617000000<=L (i+1))\/(aB L i<=-2359297/\L (i+1)<=-617000000):=by
  rcases hb with hb|hb
  ·refine .inl ⟨?_,oa⟩
   apply bC;intro hc
   have:=mL (show aB L i<=2359296 by omega) (show 0<=n by omega)
   omega
  ·refine .inr ⟨?_,oa⟩
   apply bC;intro hc
   have:=mL (show-2359296<=aB L i by omega) (show 0<=n by omega)
   omega
 obtain⟨s,hs⟩:∃s:Int,s=if 0<=aB L i then 786432 else-786432:=⟨_,rfl⟩
 have lm:=tK (fun j=>if j=i then D j-s else D j) fun j hj=>by
  by_cases e:j=i
  ·subst e
   show Bt 222144 (if j=j then D j-s else D j) (aB L j)
   rw[if_pos rfl]
   unfold Bt
   rw[hs]
   split<;>omega
  ·show Bt 222144 (if j=i then D j-s else D j) (aB L j)
   rw[if_neg e];exact bt j hj
 have sl:485000000000000<=s*L (i+1):=by
  rw[hs]
  split<;>omega
 have sum:∀x y:Int,(x-s)*y=x*y-s*y:=fun x y=>by grind
 rcases(show i=0\/i=1\/i=2 by omega)with rfl|rfl|rfl
 ·have lm:237000000000000<=(D 0-s)*L 1+D 1*L 2+D 2*L 3:=lm
  rw[sum]at lm
  have sl:485000000000000<=s*L 1:=sl
  omega
 ·have lm:237000000000000<=D 0*L 1+(D 1-s)*L 2+D 2*L 3:=lm
  rw[sum]at lm
  have sl:485000000000000<=s*L 2:=sl
  omega
 ·have lm:237000000000000<=D 0*L 1+D 1*L 2+(D 2-s)*L 3:=lm
  rw[sum]at lm
  have sl:485000000000000<=s*L 3:=sl
  omega
theorem zB {La pi g s:Int} {l L':Nat->Int} (mv:Mv l L (fun i=>g*L' i) La pi) (hL:nn L<=1073741836*1073741836) (hg:g=1\/g=-1) (h0:0<=L 0) (h1:L 0<=95000000) (h0':0<=L' 0) (hs:s<=l 0*L 1+l 1*L 2+l 2*L 3) (hp:1073741824* (pi+sE La pi 95000000)+12*pi<2*s):g=1:=by
 have a:=mv.s 1073741836 95000000 da (ey hL) da h1
 refine tx hg h0' ?_
 have a:1073741824*L 0+2* (l 0*L 1+l 1*L 2+l 2*L 3)-pi*1073741836-1073741824*sE La pi 95000000<=1073741824* (g*L' 0):=a
 omega
end
end Go.Proofs.YtbhahonkhiiilaaGreat
