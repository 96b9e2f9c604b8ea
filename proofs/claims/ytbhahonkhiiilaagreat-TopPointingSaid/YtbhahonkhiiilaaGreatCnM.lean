/-
  Where the sign is not known: behind a change of it, what the command gains. No program in sight.
-/
import Derived.Test.YtbhahonkhiiilaaGreatCnG
set_option linter.unusedSimpArgs false
set_option linter.unusedVariables false
namespace Go.Proofs.YtbhahonkhiiilaaGreat
section
open Go.RowKit PM Dt
structure Gs (w s:Int):Prop where
 z:0<=w
 b:1875008<=w->s=262144
 l:-24000<=s
 m:1612864<=w->0<=s
variable{a b c p q r:Int}
theorem Jf (h:Gs a p) (ha:a<=1612864):-(24000*1612864)<=p*a:=by
 have:=mR h.l h.z
 omega
theorem xo (h:Gs a p) (k:Gs b q) (j:Gs c r) (hb:b<1875008) (hc:c<1875008) (hA:17592000000000<=a*a+b*b+c*c):845000000000<=p*a+q*b+r*c:=by
 have a0:=h.z
 have b0:=k.z
 have c0:=j.z
 have main:∀A B C:Int,b<=B->c<=C->0<=A->1875008<=A->A*A+B*B+C*C<=17592000000000->A<=a:=fun A B C h1 h2 h3 h4 h5=>by
  apply bC;intro hx
  have:=mM h1 h1 b0 oa
  have:=mM h2 h2 c0 oa
  have:=mM (show a<=A-1 by omega) (show a<=A-1 by omega) a0 oa
  have e:(A-1)* (A-1)=A*A-2*A+1:=by grind
  omega
 have fin:1875008<=a->p*a=262144*a:=fun h1=>by rw[h.b h1]
 by_cases x:b<=1612864
 ·have qb:=Jf k x
  by_cases y:c<=1612864
  ·have rc:=Jf j y
   have m:=main 3519000 1612864 1612864 x y da da da
   have:=fin oa
   omega
  ·have rc:=mN (j.m oa) c0
   have m:=main 3387000 1612864 1875008 x oa da da da
   have:=fin oa
   omega
 ·have qb:=mN (k.m oa) b0
  by_cases y:c<=1612864
  ·have rc:=Jf j y
   have m:=main 3387000 1875008 1612864 oa y da da da
   have:=fin oa
   omega
  ·have rc:=mN (j.m oa) c0
   have m:=main 3249000 1875008 1875008 oa oa da da da
   have:=fin oa
   omega
theorem mQ (h:Gs a p) (ha:1875008<=a):491000000000<=p*a:=by rw[h.b ha];omega
theorem xj (h:Gs a p):-(24000*1875008)<=p*a:=by
 by_cases x:1875008<=a
 ·have:=mQ h x;omega
 ·have:=mR h.l h.z;omega
theorem CQ (h:Gs a p) (k:Gs b q) (j:Gs c r) (hA:17592000000000<=a*a+b*b+c*c):845000000000<=p*a+q*b+r*c:=by
 have x1:=xj h
 have x2:=xj k
 have x3:=xj j
 by_cases y1:1875008<=a
 ·have z1:=mQ h y1
  by_cases y2:1875008<=b
  ·have:=mQ k y2;omega
  ·by_cases y3:1875008<=c
   ·have:=mQ j y3;omega
   ·exact xo h k j oa oa hA
 ·by_cases y2:1875008<=b
  ·by_cases y3:1875008<=c
   ·have:=mQ k y2;have:=mQ j y3;omega
   ·have:=xo k h j oa oa oa;omega
  ·have:=xo j h k oa oa oa;omega
theorem AB {D L:Nat->Int} (hl:1073741814*1073741814<=nn L) (hL:nn L<=1073741836*1073741836) (h0:0<=L 0) (h1:L 0<=95000000) (hd:∀i,i<3->-1612864<=D i/\D i<=1612864)
 (hw:∀i,i<3->(0<=aB L i->D i<=aB L i+24000)/\(aB L i<=0->aB L i-24000<=D i)):
 D 0*L 1+D 1*L 2+D 2*L 3+215300000000000<=cS D (aB L) 0*L 1+cS D (aB L) 1*L 2+cS D (aB L) 2*L 3:=by
 obtain⟨n,n1,n2,na,nb,hn⟩:=B7 hl hL h0 h1
 have key:∀i,i<3->∃w s:Int,Gs w s/\(w=aB L i\/w=-aB L i)/\32* (n* (s*w))-262144* (32*n+16*4194304)<=4194304* (cS D (aB L) i*L (i+1)-D i*L (i+1)):=fun i hi=>by
  obtain⟨r,r1,r2,r3⟩:=hn i hi
  have q:L (i+1)-32*bH L i<=16/\-16<=L (i+1)-32*bH L i:=by unfold bH;omega
  have d:=hd i hi
  have w:=hw i hi
  have c:=lO (aB L i-D i)
  obtain⟨s,hs⟩:∃s,s=aI (aB L i-D i) (-262144) 262144:=⟨_,rfl⟩
  have e:cS D (aB L) i*L (i+1)-D i*L (i+1)=s*L (i+1):=by
   have:cS D (aB L) i=D i+s:=by rw[hs];rfl
   rw[this];grind
  rw[e]
  rw[<-hs]at c
  have e2:4194304* (s*L (i+1))=32* (n* (s*aB L i))+s* (32*r+4194304* (L (i+1)-32*bH L i)):=by
   have:4194304*L (i+1)=32* (n*aB L i)+(32*r+4194304* (L (i+1)-32*bH L i)):=oa
   have x:4194304* (s*L (i+1))=s* (4194304*L (i+1)):=by grind
   rw[x,this];grind
  have b:=(bR (P:=262144) (R:=32*n+16*4194304) (a:=s) (b:=32*r+4194304* (L (i+1)-32*bH L i)) oa oa oa oa).1
  by_cases hp:0<=aB L i
  ·exact⟨aB L i,s,⟨hp,fun _=>by omega,oa,fun _=>by omega⟩,.inl rfl,oa⟩
  ·have e3:-s*-aB L i=s*aB L i:=by grind
   exact⟨-aB L i,-s,⟨oa,fun _=>by omega,oa,fun _=>by omega⟩,.inr rfl,by rw[e3];omega⟩
 obtain⟨a,p,g1,s1,k1⟩:=key 0 oa
 obtain⟨b,q,g2,s2,k2⟩:=key 1 oa
 obtain⟨c,r,g3,s3,k3⟩:=key 2 oa
 have sq:∀{x y:Int},(x=y\/x=-y)->x*x=y*y:=fun h=>by rcases h with rfl|rfl<;>grind
 have A:17592000000000<=a*a+b*b+c*c:=by
  rw[sq s1,sq s2,sq s3]
  apply bC;intro hc
  have x:vv (fun i=>n*aB L i)<=(n*4194282)* (n*4194282):=by
   have e:=ef n (aB L)
   have e2:n*4194282* (n*4194282)=n*n* (4194282*4194282):=by grind
   rw[e,e2]
   exact mL (by unfold vv;omega) (av n)
  have y:=cE (z:=fun i=>4194304*bH L i) (y:=fun i=>4194304*bH L i-n*aB L i) (mN oa da) (show 0<=2*n by omega) x (dI oa fun i hi=>by
   obtain⟨r,r1,r2,r3⟩:=hn i hi
   show-n<=4194304*bH L i-n*aB L i/\4194304*bH L i-n*aB L i<=n
   omega) fun i hi=>by show 4194304*bH L i=n*aB L i+(4194304*bH L i-n*aB L i);omega
  have z:=ef 4194304 (bH L)
  have u:=bW (show 0<=n*4194282+2*n by omega) (show n*4194282+2*n<=4194304* (n-1) by omega)
  have v:4194304* (n-1)* (4194304* (n-1))=4194304*4194304* ((n-1)* (n-1)):=by grind
  omega
 have t:=CQ g1 g2 g3 A
 have m:=mL t (show 0<=n by omega)
 have e:n* (p*a+q*b+r*c)=n* (p*a)+n* (q*b)+n* (r*c):=by grind
 have k1:32* (n* (p*a))-262144* (32*n+16*4194304)<=4194304* (cS D (aB L) 0*L 1-D 0*L 1):=k1
 have k2:32* (n* (q*b))-262144* (32*n+16*4194304)<=4194304* (cS D (aB L) 1*L 2-D 1*L 2):=k2
 have k3:32* (n* (r*c))-262144* (32*n+16*4194304)<=4194304* (cS D (aB L) 2*L 3-D 2*L 3):=k3
 omega
end
section
open Go.RowKit PM Dt
variable{L Y:Nat->Int}
theorem y_ {f:Nat->Int} {m:Int} (h:oD f m):oD (fun i=>-f i) m:=⟨(bK _).2 fun i hi=>(bE _).2 (by have:=(bE _).1 ((bK _).1 h.1 i hi);omega),h.2⟩
theorem yE (f:Nat->Int):gJ (fun i=>-f i)=gJ f:=by
 have:om (fun i=>-f i)=om f:=by
  have a:=xq f
  have b:=xq fun i=>-f i
  rw[jS f]at b
  omega
 unfold gJ jJ
 rw[this]
theorem Ft (a:Int) (m n:Nat):jh (-a) m n=-jh a m n:=by
 unfold jh
 by_cases z:a=0
 ·subst z;simp
 ·rw[Int.natAbs_neg]
  split<;>split<;>omega
theorem EV {f:Nat->Int} {m:Int} (h:oD f m) (i:Nat):ca (fun i=>-f i) m i=-ca f m i:=by
 unfold ca
 rw[if_pos h,if_pos (y_ h),yE]
 by_cases c:(gJ f:Int)<=m
 ·rw[if_pos c,if_pos c]
 ·rw[if_neg c,if_neg c]
  unfold lk
  rw[yE]
  exact Ft _ _ _
theorem EX {Z c N:Int} (hN0:4194304<N) (hN1:N<=40000000) (hN:(32*N+32)* (32*N+32)+c*c<1073741814*1073741814) (hl:1073741814*1073741814<=nn L) (hL:nn L<=1073741836*1073741836) (h0:0<=L 0) (h1:L 0<=c) (hl':1073741814*1073741814<=nn Y) (hY:nn Y<=1073741836*1073741836) (h0':0<=Y 0) (h1':Y 0<=c) (hZ:0<=Z)
 (h:vv (fun i=>Y (i+1)+L (i+1))<=Z*Z):∀i,i<3->-(4194304* ((Z+64)/32+6))<=N* (aB Y i- -aB L i)+2* (N+4194304)/\N* (aB Y i- -aB L i)<=4194304* ((Z+64)/32+6)+2* (N+4194304):=fun i hi=>by
 obtain⟨n,en,n0,na,_⟩:=dW (gY hL).1
 obtain⟨m,em,m0,ma,_⟩:=dW (gY hY).1
 have nb:=pC hl h0 h1 oa hN n0 na
 have mb:=pC hl' h0' h1' oa hN m0 ma
 have oL:oD (bH L) N:=⟨(gY hL).1.1,oa,oa⟩
 have oY:oD (bH Y) N:=⟨(gY hY).1.1,oa,oa⟩
 have b:=dI (B:=32) (x:=fun i=>32* (bH Y i- -bH L i)-(Y (i+1)+L (i+1))) da fun i hi=>by unfold bH;omega
 have t:=cE (z:=fun i=>32* (bH Y i- -bH L i)) hZ da h b fun i hi=>by
  show 32* (bH Y i- -bH L i)=(Y (i+1)+L (i+1))+(32* (bH Y i- -bH L i)-(Y (i+1)+L (i+1)));omega
 have q:=cF (v:=fun i=>bH Y i- -bH L i) (N:=32) (Y:=(Z+64)/32+1) da oa t oa
 have t:=o7 oY (y_ oL) oa oa q
 have c:=bY (v:=fun i=>ca (bH Y) N i-ca (fun i=>-bH L i) N i) oa t hi
 have c:-((Z+64)/32+1+5)<=ca (bH Y) N i-ca (fun i=>-bH L i) N i/\ca (bH Y) N i-ca (fun i=>-bH L i) N i<=(Z+64)/32+1+5:=c
 rw[EV oL i]at c
 have a:=oq (gY hL).1 oL da hN0 en nb hi
 have b:=oq (gY hY).1 oY da hN0 em mb hi
 have e1:aB Y i=ca (bH Y) 4194304 i:=rfl
 have e2:aB L i=ca (bH L) 4194304 i:=rfl
 rw[e1,e2]
 have e3:N* (ca (bH Y) 4194304 i- -ca (bH L) 4194304 i)=N*ca (bH Y) 4194304 i+N*ca (bH L) 4194304 i:=by grind
 rw[e3]
 omega
end
section
open Go.RowKit PM Dt
def qA (Z:Int):Int:=(4194304* ((Z+64)/32+6)+75228608)/33420000+1
structure tL (tau fr:Int) (D L:Nat->Int):Prop where
 k:∀i,i<3->Ck tau fr (D i) (aB L i)
 l:L 0<=9800000* (tau+3)
structure Tc (D L L':Nat->Int) (g La pi:Int):Prop where
 hl:1073741814*1073741814<=nn L
 hL:nn L<=1073741836*1073741836
 h0:0<=L 0
 hl':1073741814*1073741814<=nn L'
 hL':nn L'<=1073741836*1073741836
 h0':0<=L' 0
 hg:g=1\/g=-1
 mv:Mv D L (fun i=>g*L' i) La pi
 La0:0<=La
 pi0:0<=pi
variable{tau fr fr' La pi g:Int} {D L L':Nat->Int}
theorem tL.near (h:tL tau fr D L) (t1:tau<=5) (tc:Tc D L L' g La pi) (hZ:La+pi+2040<=9800000):L' 0<=95000000/\(-(La+pi+2040)<=g*L' 0-L 0/\g*L' 0-L 0<=La+pi+2040)/\∀i,i<3->-qA (La+pi+2040)<=aB L' i-g*aB L i/\aB L' i-g*aB L i<=qA (La+pi+2040):=by
 obtain⟨hl,hL,h0,hl',hL',h0',hg,mv,La0,pi0⟩:=tc
 have l:=h.l
 have m:=mv.m
 have m0:=cK (show 0<=La+pi+2040 by omega) m (show 0<4 by omega)
 have mv3:=ey m
 obtain⟨Z,hZe⟩:∃Z,Z=La+pi+2040:=⟨_,rfl⟩
 rw[<-hZe]at m0 mv3 hZ|-
 have ed:qA Z=(4194304* ((Z+64)/32+6)+75228608)/33420000+1:=rfl
 rw[ed]
 rcases hg with rfl|rfl
 ·have m0:-Z<=1*L' 0-L 0/\1*L' 0-L 0<=Z:=m0
  have mv3:vv (fun i=>L' (i+1)-L (i+1))<=Z*Z:=by
   have e:vv (qw fun i=>1*L' i-L i)=vv (fun i=>L' (i+1)-L (i+1)):=by unfold vv qw;grind
   rw[<-e];exact mv3
  refine⟨oa,m0,fun i hi=>?_⟩
  have p:=nI (c:=95000000) (N:=33420000) da da da hl hL h0 oa hl' hL' h0' oa oa mv3 i hi
  omega
 ·have m0:-Z<=-1*L' 0-L 0/\-1*L' 0-L 0<=Z:=m0
  have mv3:vv (fun i=>L' (i+1)+L (i+1))<=Z*Z:=by
   have e:vv (qw fun i=>-1*L' i-L i)=vv (fun i=>L' (i+1)+L (i+1)):=by unfold vv qw;grind
   rw[<-e];exact mv3
  refine⟨oa,m0,fun i hi=>?_⟩
  have p:=EX (c:=95000000) (N:=33420000) da da da hl hL h0 oa hl' hL' h0' oa oa mv3 i hi
  omega
theorem tL.step (h:tL tau fr D L) (t0:-2<=tau) (t1:tau<=5) (tc:Tc D L L' g La pi) (hZ:La+pi+2040<=9800000) (hd:qA (La+pi+2040)<=40000) (hf:fr+qA (La+pi+2040)<=fr') (hf2:g=1->262144* (tau+1)<=fr') (hf3:786432<=fr)
 (hn:4<=tau->(fr<=2359296/\1073741824* (pi+sE La pi 95000000)+12*pi<1440000000000000)\/1073741824* (pi+sE La pi 95000000)+12*pi<474000000000000\/(5<=tau/\1073741824* (pi+sE La pi 95000000)+12*pi<1035800000000000)):
 (g=1/\tL (tau+1) fr' (cS D (aB L')) L')\/(g=-1/\tau<=3/\tL (1-tau) fr' (cS D (aB L')) L'):=by
 obtain⟨u,m0,w⟩:=h.near t1 tc hZ
 obtain⟨hl,hL,h0,hl',hL',h0',hg,mv,La0,pi0⟩:=tc
 have l:=h.l
 have d0:0<=qA (La+pi+2040):=by unfold qA;omega
 rcases hg with rfl|rfl
 ·exact .inl ⟨rfl,fun i hi=>(h.k i hi).step (dl:=qA (La+pi+2040)) (by have:=w i hi;omega) d0 hd oa hf (hf2 rfl) oa,oa⟩
 ·by_cases c:4<=tau
  ·exfalso
   obtain⟨s1,s3,s2⟩:=Lh hl hL h0 oa h.k c
   have:(-1:Int)=1:=by
    rcases hn c with⟨q1,q2⟩|q|⟨q1,q2⟩
    ·exact zB mv hL (.inr rfl) h0 oa h0' (s2 q1) oa
    ·exact zB mv hL (.inr rfl) h0 oa h0' s1 oa
    ·exact zB mv hL (.inr rfl) h0 oa h0' (s3 q1) oa
   omega
  ·refine .inr ⟨rfl,oa,fun i hi=>?_,oa⟩
   have q:=((h.k i hi).flip oa oa).step (W':=aB L' i) (fr':=fr') (dl:=qA (La+pi+2040)) (by have:=w i hi;omega) d0 hd oa hf oa oa
   rw[show(1:Int)-tau=-tau+1 by omega]
   exact q
theorem tL.back {d:Int} (h:tL tau fr D L) (t0:-2<=tau) (t1:tau<=3) (tc:Tc D L L' g La pi) (hZ:La+pi+2040<=9800000) (hd:qA (La+pi+2040)<=24000) (d0:0<=d) (hD:vv D<=d*d):
 g* (D 0*L 1+D 1*L 2+D 2*L 3)-d* (La+pi+2040)+215300000000000<=cS D (aB L') 0*L' 1+cS D (aB L') 1*L' 2+cS D (aB L') 2*L' 3:=by
 obtain⟨u,_,w⟩:=h.near oa tc hZ
 obtain⟨hl,hL,h0,hl',hL',h0',hg,mv,La0,pi0⟩:=tc
 have b:=AB (D:=D) hl' hL' h0' u (fun i hi=>by
  obtain⟨f,w,o⟩:=h.k i hi
  omega) fun i hi=>by
  obtain⟨f,x,o⟩:=h.k i hi
  have w:=w i hi
  rcases hg with rfl|rfl<;>omega
 have m:=FZ (y:=qw fun i=>g*L' i-L i) d0 (show 0<=La+pi+2040 by omega) hD (ey mv.m)
 have m:-(d* (La+pi+2040))<=D 0* (g*L' 1-L 1)+D 1* (g*L' 2-L 2)+D 2* (g*L' 3-L 3)/\D 0* (g*L' 1-L 1)+D 1* (g*L' 2-L 2)+D 2* (g*L' 3-L 3)<=d* (La+pi+2040):=m
 have gg:=lh hg
 have e:D 0*L' 1+D 1*L' 2+D 2*L' 3=g* (D 0*L 1+D 1*L 2+D 2*L 3)+g* (D 0* (g*L' 1-L 1)+D 1* (g*L' 2-L 2)+D 2* (g*L' 3-L 3)):=by
  have:g* (D 0*L 1+D 1*L 2+D 2*L 3)+g* (D 0* (g*L' 1-L 1)+D 1* (g*L' 2-L 2)+D 2* (g*L' 3-L 3))=g*g* (D 0*L' 1+D 1*L' 2+D 2*L' 3):=by grind
  rw[this,gg];omega
 generalize D 0* (g*L' 1-L 1)+D 1* (g*L' 2-L 2)+D 2* (g*L' 3-L 3)=z at *
 generalize d* (La+pi+2040)=dz at *
 rcases hg with rfl|rfl<;>omega
end
section
open Go.RowKit PM Dt
variable{k j tau fr fr' La pi g:Int} {D L L':Nat->Int}
def Up (k:Int) (D:Nat->Int):Prop:=∀i,i<3->-(262144*k)<=D i/\D i<=262144*k
theorem Fo.bt {W:Nat->Int} (h:Fo k 0 D W) (hk:0<=k) (i:Nat) (hi:i<3):Bt (262144*k) (D i) (W i):=by
 have:=h i hi
 unfold Bt;omega
theorem Tc.m0 (tc:Tc D L L' g La pi):-(La+pi+2040)<=g*L' 0-L 0/\g*L' 0-L 0<=La+pi+2040:=by
 have:=tc.La0
 have:=tc.pi0
 exact cK (show 0<=La+pi+2040 by omega) tc.mv.m (show 0<4 by omega)
theorem Tc.keep (tc:Tc D L L' g La pi) (hk:1<=k) (fo:Fo k 0 D (aB L)) (hZ:La+pi+2040<=94000000) (k4:k<=16) (hp:1073741824* (pi+sE La pi 95000000)+12*pi<2* (33419998* (8388608*k-128)-256)):g=1:=by
 have m:=tc.m0
 by_cases c:L 0<=95000000
 ·have s:=C5 tc.hl tc.hL tc.h0 c (fo.bt oa) oa oa
  refine zB tc.mv tc.hL tc.hg tc.h0 c tc.h0' s ?_
  have e:32* (262144*k)=8388608*k:=oa
  rw[e];exact hp
 ·exact tx tc.hg tc.h0' oa
theorem Tc.same (tc:Tc D L L' 1 La pi):vv (fun i=>L' (i+1)-L (i+1))<=(La+pi+2040)* (La+pi+2040):=by
 have m:=ey tc.mv.m
 have e:vv (qw fun i=>1*L' i-L i)=vv (fun i=>L' (i+1)-L (i+1)):=by unfold vv qw;grind
 rw[<-e];exact m
theorem Tc.run (tc:Tc D L L' 1 La pi) (fo:Fo k 0 D (aB L)) (hd:(La+pi+2040+64)/32+6<=262144):Fo (k+1) 0 (cS D (aB L')) (aB L'):=by
 have:=tc.La0
 have:=tc.pi0
 exact fo.step (s9 tc.hL tc.hL' oa tc.same) da da oa
theorem Tc.runF (tc:Tc D L L' 1 La pi) (fo:Fo k 0 D (aB L)) (h1:L 0<=1062500000) (h2:L' 0<=1062500000) (hd:4194304* ((La+pi+2040+64)/32+6)+18100000<=1265000000000):Fo (k+1) 0 (cS D (aB L')) (aB L'):=by
 have:=tc.La0
 have:=tc.pi0
 have p:=nI (c:=1062500000) (N:=4833000) da da da tc.hl tc.hL tc.h0 h1 tc.hl' tc.hL' tc.h0' h2 (show 0<=La+pi+2040 by omega) tc.same
 exact fo.step (de:=262144) (fun i hi=>by have:=p i hi;omega) da da da
theorem tL.first (tc:Tc D L L' (-1) La pi) (fo:Fo k 0 D (aB L)) (up:Up k D) (hk:1<=k) (k3:k<=3) (hZ:La+pi+2040<=9800000):tL k 786432 D L:=by
 have m:=tc.m0
 have h0':=tc.h0'
 refine⟨fun i hi=>?_,oa⟩
 have a:=fo i hi
 have b:=up i hi
 exact⟨oa,oa,oa⟩
theorem GT:∀j:Nat,j<8->(mF j+nC j+2040+64)/32+6<=262144/\mF j+nC j+2040<=9800000/\(3<=j->1073741824* (nC j+sE (mF j) (nC j) 95000000)+12*nC j<2* (33419998* (8388608* ((j:Int)+1)-128)-256)):=by decide+kernel
theorem F5 {j:Nat} (hj:j<8) (tc:Tc D L L' g (mF j) (nC j)) (fo:Fo (j+1) 0 D (aB L)) (up:Up (j+1) D):
 (g=1/\Fo (j+2) 0 (cS D (aB L')) (aB L')/\Up (j+2) (cS D (aB L')))\/(g=-1/\j<3/\tL (j+1) 786432 D L):=by
 obtain⟨n1,n2,n3⟩:=GT j hj
 rcases tc.hg with e|e
 ·subst e
  exact .inl ⟨rfl,by have:=tc.run fo n1;rw[show((j:Int)+2)=j+1+1 by omega];exact this,fun i hi=>by have:=zd (W:=aB L') up i hi;omega⟩
 ·by_cases c:j<3
  ·subst e
   exact .inr ⟨rfl,c,tL.first tc fo up oa oa n2⟩
  ·have:=tc.keep oa fo oa oa (n3 oa)
   omega
end
section
open Go.RowKit PM Dt
variable{j:Nat} {tau La pi g:Int} {D L L':Nat->Int}
def lY (j:Nat) (tau:Int):Int:=(if tau<=3 then 786432 else 262144*tau)+27000*j
theorem kK (j:Nat) (tau:Int):(tau<=3->lY j tau=786432+27000*j)/\(4<=tau->lY j tau=262144*tau+27000*j):=by
 unfold lY;split<;>omega
theorem Bc (h:tL tau (lY j tau) D L) (t0:-2<=tau) (t1:tau<=5) (tc:Tc D L L' g La pi) (hZ:La+pi+2040<=9800000) (hd:qA (La+pi+2040)<=40000) (hd3:tau<=3->qA (La+pi+2040)<=27000)
 (hn:4<=tau->(lY j tau<=2359296/\1073741824* (pi+sE La pi 95000000)+12*pi<1440000000000000)\/1073741824* (pi+sE La pi 95000000)+12*pi<474000000000000\/(5<=tau/\1073741824* (pi+sE La pi 95000000)+12*pi<1035800000000000)):
 (g=1/\tL (tau+1) (lY (j+1) (tau+1)) (cS D (aB L')) L')\/(g=-1/\tau<=3/\tL (1-tau) (lY (j+1) (1-tau)) (cS D (aB L')) L'):=by
 have a:=kK j tau
 have b:=kK (j+1) (tau+1)
 have c:=kK (j+1) (1-tau)
 have ste:=fun fr' hf hf2=>h.step (fr':=fr') t0 t1 tc hZ hd hf hf2 oa hn
 rcases tc.hg with e|e
 ·rcases ste (lY (j+1) (tau+1)) oa oa with x|⟨y,_⟩
  ·exact .inl x
  ·omega
 ·by_cases t3:tau<=3
  ·rcases ste (lY (j+1) (1-tau)) oa oa with⟨y,_⟩|x
   ·omega
   ·exact .inr x
  ·rcases ste (lY (j+1) (tau+1)) oa oa with⟨y,_⟩|⟨_,y,_⟩<;>omega
def oE (j:Nat) (tau:Int):Int:=if tau<=3 then 34642*jF (262144* ((j:Int)+1)) 1612864/10000+1 else 8388608
theorem tL.len {fr:Int} (h:tL tau fr D L) (up:Up (j+1) D) (hL:nn L<=1073741836*1073741836) (t0:-2<=tau):vv (fun i=>2*D i)<=oE j tau*oE j tau:=by
 unfold oE
 split
 ·have m:=iJ (262144* ((j:Int)+1)) 1612864
  have b:=xA (v:=fun i=>2*D i) (c:=2*jF (262144* ((j:Int)+1)) 1612864) oa fun i hi=>by
   obtain⟨f,w,o⟩:=h.k i hi
   have:=up i hi
   omega
  have e:17321* (2*jF (262144* ((j:Int)+1)) 1612864)=34642*jF (262144* ((j:Int)+1)) 1612864:=oa
  rw[e]at b;exact b
 ·have a:=(fE (gY hL).1).2.2
  have s:∀i,i<3->D i*D i<=aB L i*aB L i:=fun i hi=>by
   obtain⟨f,w,o⟩:=h.k i hi
   rcases w with⟨w0,w1,w2⟩|⟨w0,w1,w2⟩
   ·exact(bR w1 w2 w1 w2).2
   ·have:=(bR (P:=-aB L i) (R:=-aB L i) (a:=D i) (b:=D i) oa oa oa oa).2
    have e:-aB L i*-aB L i=aB L i*aB L i:=by grind
    omega
  have s0:=s 0 oa
  have s1:=s 1 oa
  have s2:=s 2 oa
  have e:vv (fun i=>2*D i)=4* (D 0*D 0+D 1*D 1+D 2*D 2):=by unfold vv;grind
  have a:aB L 0*aB L 0+aB L 1*aB L 1+aB L 2*aB L 2<=4194304*4194304:=a
  rw[e];omega
end
section
open Go.RowKit PM Dt
variable{A b B Q p l R:Nat->Int} {x:Bn} {L:Int}
def KN (e L:Int):Int:=17321* ((e+1)/2+(130*L+409600)/32768+2)/10000+1
def r5 (x:Bn) (L:Int):Int:=A7 (17321* (x.step L).o/10000+1)+KN (x.step L).P0 L
theorem jK.tick (M:jK x A b B Q) (hJ:∀i,i<4->bu (Q i)) (hQ:au Q=true) (hB:∀i,i<3->-262144<=B i/\B i<=262144) (ft:x.fit=true) (fo:(x.step L).o<=1560000) (fp:(x.step L).P0<=450000) (st:qr p Q) (L0:0<=L) (L1:L<=66000000) (hl:4*vv l<=L*L)
 (lg:vv (fun i=>65536* (R i-l i))<=(130*L+409600)* (130*L+409600)) (hR2:∀i,i<3->-34603008<=R i/\R i<=34603008) (hJ':∀i,i<4->bu (bJ Q l i)) (hQ':au (bJ Q l)=true):
 jK (x.step L) (dL A b B p R) (b9 A b p) B (bJ Q l)/\mU (r5 x L) A b B Q l R p (dL A b B p R) (bJ Q l):=by
 have hR:=fun i (hi:i<3)=>bY (v:=fun i=>65536* (R i-l i)) oa lg hi
 have M2:=M.step hJ hQ hB ft st L0 L1 hl hR
 have o0:=M2.o0
 refine⟨M2,?_⟩
 obtain⟨h,e1,e2⟩:=oM (e:=(x.step L).P0) (M.F.cor st.I) hB (fun i hi=>(M2.h i hi).a) fp hR2 L0 hR
 have p0:0<=(x.step L).P0:=by have:=(M2.h 0 oa).a;omega
 refine⟨h,KN (x.step L).P0 L,A7 (17321* (x.step L).o/10000+1),by unfold KN;omega,CS oa,(by unfold r5;omega),e1,xA oa e2,fun p' st'=>?_⟩
 have nr:=M2.nr o0
 exact o6 M2.F hJ' hQ' (vU M2.F hJ' hQ' M2.s oa oa nr) oa oa nr st'
end
section
open Go.RowKit PM Dt
def lV (La pi:Int):Int:=1073741824* (pi+sE La pi 95000000)+12*pi
theorem wh:∀j:Nat,j<28->oE j 3+nC j+2040<=9800000/\qA (oE j 3+nC j+2040)<=27000:=by decide+kernel
theorem sL:∀j:Nat,j<28->5<=j->8388608+nC j+2040<=9800000/\qA (8388608+nC j+2040)<=40000/\lV 8388608 (nC j)<1440000000000000/\lY j 5<=2359296:=by decide+kernel
def xC:Nat->Bn
 |0=>ny
 |m+1=>(xC m).step 5587284
def EK (x:Bn) (L:Int):Bool:=x.fit&&(decide ((x.step L).o<=1560000)&&decide ((x.step L).P0<=450000))
theorem Ii:(ny.step 14529909).le ny=true/\EK ny 14529909=true/\r5 ny 14529909<=922651:=by decide+kernel
def Jl (m:Nat) (x:Bn):Bool:=(EK x 5587284&&EK x 8388608)&&((x.le ny&&(x.step 8388608).le ny)&&((decide (r5 x 5587284<=900000)&&decide (r5 x 8388608<=900000))&&(((decide (m<17)||decide (lV 8388608 (r5 x 8388608)<474000000000000))&&decide (lV 8388608 (r5 x 8388608)<1035800000000000))&&(decide (m<66)||decide (r5 x 5587284<=180000)))))
def FN:Nat->Nat->Bn->Bool
 |0,_,_=>true
 |f+1,m,x=>Jl m x&&FN f (m+1) (x.step 5587284)
theorem FU:FN 90 0 ny=true:=by decide+kernel
theorem vp:∀f m k:Nat,FN f m (xC m)=true->k<f->Jl (m+k) (xC (m+k))=true
 |0,_,_,_,h=>oa
 | f +1,m,k,h,hk=>by
   have h:(Jl m (xC m)&&FN f (m+1) (xC (m+1)))=true:=h
   rw[Bool.and_eq_true]at h
   cases k with
   |zero=>exact h.1
   | succ k=>
     have:=vp f (m+1) k h.2 oa
     rw[show m+(k+1)=m+1+k by omega];exact this
theorem y8 (m:Nat) (hm:m<90):Jl m (xC m)=true:=by
 have:=vp 90 0 m FU hm
 rw[Nat.zero_add]at this;exact this
theorem mm {x:Bn} {L:Int}:EK x L=true↔x.fit=true/\(x.step L).o<=1560000/\(x.step L).P0<=450000:=by simp only[EK,Bool.and_eq_true,decide_eq_true_eq]
theorem yB {m:Nat} {x:Bn} (h:Jl m x=true):(EK x 5587284=true/\EK x 8388608=true)/\(x.le ny=true/\(x.step 8388608).le ny=true)/\(r5 x 5587284<=900000/\r5 x 8388608<=900000)/\(m<17\/lV 8388608 (r5 x 8388608)<474000000000000)/\lV 8388608 (r5 x 8388608)<1035800000000000/\(m<66\/r5 x 5587284<=180000):=by
 simp only[Jl,Bool.and_eq_true,Bool.or_eq_true,decide_eq_true_eq]at h
 exact⟨h.1,h.2.1,h.2.2.1,h.2.2.2.1.1,h.2.2.2.1.2,h.2.2.2.2⟩
structure Nb where
 k:Int
 V:Int
 y:Int
 x:Bn
def tR (x:Int):Int:=(30075*x+1620129)/40000+1
def Nb.th (s:Nb) (j:Nat):Int:=Aw (tR (bif decide (j<28)then tJ (tS j) (17321*oC j/10000+1)else 17321*s.x.o/10000+1))
def Nb.ep (s:Nb) (j:Nat):Int:=(s.th j+64)/32+6
def Nb.d (s:Nb) (j:Nat):Int:=jF (17321* (262144*s.k)/10000+1) (jF 4194304 ((s.V+s.th j)/32+2)+yF s.y)
def Nb.pi (s:Nb) (j:Nat):Int:=bif decide (j<28)then nC j else r5 s.x (2*s.d j)
def Nb.step (s:Nb) (j:Nat):Nb:=⟨jF (s.k+1) 17,Jj s.k s.y s.V (s.d j) (s.ep j),tJ 0 (s.y+((2*s.d j+s.pi j+2104)/32+6)-262144),bif decide (j<28)then s.x else s.x.step (2*s.d j)⟩
def Nb.ok (s:Nb) (j:Nat):Bool:=(decide (s.V<=185000000)&&decide (s.y<=2000000))&&((decide (s.ep j<=2000000)&&decide (s.d j<=5500000))&&(decide (s.pi j<=1600000)&&(decide (j<28)||EK s.x (2*s.d j))))
def Nb.le (s t:Nb):Bool:=(decide (t.k<=s.k)&&decide (s.V<=t.V))&&(decide (s.y<=t.y)&&s.x.le t.x)
def k8:Nb:=⟨17,6000,0,⟨305,297,280,250,871⟩⟩
def GF (i:Nat):Nb:=⟨17,[126100000,148700000,156300000].getD i 0,[264000,137000,29200].getD i 0,ny⟩
def Nb.run (z:Nb):Nat->Nat->Nb->Bool
 |0,_,s=>s.le z
 |f+1,j,s=>s.ok j&&Nb.run z f (j+1) (s.step j)
def Ls (j:Nat):Nb:=⟨jF ((j:Int)+1) 17,155000000+Aw (tR (tJ (tS j) (17321*oC j/10000+1))),29200,ny⟩
theorem xI:∀j:Nat,j<28->8<=j->Nb.run (GF (if j<25 then 0 else 1)) (28-j) j (Ls j)=true:=by decide+kernel
theorem rD:∀i:Nat,i<3->Nb.run k8 200 28 (GF i)=true:=by decide+kernel
theorem qp:(k8.step 28).le k8=true/\k8.ok 28=true/\k8.le k8=true:=by decide+kernel
end
section
open Go.RowKit PM Dt
variable{B q A b Q p D R p':Nat->Int} {j:Nat} {pi pi' La tau:Int}
theorem mU.mono {l A' Q':Nat->Int} (h:mU pi A b B Q l R p A' Q') (hp:pi<=pi'):mU pi' A b B Q l R p A' Q':=by
 obtain⟨h,d,c,d0,c0,dc,r⟩:=h
 exact⟨h,d,c,d0,c0,oa,r⟩
structure Wk (B q A b Q p D R p':Nat->Int):Prop where
 hJ:∀i,i<4->bu (Q i)
 hQ:au Q=true
 hB:∀i,i<3->-262144<=B i/\B i<=262144
 st:qr p Q
 lg:∀L:Int,0<=L->L<=66000000->4*vv D<=L*L->vv (fun i=>65536* (R i-D i))<=(130*L+409600)* (130*L+409600)
 hR:∀i,i<3->-34603008<=R i/\R i<=34603008
 hJ':∀i,i<4->bu (bJ Q D i)
 hQ':au (bJ Q D)=true
 st':qr p' (bJ Q D)
 hK:∀i,i<4->bu (q i)
 hq:au q=true
theorem Wk.tc (w:Wk B q A b Q p D R p') (F:FI A b) (F':FI (dL A b B p R) (b9 A b p)) (pt:mU pi A b B Q D R p (dL A b B p R) (bJ Q D)) (p0:0<=pi) (La0:0<=La) (hl:vv (fun i=>2*D i)<=La*La) (h1:La+pi<=12600000) (h2:pi<=3200000):
 ∃g,Tc D (am (aU A p) q) (am (aU (dL A b B p R) p') q) g La pi:=by
 have F2:=F.cor w.st.I
 have F3:=F'.cor w.st'.I
 obtain⟨g,hg,mv⟩:=EW F w.st pt F' w.st' w.hK w.hq La0 hl h1 h2
 obtain⟨a,a'⟩:=fZ F2.i F2.v w.hK w.hq
 obtain⟨c,c'⟩:=fZ F3.i F3.v w.hK w.hq
 exact⟨g,a,a',(dJ F2.i F2.v w.hK w.hq).1,c,c',(dJ F3.i F3.v w.hK w.hq).1,hg,mv,La0,p0⟩
theorem oT (D:Nat->Int):vv (fun i=>2*D i)=4*vv D:=by unfold vv;grind
theorem Iy {D:Nat->Int} {c:Int} (h:∀i,i<3->-c<=D i/\D i<=c):vv D<=3* (c*c):=by
 have a:=fun i hi=>(bR (h i hi).1 (h i hi).2 (h i hi).1 (h i hi).2).2
 have a0:=a 0 oa;have a1:=a 1 oa;have a2:=a 2 oa
 unfold vv;omega
theorem PG.fi (h:PG j A b B Q):FI A b:=by
 rcases h with h|⟨x,h,_⟩
 ·exact h.F
 ·exact h.F
theorem PG.late (h:PG 28 A b B Q):jK ny A b B Q:=by
 rcases h with h|⟨x,M,g⟩
 ·exact absurd h.j oa
 ·exact M.mono g
structure tf (j:Nat) (D:Nat->Int):Prop where
 u:Up (j+1) D
 b:∀i,i<3->-4194304<=D i/\D i<=4194304
theorem tf.sl (h:tf j D) (i:Nat) (hi:i<3):-GE j<=D i/\D i<=GE j:=by
 have a:=h.u i hi;have b:=h.b i hi
 unfold GE jF;split<;>omega
theorem PG.tick (h:PG j A b B Q) (hj:j<28) (w:Wk B q A b Q p D R p') (bx:tf j D):PG (j+1) (dL A b B p R) (b9 A b p) B (bJ Q D)/\mU (nC j) A b B Q D R p (dL A b B p R) (bJ Q D):=by
 obtain⟨n0,n1,n2,_⟩:=x_ j hj
 have v:=Iy bx.sl
 exact h.step hj w.hJ w.hQ w.hB w.st bx.sl (w.lg _ n0 n1 oa) w.hR w.hJ' w.hQ'
theorem jK.box (h:jK ny A b B Q) (w:Wk B q A b Q p D R p') (bx:tf j D):jK ny (dL A b B p R) (b9 A b p) B (bJ Q D)/\mU 922651 A b B Q D R p (dL A b B p R) (bJ Q D):=by
 obtain⟨n0,n1,n2⟩:=Ii
 obtain⟨f1,f2,f3⟩:=mm.1 n1
 have v:=Iy bx.b
 have v2:4*vv D<=14529909*14529909:=oa
 obtain⟨M,P⟩:=h.tick (L:=14529909) w.hJ w.hQ w.hB f1 f2 f3 w.st da da v2 (w.lg _ da da v2) w.hR w.hJ' w.hQ'
 exact⟨M.mono n0,P.mono n2⟩
def Fl (j:Nat) (A b B Q:Nat->Int):Prop:=(j<28/\PG j A b B Q)\/(28<=j/\jK ny A b B Q)
theorem Fl.fi (h:Fl j A b B Q):FI A b:=by
 rcases h with⟨_,h⟩|⟨_,h⟩
 ·exact h.fi
 ·exact h.F
def Ex (j:Nat):Int:=bif decide (j<28)then nC j else 922651
theorem Fl.of (hj:j<28) (h:PG (j+1) A b B Q):Fl (j+1) A b B Q:=by
 by_cases h2:j+1<28
 ·exact .inl ⟨h2,h⟩
 ·have e:j=27:=oa
  subst e
  exact .inr ⟨oa,h.late⟩
theorem Fl.step (h:Fl j A b B Q) (w:Wk B q A b Q p D R p') (bx:tf j D):Fl (j+1) (dL A b B p R) (b9 A b p) B (bJ Q D)/\mU (Ex j) A b B Q D R p (dL A b B p R) (bJ Q D):=by
 rcases h with⟨hj,h⟩|⟨hj,h⟩
 ·have e:Ex j=nC j:=by simp only[Ex,dT hj,cond_true]
  rw[e]
  obtain⟨g,P⟩:=h.tick hj w bx
  exact⟨.of hj g,P⟩
 ·have e:Ex j=922651:=by simp only[Ex,dF (show¬j<28 by omega),cond_false]
  rw[e]
  obtain⟨M,P⟩:=h.box w bx
  exact⟨.inr ⟨oa,M⟩,P⟩
structure Ch (j:Nat) (tau:Int) (A b B Q D L:Nat->Int):Prop where
 a:tL tau (lY j tau) D L
 t0:-2<=tau
 t1:tau<=5
 t2:tau+1<=j
 t3:1<=j+tau
 f:(j<28/\PG j A b B Q)\/(28<=j/\tau<=4/\jK (xC (j-28)) A b B Q)\/(28<=j/\tau=5/\jK ny A b B Q)
 s:j<=tau+96\/(j<=tau+102/\(100000000000000<=D 0*L 1+D 1*L 2+D 2*L 3\/4<=tau))
theorem Ch.fi {L:Nat->Int} (h:Ch j tau A b B Q D L):FI A b:=by
 rcases h.f with⟨_,h⟩|⟨_,_,h⟩|⟨_,_,h⟩
 ·exact h.fi
 ·exact h.F
 ·exact h.F
theorem Cu (j:Nat) (tau:Int):(tau<=3->oE j tau=oE j 3)/\(4<=tau->oE j tau=8388608)/\(28<=j->oE j 3=5587284):=by
 refine⟨fun h=>?_,fun h=>?_,fun h=>?_⟩
 ·simp only[oE,if_pos h,if_pos (show(3:Int)<=3 by decide)]
 ·simp only[oE,if_neg (show¬tau<=3 by omega)]
 ·simp only[oE,if_pos (show(3:Int)<=3 by decide)]
  unfold jF;split<;>omega
structure Cq (j:Nat) (tau pi:Int) (A b B Q D R p A' b' Q':Nat->Int):Prop where
 p0:0<=pi
 p1:pi<=3200000
 P:mU pi A b B Q D R p A' Q'
 z:oE j tau+pi+2040<=9800000
 d:qA (oE j tau+pi+2040)<=40000
 d3:tau<=3->qA (oE j tau+pi+2040)<=27000
 n:4<=tau->(lY j tau<=2359296/\lV (oE j tau) pi<1440000000000000)\/lV (oE j tau) pi<474000000000000\/(5<=tau/\lV (oE j tau) pi<1035800000000000)
 l:94<=j->tau<=3->pi=180000
 f:(j<27/\PG (j+1) A' b' B Q')\/(27<=j/\jK ny A' b' B Q'/\(tau<=3->jK (xC (j+1-28)) A' b' B Q'))
theorem Ic {Z:Int}:(Z<=6800000->qA Z<=27000)/\(Z<=9800000->qA Z<=40000)/\(Z<=5900000->qA Z<=24000):=by unfold qA;omega
theorem xl:∀j:Nat,j<28->0<=nC j/\nC j<=3200000:=da
theorem n5:lV 8388608 922651<1035800000000000:=by decide+kernel
theorem Dh {x:Bn} {L:Int} (h:0<=(x.step L).o) (h2:0<=(x.step L).P0) (hL:0<=L):0<=r5 x L:=by unfold r5 A7 KN;omega
theorem Ch.tick {L:Nat->Int} (h:Ch j tau A b B Q D L) (w:Wk B q A b Q p D R p') (bx:tf j D) (hL:nn L<=1073741836*1073741836):∃pi,Cq j tau pi A b B Q D R p (dL A b B p R) (b9 A b p) (bJ Q D):=by
 have t0:=h.t0;have t1:=h.t1;have t2:=h.t2
 have la:=Cu j tau
 have fl:=kK j tau
 have hs:=h.s
 rcases h.f with⟨hj,f⟩|⟨hj,h4,f⟩|⟨hj,h5,f⟩
 ·obtain⟨g,P⟩:=f.tick hj w bx
  have tp:=xl j hj
  have g2:=Fl.of hj g
  have gf:(j<27/\PG (j+1) (dL A b B p R) (b9 A b p) B (bJ Q D))\/(27<=j/\jK ny (dL A b B p R) (b9 A b p) B (bJ Q D)/\(tau<=3->jK (xC (j+1-28)) (dL A b B p R) (b9 A b p) B (bJ Q D))):=by
   rcases g2 with⟨a,_⟩|⟨a,M⟩
   ·exact .inl ⟨oa,g⟩
   ·have e:j=27:=oa
    subst e
    exact .inr ⟨oa,M,fun _=>M⟩
  refine⟨nC j,tp.1,tp.2,P,?_,?_,?_,?_,fun a=>by omega,gf⟩
  ·by_cases h3:tau<=3
   ·rw[la.1 h3];exact(wh j hj).1
   ·rw[la.2.1 oa];exact(sL j hj oa).1
  ·by_cases h3:tau<=3
   ·rw[la.1 h3];have:=(wh j hj).2;omega
   ·rw[la.2.1 oa];exact(sL j hj oa).2.1
  ·intro h3
   rw[la.1 h3];exact(wh j hj).2
  ·intro h4
   rw[la.2.1 oa]
   obtain⟨_,_,a,c⟩:=sL j hj oa
   have e:=(kK j 5).2 da
   exact .inl ⟨oa,a⟩
 ·have hm:j-28+1<90:=oa
  have c:=yB (y8 (j-28) oa)
  have c1:=yB (y8 (j-28+1) hm)
  have e1:j+1-28=j-28+1:=oa
  obtain⟨⟨xa,xb⟩,⟨xc,xd⟩,⟨xe,xf⟩,xg,xh,xi⟩:=c
  have ln:=h.a.len bx.u hL t0
  rw[oT]at ln
  by_cases h3:tau<=3
  ·have eL:oE j tau=5587284:=by rw[la.1 h3,la.2.2 hj]
   rw[eL]at ln
   obtain⟨f1,f2,f3⟩:=mm.1 xa
   obtain⟨M,P⟩:=f.tick (L:=5587284) w.hJ w.hQ w.hB f1 f2 f3 w.st da da ln (w.lg _ da da ln) w.hR w.hJ' w.hQ'
   have M1:jK (xC (j+1-28)) (dL A b B p R) (b9 A b p) B (bJ Q D):=by rw[e1];exact M
   have M0:jK ny (dL A b B p R) (b9 A b p) B (bJ Q D):=M.mono c1.2.1.1
   by_cases hl:94<=j
   ·refine⟨180000,da,da,P.mono oa,?_,?_,?_,fun a=>by omega,fun _ _=>rfl,.inr ⟨oa,M0,fun _=>M1⟩⟩
    ·rw[eL];decide+kernel
    ·rw[eL];decide+kernel
    ·intro _;rw[eL];decide+kernel
   ·refine⟨900000,da,da,P.mono xe,?_,?_,?_,fun a=>by omega,fun a=>by omega,.inr ⟨oa,M0,fun _=>M1⟩⟩
    ·rw[eL];decide+kernel
    ·rw[eL];decide+kernel
    ·intro _;rw[eL];decide+kernel
  ·have e4:tau=4:=oa
   have eL:oE j tau=8388608:=la.2.1 oa
   rw[eL]at ln
   obtain⟨f1,f2,f3⟩:=mm.1 xb
   obtain⟨M,P⟩:=f.tick (L:=8388608) w.hJ w.hQ w.hB f1 f2 f3 w.st da da ln (w.lg _ da da ln) w.hR w.hJ' w.hQ'
   have o0:=M.o0
   have p0:0<=((xC (j-28)).step 8388608).P0:=by have:=(M.h 0 oa).a;omega
   have dl:=Ic (Z:=8388608+r5 (xC (j-28)) 8388608+2040)
   refine⟨r5 (xC (j-28)) 8388608,Dh o0 p0 da,oa,P,?_,?_,fun a=>by omega,fun _=>?_,fun a=>by omega,.inr ⟨oa,M.mono xd,fun a=>by omega⟩⟩
   ·rw[eL];omega
   ·rw[eL];omega
   ·rw[eL]
    rcases xg with a|a
    ·exact .inl ⟨oa,oa⟩
    ·exact .inr (.inl a)
 ·obtain⟨M,P⟩:=f.box w bx
  have eL:oE j tau=8388608:=la.2.1 oa
  refine⟨922651,da,da,P,?_,?_,fun a=>by omega,fun _=>.inr (.inr ⟨oa,?_⟩),fun a=>by omega,.inr ⟨oa,M,fun a=>by omega⟩⟩
  ·rw[eL];decide+kernel
  ·rw[eL];decide+kernel
  ·rw[eL];exact n5
theorem IP (j:Nat) (tau:Int):0<=oE j tau:=by unfold oE jF;(repeat' split)<;>omega
theorem Ck.fo {fr D W:Int} (h:Ck 6 fr D W):(-0<=D-W/\D-W<=0)\/(262144*2<=D/\D<=W)\/(D<=-(262144*2)/\W<=D):=by
 obtain⟨f,w,o⟩:=h
 omega
theorem JQ:qA (5587284+180000+2040)<=24000:=by decide+kernel
theorem IK:1073741824* (180000+sE 5587284 180000 95000000)+12*180000<2*98800000000000:=by decide+kernel
theorem Ch.step (h:Ch j tau A b B Q D (am (aU A p) q)) (w:Wk B q A b Q p D R p') (bx:tf j D):
 (∃t,Ch (j+1) t (dL A b B p R) (b9 A b p) B (bJ Q D) (cS D (aB (am (aU (dL A b B p R) p') q))) (am (aU (dL A b B p R) p') q))\/
   (Fl (j+1) (dL A b B p R) (b9 A b p) B (bJ Q D)/\Fo 2 0 (cS D (aB (am (aU (dL A b B p R) p') q))) (aB (am (aU (dL A b B p R) p') q))/\am (aU (dL A b B p R) p') q 0<=88200000/\j<=107/\6<=j):=by
 have F2:=h.fi.cor w.st.I
 have hL:=(fZ F2.i F2.v w.hK w.hq).2
 obtain⟨pi,c⟩:=h.tick w bx hL
 have F':FI (dL A b B p R) (b9 A b p):=by
  rcases c.f with⟨_,f⟩|⟨_,f,_⟩
  ·exact f.fi
  ·exact f.F
 have cz:=c.z
 have a0:=IP j tau
 have t0:=h.t0;have t1:=h.t1;have t2:=h.t2;have t3:=h.t3
 have ln:=h.a.len bx.u hL h.t0
 obtain⟨g,tc⟩:=w.tc h.fi F' c.P c.p0 a0 ln oa c.p1
 have hl0:=h.a.l
 have hs:=h.s
 have la:=Cu j tau
 have bk:94<=j->tau<=3->pi=180000/\(98800000000000<=D 0*am (aU A p) q 1+D 1*am (aU A p) q 2+D 2*am (aU A p) q 3->g=1)/\
  g* (D 0*am (aU A p) q 1+D 1*am (aU A p) q 2+D 2*am (aU A p) q 3)-2793642* (5587284+180000+2040)+215300000000000<=cS D (aB (am (aU (dL A b B p R) p') q)) 0*am (aU (dL A b B p R) p') q 1+cS D (aB (am (aU (dL A b B p R) p') q)) 1*am (aU (dL A b B p R) p') q 2+cS D (aB (am (aU (dL A b B p R) p') q)) 2*am (aU (dL A b B p R) p') q 3:=by
  intro h94 h3
  have e:=c.l h94 h3
  have eL:oE j tau=5587284:=by rw[la.1 h3,la.2.2 oa]
  rw[eL,e]at tc
  rw[eL,oT]at ln
  refine⟨e,fun hS=>zB (s:=98800000000000) tc.mv tc.hL tc.hg tc.h0 oa tc.h0' hS IK,?_⟩
  exact h.a.back (d:=2793642) t0 h3 tc da JQ da oa
 rcases Bc h.a h.t0 h.t1 tc c.z c.d c.d3 c.n with⟨hg,a⟩|⟨hg,h3,a⟩
 ·by_cases h5:tau=5
  ·rw[show tau+1=6 by omega]at a
   have s2:(j:Int)<=tau+102:=by
    rcases hs with s|⟨s,_⟩
    ·clear bk cz tc c a;omega
    ·exact s
   clear hs bk cz
   refine .inr ⟨?_,fun i hi=>(a.k i hi).fo,iT a.l da,oa,oa⟩
   rcases c.f with⟨hj,f⟩|⟨hj,M,_⟩
   ·exact .inl ⟨oa,f⟩
   ·exact .inr ⟨oa,M⟩
  ·refine .inl ⟨tau+1,a,oa,oa,oa,oa,?_,?_⟩
   ·rcases c.f with⟨hj,f⟩|⟨hj,M,Mx⟩
    ·exact .inl ⟨oa,f⟩
    ·by_cases h4:tau=4
     ·exact .inr (.inr ⟨oa,oa,M⟩)
     ·exact .inr (.inl ⟨oa,oa,Mx oa⟩)
   ·by_cases h94:94<=j
    ·rcases hs with s|⟨s,s2⟩
     ·exact .inl oa
     ·refine .inr ⟨oa,?_⟩
      by_cases h3:tau<=2
      ·obtain⟨_,_,b2⟩:=bk h94 oa
       rw[hg]at b2
       exact .inl oa
      ·exact .inr oa
    ·exact .inl oa
 ·refine .inl ⟨1-tau,a,oa,oa,oa,oa,?_,?_⟩
  ·rcases c.f with⟨hj,f⟩|⟨hj,M,Mx⟩
   ·exact .inl ⟨oa,f⟩
   ·exact .inr (.inl ⟨oa,oa,Mx h3⟩)
  ·by_cases h94:94<=j
   ·obtain⟨_,b1,b2⟩:=bk h94 h3
    rw[hg]at b2
    have b3:¬98800000000000<=D 0*am (aU A p) q 1+D 1*am (aU A p) q 2+D 2*am (aU A p) q 3:=fun x=>by
     have:=b1 x
     omega
    rcases hs with s|⟨s,s2⟩
    ·exact .inr ⟨oa,.inl oa⟩
    ·omega
   ·exact .inl oa
end
end Go.Proofs.YtbhahonkhiiilaaGreat
