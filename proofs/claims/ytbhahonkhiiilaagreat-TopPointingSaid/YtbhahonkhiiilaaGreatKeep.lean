/-
  Rotations keep norms, and Back undoes Rotate: arithmetic. No program in sight.
-/
import Derived.Test.YtbhahonkhiiilaaGreatLenQ
set_option linter.unusedSimpArgs false
set_option linter.unusedVariables false
namespace Go.Proofs.YtbhahonkhiiilaaGreat
open Go.RowKit PM Dt
theorem bI {x p:Int} (hp:0<=p) (h:x*x<=p*p):-p<=x/\x<=p:=by
 have:=td (a:=x) (b:=p+1) oa (by
  have e:(p+1)* (p+1)=p*p+2*p+1:=by grind
  omega)
 omega
theorem km (x0 x1 x2 y0 y1 y2:Int):(x0*y0+x1*y1+x2*y2)* (x0*y0+x1*y1+x2*y2)<=(x0*x0+x1*x1+x2*x2)* (y0*y0+y1*y1+y2*y2):=by
 have h1:=av (x0*y1-x1*y0)
 have h2:=av (x0*y2-x2*y0)
 have h3:=av (x1*y2-x2*y1)
 have e:(x0*x0+x1*x1+x2*x2)* (y0*y0+y1*y1+y2*y2)=(x0*y0+x1*y1+x2*y2)* (x0*y0+x1*y1+x2*y2)+((x0*y1-x1*y0)* (x0*y1-x1*y0)+(x0*y2-x2*y0)* (x0*y2-x2*y0)+(x1*y2-x2*y1)* (x1*y2-x2*y1)):=by grind
 omega
theorem wL {x0 x1 x2 y0 y1 y2 X Y:Int} (hX:0<=X) (hY:0<=Y) (hx:x0*x0+x1*x1+x2*x2<=X*X) (hy:y0*y0+y1*y1+y2*y2<=Y*Y):
 (x0+y0)* (x0+y0)+(x1+y1)* (x1+y1)+(x2+y2)* (x2+y2)<=(X+Y)* (X+Y):=by
 have hc:=km x0 x1 x2 y0 y1 y2
 have n0:=av x0
 have n1:=av x1
 have n2:=av x2
 have m0:=av y0
 have m1:=av y1
 have m2:=av y2
 have hp:(x0*x0+x1*x1+x2*x2)* (y0*y0+y1*y1+y2*y2)<=(X*X)* (Y*Y):=mM hx hy oa (av X)
 have e:(X*X)* (Y*Y)=(X*Y)* (X*Y):=by grind
 have hd:=(bI (x:=x0*y0+x1*y1+x2*y2) (p:=X*Y) (mN hX hY) oa).2
 have e1:(x0+y0)* (x0+y0)+(x1+y1)* (x1+y1)+(x2+y2)* (x2+y2)=(x0*x0+x1*x1+x2*x2)+(y0*y0+y1*y1+y2*y2)+2* (x0*y0+x1*y1+x2*y2):=by grind
 have e2:(X+Y)* (X+Y)=X*X+Y*Y+2* (X*Y):=by grind
 omega
def vv (f:Nat->Int):Int:=f 0*f 0+f 1*f 1+f 2*f 2
def ap (E:Nat->Int) (v:Nat->Int) (i:Nat):Int:=E (3*i)*v 0+E (3*i+1)*v 1+E (3*i+2)*v 2
def tr (E:Nat->Int):Nat->Int:=fun j=>E (3* (j % 3)+j/3)
theorem As (f v:Nat->Int):vv (ap (bD f) v)=nn f*nn f*vv v:=by
 unfold vv ap nn bD
 grind
theorem gz (f v:Nat->Int):vv (ap (tr (bD f)) v)=nn f*nn f*vv v:=by
 unfold vv ap nn tr
 show(bD f 0*v 0+bD f 3*v 1+bD f 6*v 2)* (bD f 0*v 0+bD f 3*v 1+bD f 6*v 2)+(bD f 1*v 0+bD f 4*v 1+bD f 7*v 2)* (bD f 1*v 0+bD f 4*v 1+bD f 7*v 2)+(bD f 2*v 0+bD f 5*v 1+bD f 8*v 2)* (bD f 2*v 0+bD f 5*v 1+bD f 8*v 2)=_
 unfold bD
 grind
theorem yC (x0 x1 x2 x3 y0 y1 y2 y3:Int):(x0*y0+x1*y1+x2*y2+x3*y3)* (x0*y0+x1*y1+x2*y2+x3*y3)<=(x0*x0+x1*x1+x2*x2+x3*x3)* (y0*y0+y1*y1+y2*y2+y3*y3):=by
 have h1:=av (x0*y1-x1*y0)
 have h2:=av (x0*y2-x2*y0)
 have h3:=av (x1*y2-x2*y1)
 have h4:=av (x0*y3-x3*y0)
 have h5:=av (x1*y3-x3*y1)
 have h6:=av (x2*y3-x3*y2)
 have e:(x0*x0+x1*x1+x2*x2+x3*x3)* (y0*y0+y1*y1+y2*y2+y3*y3)=(x0*y0+x1*y1+x2*y2+x3*y3)* (x0*y0+x1*y1+x2*y2+x3*y3)+((x0*y1-x1*y0)* (x0*y1-x1*y0)+(x0*y2-x2*y0)* (x0*y2-x2*y0)+(x1*y2-x2*y1)* (x1*y2-x2*y1)+(x0*y3-x3*y0)* (x0*y3-x3*y0)+(x1*y3-x3*y1)* (x1*y3-x3*y1)+(x2*y3-x3*y2)* (x2*y3-x3*y2)):=by grind
 omega
theorem jX {x y z:Nat->Int} {X Y:Int} (hX:0<=X) (hY:0<=Y) (hx:nn x<=X*X) (hy:nn y<=Y*Y) (hz:∀i,i<4->z i=x i+y i):nn z<=(X+Y)* (X+Y):=by
 have hc:=yC (x 0) (x 1) (x 2) (x 3) (y 0) (y 1) (y 2) (y 3)
 have hp:nn x*nn y<=(X*X)* (Y*Y):=mM hx hy (aT y) (av X)
 have e:(X*X)* (Y*Y)=(X*Y)* (X*Y):=by grind
 have hd:=(bI (x:=x 0*y 0+x 1*y 1+x 2*y 2+x 3*y 3) (p:=X*Y) (mN hX hY) (by
  rw[<-e];exact iT hc hp)).2
 have e1:nn z=nn x+nn y+2* (x 0*y 0+x 1*y 1+x 2*y 2+x 3*y 3):=by
  unfold nn
  rw[hz 0 oa,hz 1 oa,hz 2 oa,hz 3 oa];grind
 have e2:(X+Y)* (X+Y)=X*X+Y*Y+2* (X*Y):=by grind
 omega
def sc (c:Int) (x:Nat->Int):Nat->Int:=fun i=>c*x i
theorem c_ (c:Int) (x:Nat->Int):nn (sc c x)=c*c*nn x:=by unfold nn sc;grind
theorem cK {x:Nat->Int} {X:Int} (hX:0<=X) (h:nn x<=X*X) {i:Nat} (hi:i<4):-X<=x i/\x i<=X:=by
 have n0:=av (x 0)
 have n1:=av (x 1)
 have n2:=av (x 2)
 have n3:=av (x 3)
 refine bI hX ?_
 unfold nn at h
 have:i=0\/i=1\/i=2\/i=3:=oa
 rcases this with rfl|rfl|rfl|rfl<;>omega
theorem gH {x:Nat->Int} {B:Int} (h:∀i,i<4->-B<=x i/\x i<=B):nn x<=(2*B)* (2*B):=by
 have b:=fun i hi=>(bR (h i hi).1 (h i hi).2 (h i hi).1 (h i hi).2).2
 have b0:=b 0 oa
 have b1:=b 1 oa
 have b2:=b 2 oa
 have b3:=b 3 oa
 have e:(2*B)* (2*B)=4* (B*B):=by grind
 unfold nn
 omega
def cj (f:Nat->Int):Nat->Int
 |0=>f 0
 |1=>-f 1
 |2=>-f 2
 |_=>-f 3
theorem i_ (f:Nat->Int):nn (cj f)=nn f:=by unfold nn cj;grind
theorem GR (f g:Nat->Int) (i:Nat) (hi:i<4):pe (cj f) (pe f g) i=nn f*g i:=by
 have:i=0\/i=1\/i=2\/i=3:=oa
 unfold nn
 rcases this with rfl|rfl|rfl|rfl
 ·show f 0*pe f g 0- -f 1*pe f g 1- -f 2*pe f g 2- -f 3*pe f g 3=_
  unfold pe;grind
 ·show f 0*pe f g 1+-f 1*pe f g 0+-f 2*pe f g 3- -f 3*pe f g 2=_
  unfold pe;grind
 ·show f 0*pe f g 2- -f 1*pe f g 3+-f 2*pe f g 0+-f 3*pe f g 1=_
  unfold pe;grind
 ·show f 0*pe f g 3+-f 1*pe f g 2- -f 2*pe f g 1+-f 3*pe f g 0=_
  unfold pe;grind
theorem mY (f x y:Nat->Int) (a b:Int) (i:Nat) (hi:i<4):pe f (fun j=>a*x j+b*y j) i=a*pe f x i+b*pe f y i:=by
 have:i=0\/i=1\/i=2\/i=3:=oa
 rcases this with rfl|rfl|rfl|rfl<;>simp only[pe]<;>grind
theorem i7 {f x y:Nat->Int} (h:∀j,j<4->x j=y j) (i:Nat) (hi:i<4):pe f x i=pe f y i:=by
 have h0:=h 0 oa
 have h1:=h 1 oa
 have h2:=h 2 oa
 have h3:=h 3 oa
 have:i=0\/i=1\/i=2\/i=3:=oa
 rcases this with rfl|rfl|rfl|rfl<;>simp only[pe]<;>rw[h0,h1,h2,h3]
theorem BB (g v:Nat->Int) {i:Nat} (hi:i<3):∃e,1073741824*iC g v i=ap g v i+e/\-536870912<=e/\e<=536870912:=by
 have:d3 (h_ g i) v=ap g v i:=by
  unfold d3 ap h_
  rw[aK,aK,aK,cJ]
  show g (3*i+0)*v 0+(g (3*i+1)*v 1+(g (3*i+2)*v 2+0))=_
  rw[Nat.add_zero];omega
 unfold iC
 rw[this]
 exact mg _
theorem kI (g v:Nat->Int) {i:Nat} (hi:i<3):∃e,1073741824*cN g v i=ap (tr g) v i+e/\-536870912<=e/\e<=536870912:=by
 have:d3 (mS g i) v=ap (tr g) v i:=by
  unfold d3 mS
  rw[aK,aK,aK,cJ]
  have:i=0\/i=1\/i=2:=oa
  rcases this with rfl|rfl|rfl
  ·show g 0*v 0+(g 3*v 1+(g 6*v 2+0))=g 0*v 0+g 3*v 1+g 6*v 2
   omega
  ·show g 1*v 0+(g 4*v 1+(g 7*v 2+0))=g 1*v 0+g 4*v 1+g 7*v 2
   omega
  ·show g 2*v 0+(g 5*v 1+(g 8*v 2+0))=g 2*v 0+g 5*v 1+g 8*v 2
   omega
 unfold cN
 rw[this]
 exact mg _
theorem Gn (u:Nat->Int):∀j,j<9->∃d,1073741824*bL u j=bD u j+d/\-536870912<=d/\d<=536870912:=fun j hj=>mg _
theorem fA (u:Nat->Int):∀j,j<9->∃d,1073741824*tr (bL u) j=tr (bD u) j+d/\-536870912<=d/\d<=536870912:=fun j hj=>mg _
theorem uS (Q R q:Nat->Int) (i:Nat) (hi:i<4):pe (cj (pe Q R)) q i=pe (cj R) (pe (cj Q) q) i:=by
 have:i=0\/i=1\/i=2\/i=3:=oa
 rcases this with rfl|rfl|rfl|rfl<;>simp only[pe,cj]<;>grind
theorem yj (x y q:Nat->Int) (a b:Int) (i:Nat) (hi:i<4):pe (cj fun j=>a*x j+b*y j) q i=a*pe (cj x) q i+b*pe (cj y) q i:=by
 have:i=0\/i=1\/i=2\/i=3:=oa
 rcases this with rfl|rfl|rfl|rfl<;>simp only[pe,cj]<;>grind
theorem AH {x y q:Nat->Int} (h:∀j,j<4->x j=y j) (i:Nat) (hi:i<4):pe (cj x) q i=pe (cj y) q i:=by
 have h0:=h 0 oa
 have h1:=h 1 oa
 have h2:=h 2 oa
 have h3:=h 3 oa
 have:i=0\/i=1\/i=2\/i=3:=oa
 rcases this with rfl|rfl|rfl|rfl<;>simp only[pe,cj]<;>rw[h0,h1,h2,h3]
def eD (Q q:Nat->Int):Nat->Int:=pe (cj Q) q
theorem kT (Q q:Nat->Int):nn (eD Q q)=nn Q*nn q:=by unfold eD;rw[dR,i_]
theorem yz {Q q h:Nat->Int} (hI:∀i,i<4->bu (Q i)) (hQ:au Q=true) (hs:aE h 1073741824=true):
 ∃N P:Int,∃eta p:Nat->Int,35184372088832<=N/\0<P/\N*N<=P*P*nn p/\P*P*nn p<(N+1)* (N+1)/\(∀j,j<4->∃e,1073741824*p j=pe Q (rq h) j+e/\-536870912<=e/\e<=536870912)/\
  (∀j,j<4->-(1152921504606846976*P+1073741824*N)<=eta j/\eta j<=1152921504606846976*P+1073741824*N)/\
  ∀i,i<4->2147483648*N*eD (aR Q h) q i=2147483648*P*pe (cj (rq h)) (eD Q q) i+pe (cj eta) q i:=by
 obtain⟨_,hT,hk,hz⟩:=ir hI hQ hs
 obtain⟨kQ,_,_⟩:=bm hI hQ
 obtain⟨kR,_,_⟩:=u6 hs
 obtain⟨_,_,⟨N,P,hN,hP,h1,h2,hu⟩,_⟩:=eF hk hz
 have hpr:∀j,∃e,j<4->1073741824*aY Q (rq h) j=pe Q (rq h) j+e/\-536870912<=e/\e<=536870912:=fun j=>by
  by_cases hj:j<4
  ·obtain⟨e,he⟩:=fD kQ kR hj;exact⟨e,fun _=>he⟩
  ·exact⟨0,fun h=>absurd h hj⟩
 obtain⟨e,he⟩:=Classical.skolem.1 hpr
 have hdd:∀j,∃d,j<4->2* (N*df (aY Q (rq h)) j)=2* (1073741824* (P*aY Q (rq h) j))+d/\-N<=d/\d<=N:=fun j=>by
  by_cases hj:j<4
  ·obtain⟨d,hd⟩:=hu j hj;exact⟨d,fun _=>hd⟩
  ·exact⟨0,fun h=>absurd h hj⟩
 obtain⟨d,hd⟩:=Classical.skolem.1 hdd
 refine⟨N,P,fun j=>2147483648*P*e j+1073741824*d j,aY Q (rq h),hN,hP,h1,h2,fun j hj=>⟨e j,he j hj⟩,fun j hj=>?_,fun i hi=>?_⟩
 ·obtain⟨_,e1,e2⟩:=he j hj
  obtain⟨_,d1,d2⟩:=hd j hj
  have b1:P*e j<=P*536870912:=mL e2 oa
  have b2:P*-536870912<=P*e j:=mL e1 oa
  have e3:2147483648*P*e j=2147483648* (P*e j):=by rw[Int.mul_assoc]
  show _<=2147483648*P*e j+1073741824*d j/\2147483648*P*e j+1073741824*d j<=_
  rw[e3]
  omega
 ·have key:∀j,j<4->2147483648*N*aR Q h j=2147483648*P*pe Q (rq h) j+1* (2147483648*P*e j+1073741824*d j):=fun j hj=>by
   rw[hT]
   obtain⟨e0,_⟩:=he j hj
   obtain⟨d0,_⟩:=hd j hj
   generalize df (aY Q (rq h)) j=t at *
   generalize aY Q (rq h) j=p at *
   have x1:2147483648*N*t=1073741824* (2* (N*t)):=by grind
   have x2:2147483648*P*pe Q (rq h) j+2147483648*P*e j=2147483648*P* (1073741824*p):=by rw[e0];grind
   have x3:1073741824* (2* (1073741824* (P*p)))=2147483648*P* (1073741824*p):=by grind
   rw[x1,d0]
   omega
  have l1:=yj (aR Q h) (fun _=>0) q (2147483648*N) 0 i hi
  have l2:=yj (pe Q (rq h)) (fun j=>2147483648*P*e j+1073741824*d j) q (2147483648*P) 1 i hi
  have l3:=AH (q:=q) (x:=fun j=>2147483648*N*aR Q h j+0* (fun _=>(0:Int)) j) (y:=fun j=>2147483648*P*pe Q (rq h) j+1* (2147483648*P*e j+1073741824*d j)) (fun j hj=>by
   have:=key j hj
   show 2147483648*N*aR Q h j+0*0=_
   rw[this];omega) i hi
  rw[l1,l2,uS Q (rq h) q i hi]at l3
  unfold eD
  have x1:0*pe (cj fun _=>0) q i=0:=Int.zero_mul _
  omega
theorem xq (f:Nat->Int):((om f:Nat):Int)=vv f:=qd f
theorem DC {a:Int} {m n:Nat} (hn:0<n):∃r:Int,(n:Int)*jh a m n=m*a-r/\-(n:Int)<=r/\r<=n:=by
 have hd:=Nat.div_add_mod (a.natAbs*m) n
 have hl:=Nat.mod_lt (a.natAbs*m) hn
 unfold jh
 generalize a.natAbs*m/n=q at *
 generalize a.natAbs*m % n=t at *
 have hdi:(n:Int)*q+t=(a.natAbs:Int)*m:=by exact_mod_cast hd
 split
 ·have e:(a.natAbs:Int)*m=-(m*a):=by
   have:(a.natAbs:Int)=-a:=oa
   rw[this];grind
  refine⟨-(t:Int),?_,oa,oa⟩
  have e2:(n:Int)*-(q:Int)=-(n*q):=by grind
  omega
 ·have e:(a.natAbs:Int)*m=m*a:=by
   have:(a.natAbs:Int)=a:=oa
   rw[this];grind
  exact⟨t,oa,oa,oa⟩
theorem dW {f:Nat->Int} {m:Int} (h:oD f m):∃n:Int,n=gJ f/\0<=n/\vv f<=n*n/\(0<n->(n-1)* (n-1)<vv f)/\
 ((n<=m/\ca f m=f)\/(m<n/\∃r:Nat->Int,∀i,i<3->n*ca f m i=m*f i-r i/\-n<=r i/\r i<=n)):=by
 obtain⟨hk,h0,h1⟩:=h
 have hf:ca f m=if(gJ f:Int)<=m then f else lk f m:=by unfold ca;rw[if_pos ⟨hk,h0,h1⟩]
 have hL:¬gJ f*gJ f<om f:=fun hh=>Nat.lt_irrefl _ ((kG hk _).2 hh)
 have hS:=xq f
 refine⟨gJ f,rfl,oa,?_,fun hn=>?_,?_⟩
 ·rw[<-hS];exact_mod_cast Nat.not_lt.1 hL
 ·have a:=(kG hk (gJ f-1)).1 oa
  have e:((gJ f-1:Nat):Int)=(gJ f:Int)-1:=oa
  rw[<-hS,<-e];exact_mod_cast a
 ·by_cases hl:(gJ f:Int)<=m
  ·exact .inl ⟨hl,by rw[hf,if_pos hl]⟩
  ·refine .inr ⟨oa,?_⟩
   rw[hf,if_neg hl]
   have hx:∀i,∃r:Int,(gJ f:Int)*lk f m i=m*f i-r/\-(gJ f:Int)<=r/\r<=gJ f:=fun i=>by
    obtain⟨r,h1,h2⟩:=DC (a:=f i) (m:=m.toNat) (n:=gJ f) oa
    refine⟨r,?_,h2⟩
    unfold lk
    have:((m.toNat:Nat):Int)=m:=oa
    rw[h1,this]
   obtain⟨r,hr⟩:=Classical.skolem.1 hx
   exact⟨r,fun i _=>hr i⟩
theorem wC {f:Nat->Int} {m:Int} (h:oD f m) {i:Nat} (hi:i<3):(0<=ca f m i/\ca f m i<=f i)\/(f i<=ca f m i/\ca f m i<=0):=by
 have hf:ca f m=if(gJ f:Int)<=m then f else lk f m:=by unfold ca;rw[if_pos h]
 rw[hf]
 split
 ·omega
 ·have hq:(f i).natAbs*m.toNat/gJ f<=(f i).natAbs:=Nat.div_le_of_le_mul (by rw[Nat.mul_comm];exact Nat.mul_le_mul oa (ns _))
  unfold lk jh
  generalize(f i).natAbs*m.toNat/gJ f=q at *
  split<;>omega
theorem rS {a b:Nat->Int} {n k:Int} (hk:0<k) (hn:k<n) (hA:(n-1)* (n-1)<vv a) (hB:vv b<=k*k):
 vv (fun i=>k*a i-n*b i)<=n*n* (vv (fun i=>a i-b i)+1):=by
 have h0:=av (k*a 0-n*b 0)
 have h1:=av (k*a 1-n*b 1)
 have h2:=av (k*a 2-n*b 2)
 obtain⟨S,hS⟩:∃S,S=a 0*b 0+a 1*b 1+a 2*b 2:=⟨_,rfl⟩
 have e1:vv (fun i=>k*a i-n*b i)=k*k*vv a+n*n*vv b-2*n*k*S:=by unfold vv;rw[hS];grind
 have e2:vv (fun i=>a i-b i)=vv a+vv b-2*S:=by unfold vv;rw[hS];grind
 have p0:0<=k*k*vv a+n*n*vv b-2*n*k*S:=by rw[<-e1];unfold vv;show 0<=(k*a 0-n*b 0)* (k*a 0-n*b 0)+(k*a 1-n*b 1)* (k*a 1-n*b 1)+(k*a 2-n*b 2)* (k*a 2-n*b 2);omega
 rw[e1,e2]
 generalize vv a=A at *
 generalize vv b=B at *
 have q1:n*n*B<=n*n* (k*k):=mL hB (av n)
 have q2:k* (2*n*S)<=k* (k*A+n*n*k):=by
  have x1:k* (2*n*S)=2*n*k*S:=by grind
  have x2:k* (k*A+n*n*k)=k*k*A+n*n* (k*k):=by grind
  omega
 have q3:2*n*S<=k*A+n*n*k:=mC q2 hk
 have q4:0<=(n-k)* (k*A+n*n*k-2*n*S):=mN oa oa
 have q5:-(n*n)<=n* (n-k)* (A-n*k):=by
  rcases(show n=k+1\/k+2<=n by omega)with rfl|h
  ·have x1:(k+1)* (k+1-k)* (A-(k+1)*k)=(k+1)* (A-(k+1)*k):=by grind
   have x2:(k+1)*-(k+1)<=(k+1)* (A-(k+1)*k):=mL (by
    have x3:(k+1)*k=k*k+k:=by grind
    have x4:(k+1-1)* (k+1-1)=k*k:=by grind
    omega) oa
   have x3:(k+1)*-(k+1)=-((k+1)* (k+1)):=by grind
   omega
  ·have x1:0<=A-n*k:=by
    have x2:(n-1)* (n-1)=n*n-2*n+1:=by grind
    have x3:n* (k+2)<=n*n:=mL h oa
    have x4:n* (k+2)=n*k+2*n:=by grind
    omega
   have x2:0<=n* (n-k)* (A-n*k):=mN (mN oa oa) x1
   have:=av n
   omega
 have id:n*n* (A+B-2*S+1)-(k*k*A+n*n*B-2*n*k*S)=(n-k)* (k*A+n*n*k-2*n*S)+n* (n-k)* (A-n*k)+n*n:=by grind
 omega
theorem bW {a b:Int} (ha:0<=a) (h:a<=b):a*a<=b*b:=mM h h ha oa
theorem yM {a b:Nat->Int} {m X:Int} (ha:oD a m) (hb:oD b m) (hm:0<m) (hX:0<=X) (h:vv (fun i=>a i-b i)<=X*X) (hl:gJ b<=gJ a):
 vv (fun i=>ca a m i-ca b m i)<=(X+5)* (X+5):=by
 obtain⟨n,hn,n0,na,nb,hw⟩:=dW ha
 obtain⟨k,hk,k0,ka,kb,hu⟩:=dW hb
 have hkn:k<=n:=oa
 clear hn hk hl
 have hX1:X*X+1<=(X+1)* (X+1):=by
  have:(X+1)* (X+1)=X*X+2*X+1:=by grind
  omega
 rcases hw with⟨l1,ew⟩|⟨l1,r,hr⟩
 ·rcases hu with⟨l2,eu⟩|⟨l2,_⟩
  ·rw[ew,eu]
   exact iT h (bW hX oa)
  ·omega
 ·have r0:=hr 0 oa
  have r1:=hr 1 oa
  have r2:=hr 2 oa
  generalize ca a m=w at *
  have fin:∀(c Y Z:Int) (x y u:Nat->Int),0<c->0<=Y->0<=Z->vv x<=(c*Y)* (c*Y)->vv y<=(c*Z)* (c*Z)->(∀i,i<3->c* (w i-u i)=x i+y i)->vv (fun i=>w i-u i)<=(Y+Z)* (Y+Z):=fun c Y Z x y u hc hY hZ hx hy he=>by
   have t:=wL (X:=c*Y) (Y:=c*Z) (mN oa hY) (mN oa hZ) hx hy
   rw[<-he 0 oa,<-he 1 oa,<-he 2 oa]at t
   have e1:c* (w 0-u 0)* (c* (w 0-u 0))+c* (w 1-u 1)* (c* (w 1-u 1))+c* (w 2-u 2)* (c* (w 2-u 2))=c*c*vv (fun i=>w i-u i):=by unfold vv;grind
   have e2:(c*Y+c*Z)* (c*Y+c*Z)=c*c* ((Y+Z)* (Y+Z)):=by grind
   rw[e1,e2]at t
   exact mC t (Int.mul_pos hc hc)
  have rb:∀(R:Int) (y:Nat->Int),(∀i,i<3->-R<=y i/\y i<=R)->vv y<=(2*R)* (2*R):=fun R y hy=>by
   have b:=fun i hi=>(bR (hy i hi).1 (hy i hi).2 (hy i hi).1 (hy i hi).2).2
   have b0:=b 0 oa
   have b1:=b 1 oa
   have b2:=b 2 oa
   have e:2*R* (2*R)=4* (R*R):=by grind
   have:=av R
   unfold vv
   omega
  rcases hu with⟨l2,eu⟩|⟨l2,t,ht⟩
  ·rw[eu]
   have pc:=rS hm l1 (nb oa) (iT ka (bW k0 l2))
   have pc2:n*n* (vv (fun i=>a i-b i)+1)<=n*n* ((X+1)* (X+1)):=mL oa (av n)
   have e2:n* (X+1)* (n* (X+1))=n*n* ((X+1)* (X+1)):=by grind
   have:=fin n (X+1) 2 (fun i=>m*a i-n*b i) (fun i=>-r i) b oa oa oa (by rw[e2];omega) (by
    have:=rb n (fun i=>-r i) (fun i hi=>by have:=(hr i hi).2;show-n<=-r i/\-r i<=n;omega)
    have e:n*2=2*n:=oa
    rw[e];exact this) (fun i hi=>by
    have:=(hr i hi).1
    show n* (w i-b i)=(m*a i-n*b i)+-r i
    have e:n* (w i-b i)=n*w i-n*b i:=by grind
    omega)
   exact iT this (bW oa oa)
  ·have pc:vv (fun i=>k*a i-n*b i)<=n*n* ((X+1)* (X+1)):=by
    have pc2:n*n* (vv (fun i=>a i-b i)+1)<=n*n* ((X+1)* (X+1)):=mL oa (av n)
    rcases(show k=n\/k<n by omega)with rfl|hlt
    ·have e:vv (fun i=>k*a i-k*b i)=k*k*vv (fun i=>a i-b i):=by unfold vv;grind
     rw[e]
     have:=mL (show vv (fun i=>a i-b i)<=(X+1)* (X+1) by omega) (av k)
     exact this
    ·exact iT (rS oa hlt (nb oa) ka) pc2
   have hp:m*m*vv (fun i=>k*a i-n*b i)<=(n*k* (X+1))* (n*k* (X+1)):=by
    have x1:=mL pc (av m)
    have x2:m*m* (n*n* ((X+1)* (X+1)))<=k*k* (n*n* ((X+1)* (X+1))):=mR (bW oa oa) (mN (av n) (av (X+1)))
    have x3:k*k* (n*n* ((X+1)* (X+1)))=(n*k* (X+1))* (n*k* (X+1)):=by grind
    omega
   have:=fin (n*k) (X+1) 4 (fun i=>m* (k*a i-n*b i)) (fun i=>n*t i-k*r i) (ca b m) (Int.mul_pos oa oa) oa oa (by
    have e:vv (fun i=>m* (k*a i-n*b i))=m*m*vv (fun i=>k*a i-n*b i):=by unfold vv;grind
    rw[e];exact hp) (by
    have:=rb (2* (n*k)) (fun i=>n*t i-k*r i) (fun i hi=>by
     have c1:=(hr i hi).2
     have c2:=(ht i hi).2
     have d1:=bR (show-n<=n by omega) (iR n) c2.1 c2.2
     have d2:=bR (show-k<=k by omega) (iR k) c1.1 c1.2
     have e:k*n=n*k:=Int.mul_comm _ _
     rw[e]at d2
     show-(2* (n*k))<=n*t i-k*r i/\n*t i-k*r i<=2* (n*k)
     omega)
    have e:2* (2* (n*k))=n*k*4:=oa
    rw[e]at this;exact this) (fun i hi=>by
    have c1:=(hr i hi).1
    have c2:=(ht i hi).1
    show n*k* (w i-ca b m i)=m* (k*a i-n*b i)+(n*t i-k*r i)
    have e1:n*k* (w i-ca b m i)=k* (n*w i)-n* (k*ca b m i):=by grind
    rw[e1,c1,c2];grind)
   have e5:X+1+4=X+5:=oa
   rw[e5]at this
   exact this
theorem o7 {a b:Nat->Int} {m X:Int} (ha:oD a m) (hb:oD b m) (hm:0<m) (hX:0<=X) (h:vv (fun i=>a i-b i)<=X*X):
 vv (fun i=>ca a m i-ca b m i)<=(X+5)* (X+5):=by
 rcases Nat.le_total (gJ b) (gJ a)with hl|hl
 ·exact yM ha hb hm hX h hl
 ·have e:∀f g:Nat->Int,vv (fun i=>f i-g i)=vv (fun i=>g i-f i):=fun f g=>by unfold vv;grind
  rw[e]
  exact yM hb ha hm hX (by rw[e];exact h) hl
end Go.Proofs.YtbhahonkhiiilaaGreat
