/-
  Two wheels on their way: their sum. No program in sight.
-/
import Derived.Test.YtbhahonkhiiilaaGreatGyN
set_option linter.unusedSimpArgs false
set_option linter.unusedVariables false
namespace Go.Proofs.YtbhahonkhiiilaaGreat
section
open Go.RowKit PM Dt
structure F8 (h g:Int):Prop where
 band:-2097152<=h->h<=2097152->(-2097152<=g/\g<=2097152)/\-1064960<=g-h/\g-h<=1064960
 pos:2097152<h->h-1064960<=g/\g<=h/\-2097152<=g/\(g<=h-1048576\/g<=2097152)
 neg:h< -2097152->g<=h+1064960/\h<=g/\g<=2097152/\(h+1048576<=g\/-2097152<=g)
theorem Ly {h P:Int} (hh:-16777216<=h/\h<=16777216) (hP:-2097152<=P/\P<=2097152):F8 h (iE h (gx h P)):=by
 have f1:0<=h->0<=f9 h/\1024*f9 h<=h:=j9
 have f2:h<=0->f9 h<=0/\h<=1024*f9 h:=jU
 rcases jc hh hP with⟨a,b,e⟩|⟨a,e⟩|⟨a,e⟩<;>refine⟨fun _ _=>?_,fun _=>?_,fun _=>?_⟩<;>rw[e]<;>omega
theorem F8.same:F8 0 0:=⟨fun _ _=>by omega,fun h=>by omega,fun h=>by omega⟩
theorem ry {a b a' b' B S:Int} (ha:F8 a a') (hb:F8 b b') (hB:2097152<=B) (a1:-B<=a'/\a'<=B) (b1:-B<=b'/\b'<=B) (h:(-(B+1048576+2097152)<=a+b/\a+b<=B+1048576+2097152)\/(-S<=a+b/\a+b<=S)):
 (-(B+2097152)<=a'+b'/\a'+b'<=B+2097152)\/(-(S-2097152)<=a'+b'/\a'+b'<=S-2097152):=by
 obtain⟨x1,x2,x3⟩:=ha
 obtain⟨y1,y2,y3⟩:=hb
 by_cases p:2097152<a'/\2097152<b'
 ·have p1:2097152<a:=by
   apply bC;intro hc
   by_cases q:-2097152<=a
   ·have:=x1 q oa;omega
   ·have:=x3 oa;omega
  have p2:2097152<b:=by
   apply bC;intro hc
   by_cases q:-2097152<=b
   ·have:=y1 q oa;omega
   ·have:=y3 oa;omega
  have u:=x2 p1
  have v:=y2 p2
  omega
 ·by_cases q:a'< -2097152/\b'< -2097152
  ·have p1:a< -2097152:=by
    apply bC;intro hc
    by_cases q:a<=2097152
    ·have:=x1 oa q;omega
    ·have:=x2 oa;omega
   have p2:b< -2097152:=by
    apply bC;intro hc
    by_cases q:b<=2097152
    ·have:=y1 oa q;omega
    ·have:=y2 oa;omega
   have u:=x3 p1
   have v:=y3 p2
   omega
  ·exact .inl oa
structure Hf (d d':Int):Prop where
 p:0<=d->(d'=0/\d<=1064960)\/(d-1064960<=d'/\d'<=d-1032192/\0<=d')
 n:d<=0->(d'=0/\-1064960<=d)\/(d+1032192<=d'/\d'<=d+1064960/\d'<=0)
theorem IJ {h P:Int} (hh:-16777216<=h/\h<=16777216) (hP:-2097152<=P/\P<=2097152):Hf (P-h) (P-iE h (gx h P)):=by
 have f1:0<=h->0<=f9 h/\1024*f9 h<=h:=j9
 have f2:h<=0->f9 h<=0/\h<=1024*f9 h:=jU
 rcases jc hh hP with⟨a,b,e⟩|⟨a,e⟩|⟨a,e⟩<;>refine⟨fun _=>?_,fun _=>?_⟩<;>rw[e]<;>omega
theorem Hf.same:Hf 0 0:=⟨fun _=>.inl ⟨rfl,da⟩,fun _=>.inl ⟨rfl,da⟩⟩
theorem DJ {d b d' b' X:Int} (hd:Hf d d') (hb:Hf b b') (h:-X<=d+b/\d+b<=X):-(X+32768)<=d'+b'/\d'+b'<=X+32768:=by
 obtain⟨p,n⟩:=hd
 obtain⟨q,m⟩:=hb
 rcases Int.le_total 0 d with x|x<;>rcases Int.le_total 0 b with y|y
 ·have u:=p x
  have v:=q y
  omega
 ·have u:=p x
  have v:=m y
  omega
 ·have u:=n x
  have v:=q y
  omega
 ·have u:=n x
  have v:=m y
  omega
end
section
open Go.RowKit PM Dt
def lF (X:cG) (S:dw) (sun:Nat->Int):Nat->Int:=iH X.Q X.T (d7 X S sun).h
variable{X:cG} {S:dw} {sun:Nat->Int}
theorem ge (k:RI X S) (hs:ce (aF X sun)=true) (i:Nat) (hi:i<4):F8 (X.h i) ((d7 X S sun).h i)/\Hf (gE X i-X.h i) (gE X i-(d7 X S sun).h i):=by
 rw[zE k hs]
 split
 ·rename_i e
  have z:=k.z i hi e
  have t:gE X i=0:=fy hi e
  rw[z,t]
  exact⟨F8.same,Hf.same⟩
 ·exact⟨Ly (k.b.s.b i hi) (jm k i),IJ (k.b.s.b i hi) (jm k i)⟩
theorem FS (k:RI X S) (hs:ce (aF X sun)=true):∀i,i<3->(-1048576<=aC X.Q X.T i/\aC X.Q X.T i<=1048576)/\lF X S sun i=aC X.Q X.T i-((d7 X S sun).h i+(d7 X S sun).h 3):=fun i hi=>by
 have hS:=(k.tick hs).b.s
 rw[Ad k hs]at hS
 exact(eU k.b.q k.b.v k.b.t hS).2 i hi
theorem DR (k:RI X S):∀i,i<3->(-1048576<=aC X.Q X.T i/\aC X.Q X.T i<=1048576)/\aX X i=aC X.Q X.T i-(X.h i+X.h 3):=fun i hi=>(eU k.b.q k.b.v k.b.t k.b.s).2 i hi
theorem Eo (X:cG) {i:Nat} (hi:i<3):gE X i+gE X 3=aC X.Q X.T i:=lH (aC X.Q X.T) X.f hi
theorem I3 (k:RI X S) (hs:ce (aF X sun)=true) {i:Nat} (hi:i<3) {Z:Int} (h:-Z<=aX X i/\aX X i<=Z):-(Z+32768)<=lF X S sun i/\lF X S sun i<=Z+32768:=by
 have a:=(FS k hs i hi).2
 have b:=(DR k i hi).2
 have s:=Eo X hi
 have p:=DJ (X:=Z) (ge k hs i oa).2 (ge k hs 3 oa).2 oa
 omega
theorem vZ (k:RI X S) (hs:ce (aF X sun)=true) {n:Nat} (h:i8 n X) {i:Nat} (hi:i<3):
 (n<=13->-(1048576* (2* (15-(n:Int))+1))<=lF X S sun i/\lF X S sun i<=1048576* (2* (15-(n:Int))+1))/\(14<=n->-5242880<=lF X S sun i/\lF X S sun i<=5242880)/\
   (14<=n->n<=17->-(2* (4194304-830527* ((n:Int)-14)-1032192))<=lF X S sun i/\lF X S sun i<=2* (4194304-830527* ((n:Int)-14)-1032192))/\(18<=n->lF X S sun i=0):=by
 have a:=FS k hs i hi
 have st:=lq k hs h
 have s:=Eo X hi
 refine⟨fun hn=>?_,fun hn=>?_,fun hn hn2=>?_,fun hn=>?_⟩
 ·rcases st with⟨h1,h2⟩|⟨h1,h2,h3⟩|⟨h1,_⟩
  ·have u:=h2 i oa
   have v:=h2 3 oa
   omega
  ·have u:=(h3 i oa).1
   have v:=(h3 3 oa).1
   omega
  ·omega
 ·rcases st with⟨h1,h2⟩|⟨h1,h2,h3⟩|⟨h1,h2,_⟩
  ·omega
  ·have u:=(h3 i oa).1
   have v:=(h3 3 oa).1
   omega
  ·have hz:lF X S sun i=0:=by
    by_cases e:n=18
    ·rcases h with⟨h1,_⟩|⟨_,_,h3⟩|⟨h1,_⟩
     ·omega
     ·have c:=Jc k hs (fun i hi=>by have:=h3 i hi;omega)
      have c0:=c i oa
      have c3:=c 3 oa
      omega
     ·omega
    ·exact(pO k hs (n:=n) oa h).2.2 i hi
   omega
 ·rcases h with⟨h1,h2⟩|⟨_,_,h3⟩|⟨h1,_⟩
  ·have e:n=14:=oa
   subst e
   have d0:=(ge k hs i oa).2
   have d3:=(ge k hs 3 oa).2
   have u:=h2 i oa
   have v:=h2 3 oa
   have t0:=jm k i
   have t3:=jm k 3
   have p0:=d0.p
   have n0:=d0.n
   have p3:=d3.p
   have n3:=d3.n
   have x0:-3162112<=gE X i-(d7 X S sun).h i/\gE X i-(d7 X S sun).h i<=3162112:=by
    rcases Int.le_total 0 (gE X i-X.h i)with y|y
    ·have:=p0 y;omega
    ·have:=n0 y;omega
   have x3:-3162112<=gE X 3-(d7 X S sun).h 3/\gE X 3-(d7 X S sun).h 3<=3162112:=by
    rcases Int.le_total 0 (gE X 3-X.h 3)with y|y
    ·have:=p3 y;omega
    ·have:=n3 y;omega
   omega
  ·have d0:=(ge k hs i oa).2
   have d3:=(ge k hs 3 oa).2
   have u:=(h3 i oa).2
   have v:=(h3 3 oa).2
   obtain⟨E,hE⟩:∃E:Int,E=4194304-830527* ((n:Int)-14):=⟨_,rfl⟩
   rw[<-hE]at u v|-
   have hE1:872196<=E:=oa
   have hE2:1064960<=E:=oa
   have x0:-(E-1032192)<=gE X i-(d7 X S sun).h i/\gE X i-(d7 X S sun).h i<=E-1032192:=by
    rcases Int.le_total 0 (gE X i-X.h i)with y|y
    ·have:=d0.p y;omega
    ·have:=d0.n y;omega
   have x3:-(E-1032192)<=gE X 3-(d7 X S sun).h 3/\gE X 3-(d7 X S sun).h 3<=E-1032192:=by
    rcases Int.le_total 0 (gE X 3-X.h 3)with y|y
    ·have:=d3.p y;omega
    ·have:=d3.n y;omega
   omega
  ·omega
 ·by_cases e:n=18
  ·rcases h with⟨h1,_⟩|⟨_,_,h3⟩|⟨h1,_⟩
   ·omega
   ·have c:=Jc k hs (fun i hi=>by have:=h3 i hi;omega)
    have c0:=c i oa
    have c3:=c 3 oa
    omega
   ·omega
  ·exact(pO k hs (n:=n) oa h).2.2 i hi
end
section
open Go.RowKit PM Dt
structure kS (n:Nat) (X:cG) (M0:Nat->Int) (m0:Int):Prop where
 st:i8 n X
 v:vv (fun i=>10000*aX X i)<=((10000+42* (n:Int))*m0+700000000* (n:Int))* ((10000+42* (n:Int))*m0+700000000* (n:Int))
 w:∀i,i<3->(-(16777216-1048576* (n:Int)+2097152)<=X.h i+X.h 3/\X.h i+X.h 3<=16777216-1048576* (n:Int)+2097152)\/(∃a,(a=M0 i\/a=-M0 i)/\-(a+1048576-2097152* (n:Int))<=X.h i+X.h 3/\X.h i+X.h 3<=a+1048576-2097152* (n:Int))
theorem kS.start {X:cG} {S:dw} (k:RI X S) {m0:Int} (h:vv (aX X)<=m0*m0):kS 0 X (aX X) m0:=by
 refine⟨pW k,?_,fun i hi=>.inr ?_⟩
 ·have e:vv (fun i=>10000*aX X i)=100000000*vv (aX X):=by unfold vv;grind
  have e2:((10000+42* ((0:Nat):Int))*m0+700000000* ((0:Nat):Int))* ((10000+42* ((0:Nat):Int))*m0+700000000* ((0:Nat):Int))=100000000* (m0*m0):=by grind
  rw[e,e2];omega
 ·have a:=DR k i hi
  rcases Int.le_total 0 (aX X i)with y|y
  ·exact⟨_,.inl rfl,oa,oa⟩
  ·exact⟨_,.inr rfl,oa,oa⟩
variable{X:cG} {S:dw} {sun M0:Nat->Int} {m0:Int} {n:Nat}
theorem kS.l (p:kS n X M0 m0) (k:RI X S) (hs:ce (aF X sun)=true) (hm:0<=m0):vv (fun i=>10000*lF X S sun i)<=((10000+42* (n:Int))*m0+700000000* (n:Int)+655360000)* ((10000+42* (n:Int))*m0+700000000* (n:Int)+655360000):=by
 have V0:0<=(10000+42* (n:Int))*m0+700000000* (n:Int):=Int.add_nonneg (mN oa hm) oa
 have hv:=p.v
 generalize(10000+42* (n:Int))*m0+700000000* (n:Int)=V at *
 have y:vv (fun _=>(327680000:Int))<=655360000*655360000:=da
 have ab:vv (fun i=>if 0<=aX X i then 10000*aX X i else-(10000*aX X i))<=V*V:=by
  have e:vv (fun i=>if 0<=aX X i then 10000*aX X i else-(10000*aX X i))=vv (fun i=>10000*aX X i):=by
   have q:∀i,(if 0<=aX X i then 10000*aX X i else-(10000*aX X i))* (if 0<=aX X i then 10000*aX X i else-(10000*aX X i))=10000*aX X i* (10000*aX X i):=fun i=>by
    split
    ·rfl
    ·grind
   unfold vv
   simp only[q]
  rw[e];exact hv
 have t:=cE (z:=fun i=>(if 0<=aX X i then 10000*aX X i else-(10000*aX X i))+327680000) V0 da ab y fun i hi=>rfl
 have sq:∀i,i<3->10000*lF X S sun i* (10000*lF X S sun i)<=((if 0<=aX X i then 10000*aX X i else-(10000*aX X i))+327680000)* ((if 0<=aX X i then 10000*aX X i else-(10000*aX X i))+327680000):=fun i hi=>by
  have a:=I3 k hs hi (Z:=if 0<=aX X i then aX X i else-aX X i) (by split<;>omega)
  split
  ·rename_i h
   rw[if_pos h]at a
   exact(bR (P:=10000*aX X i+327680000) (R:=10000*aX X i+327680000) oa oa oa oa).2
  ·rename_i h
   rw[if_neg h]at a
   exact(bR (P:=-(10000*aX X i)+327680000) (R:=-(10000*aX X i)+327680000) oa oa oa oa).2
 have s0:=sq 0 oa
 have s1:=sq 1 oa
 have s2:=sq 2 oa
 refine iT ?_ t
 have e1:∀f:Nat->Int,vv f=f 0*f 0+f 1*f 1+f 2*f 2:=fun f=>rfl
 rw[e1,e1]
 exact Int.add_le_add (Int.add_le_add s0 s1) s2
theorem kS.lag (k:RI X S) (hs:ce (aF X sun)=true) {L:Int} (hL0:0<=L) (hL1:L<=134217728) (hD:4*vv (lF X S sun)<=L*L):
 (d7 X S sun).Q=bJ X.Q (lF X S sun)/\vv (fun i=>65536* (aX (d7 X S sun) i-lF X S sun i))<=(130*L+409600)* (130*L+409600):=by
 have hQ:=Hm k hs
 have kn:=k.tick hs
 have e:∀i,i<3->65536* (aX (d7 X S sun) i-lF X S sun i)=65536* (aC (bJ X.Q (lF X S sun)) X.T i-aC X.Q X.T i):=fun i hi=>by
  have a:=(DR kn i hi).2
  have b:=(FS k hs i hi).2
  have c:aC (d7 X S sun).Q (d7 X S sun).T=aC (bJ X.Q (lF X S sun)) X.T:=by
   rw[gM _ (ID k hs),hQ];rfl
  rw[a,b,c];omega
 refine⟨hQ,?_⟩
 rw[yu e]
 exact o5 k.b.q k.b.v (iP k.b.t).1 (iP k.b.t).2 hL0 hL1 hD
theorem kS.step (p:kS n X M0 m0) (k:RI X S) (hs:ce (aF X sun)=true) (hm:0<=m0) (hm1:m0<=60000000) (hn:n<=11):kS (n+1) (d7 X S sun) M0 m0:=by
 have st:=lq k hs p.st
 have L:=p.l k hs hm
 refine⟨st,?_,fun i hi=>?_⟩
 ·have nm:0<=(n:Int)*m0/\(n:Int)*m0<=11*m0:=⟨mN oa hm,mR oa hm⟩
  have e1:(10000+42* (n:Int))*m0=10000*m0+42* ((n:Int)*m0):=by grind
  have e2:(10000+42* ((n+1:Nat):Int))*m0=10000*m0+42* ((n:Int)*m0)+42*m0:=by
   have:((n+1:Nat):Int)=(n:Int)+1:=oa
   rw[this];grind
  rw[e2]
  rw[e1]at L
  obtain⟨W,hW⟩:∃W,W=10000*m0+42* ((n:Int)*m0)+700000000* (n:Int)+655360000:=⟨_,rfl⟩
  rw[<-hW]at L
  have el:vv (fun i=>10000*lF X S sun i)=100000000*vv (lF X S sun):=by unfold vv;grind
  rw[el]at L
  obtain⟨Q,hQ⟩:∃Q,Q=W/5000+1:=⟨_,rfl⟩
  have hWQ:W<=5000*Q:=oa
  have WW:=mM hWQ hWQ oa oa
  have e3:5000*Q* (5000*Q)=25000000* (Q*Q):=by grind
  obtain⟨_,lg⟩:=kS.lag k hs (L:=Q) oa oa oa
  have a1:vv (fun i=>65536* (10000*lF X S sun i))<=(65536*W)* (65536*W):=by
   have e:vv (fun i=>65536* (10000*lF X S sun i))=4294967296*vv (fun i=>10000*lF X S sun i):=by unfold vv;grind
   have e':(65536*W)* (65536*W)=4294967296* (W*W):=by grind
   rw[e,e',el];omega
  have a2:vv (fun i=>10000* (65536* (aX (d7 X S sun) i-lF X S sun i)))<=(10000* (130*Q+409600))* (10000* (130*Q+409600)):=by
   have e:=ef 10000 fun i=>65536* (aX (d7 X S sun) i-lF X S sun i)
   have e':(10000* (130*Q+409600))* (10000* (130*Q+409600))=10000*10000* ((130*Q+409600)* (130*Q+409600)):=by grind
   rw[e,e'];omega
  have t:=cE (z:=fun i=>65536* (10000*aX (d7 X S sun) i)) (show 0<=65536*W by omega) (show 0<=10000* (130*Q+409600) by omega) a1 a2 fun i hi=>by
   show 65536* (10000*aX (d7 X S sun) i)=65536* (10000*lF X S sun i)+10000* (65536* (aX (d7 X S sun) i-lF X S sun i));omega
  exact cF (v:=fun i=>10000*aX (d7 X S sun) i) (N:=65536) da oa t oa
 ·have wi:=(ge k hs i oa).1
  have w3:=(ge k hs 3 oa).1
  have bb:∀j,j<4->-(16777216-1048576* ((n+1:Nat):Int))<=(d7 X S sun).h j/\(d7 X S sun).h j<=16777216-1048576* ((n+1:Nat):Int):=fun j hj=>by
   rcases st with⟨_,h2⟩|⟨h1,_⟩|⟨h1,_⟩
   ·exact h2 j hj
   ·omega
   ·omega
  rcases p.w i hi with h|⟨a,ha,h⟩
  ·rcases ry (B:=16777216-1048576* ((n+1:Nat):Int)) (S:=0) wi w3 oa (bb i oa) (bb 3 oa) (.inl oa)with q|q
   ·exact .inl oa
   ·exact .inl oa
  ·rcases ry (B:=16777216-1048576* ((n+1:Nat):Int)) wi w3 oa (bb i oa) (bb 3 oa) (.inr h)with q|q
   ·exact .inl oa
   ·exact .inr ⟨a,ha,oa,oa⟩
end
section
open Go.RowKit PM Dt
def yJ (k:Nat):Int:=[112603589,105338841,98074094,90809346,83544598,76279851,69015103,61750355,54485608,47220860,39956112,32691365,25426617,18161870,18161870,18161870,18161870,18161870,14529496,14529496].getD k 0
def tZ (k:Nat):Int:=[2204432,3298745,4736543,6648918,9223713,12735985,17600375,24466255,34404509,32691365,39956112,32691365,25426617,18161870,18161870,16153695,10399635,4645576,0,0].getD k 0
def tU (k:Nat):Int:=[121000000,93084811,71737505,55405957,42904842,33328948,25986986,20351032,16017920,12679762,10101431,8103363,6548431,5331912,4373832,3642167,3083409,2656697,2330826,2067441,1866299].getD k 0
def tA (k:Nat):Int:=[1974000,1470457,1093304,810808,599204,440694,321947,232981,166318,116358].getD k 0
def tG (k:Nat):Int:=[230000000000,400314975803,528424810239,624925844150,697754021195,752852827212,794673531698,826549834884,850978453099,869829258258].getD k 0
def tC (k:Nat):Int:=[1036679,1507504,2144719,3010984,4195830,5830025,8110272,11344075,16037846,23085936].getD k 0
def tP (k:Nat):Int:=[2000200,1535510,1180670,909719,702833,544872,424274,332210,261936,208303,167378,127825,97619,74551,56935,43482,33208,25362,19370,14794,11299].getD k 0
def tQ (k:Nat):Int:=[227110000000,403305165207,538421597602,642167046430,721955120173,783447439188,830967666523,867817694743,896519111305,918997600700,936723768577,1104467277203,1203520859615,1250117357814,1256652451548,1261643168255,1265454475982,1268365093323,1270587871937,1257761523259,1247966304515].getD k 0
def tT:Nat->Bn
 |0=>Bn.ent
 |k+1=>((tT k).step (tZ k)).mx Bn.ent
def qs (L:Int):Int:=(32768*454060+2* (130*L+409600)+131071)/65536
def ww (k:Nat):Int:=if k<=13 then 1048576* (2* (15-(k:Int))+1)else if k<=17 then 5242880 else 0
theorem y7:∀k:Nat,k<20->(0<=yJ k/\yJ k<=120000000/\12* (ww k*ww k)<=yJ k*yJ k)/\(0<=tZ k/\tZ k<=66000000)/\(0<=tU k/\tU k<=130000000/\1015700* ((30075*tU k+19371899)/40000)+1007900*qs (yJ k)+9000000<=1000000*tU (k+1))/\(tT k).fit=true/\(10<=k->k<=14->12* (ww k*ww k)<=tZ k*tZ k)/\(15<=k->k<=17->12* ((2* (4194304-830527* ((k:Int)-14)-1032192))* (2* (4194304-830527* ((k:Int)-14)-1032192)))<=tZ k*tZ k):=by decide+kernel
theorem Ei:∀k:Nat,k<9->((10000+42* (k:Int))*tC k+700000000* (k:Int)+655360000)/5000+1<=tZ k/\tC k<=tC (k+1):=by decide+kernel
variable{X:cG} {S:dw} {sun M0 A b B p:Nat->Int} {m0:Int} {k:Nat}
structure PA (k:Nat) (X:cG) (A b:Nat->Int) (m0:Int):Prop where
 F:FI A b
 z:∀i,i<3->b i=0
 n:Nr A X.Q (tU k)
 s:0<=eD A X.Q 0
 c:k<=9->∀x,0<=x->Nr A X.Q x->tA k*m0<=1000000*x+tG k
 u:∀x,tP k*m0+tQ k<=1000000*x->Nr A X.Q x
def PF (k:Nat) (X:cG) (A b B:Nat->Int) (m0:Int):Prop:=PA k X A b m0\/(jK (tT k) A b B X.Q/\(k<=9->m0<=tC k))
theorem q8 {l:Nat->Int} {C L:Int} (h:∀i,i<3->-C<=l i/\l i<=C) (hL:12* (C*C)<=L*L):4*vv l<=L*L:=by
 have q:=fun i hi=>(bR (h i hi).1 (h i hi).2 (h i hi).1 (h i hi).2).2
 have q0:=q 0 oa
 have q1:=q 1 oa
 have q2:=q 2 oa
 unfold vv;omega
theorem C8 (r:RI X S) (hs:ce (aF X sun)=true) (st:i8 k X):∀i,i<3->-ww k<=lF X S sun i/\lF X S sun i<=ww k:=fun i hi=>by
 obtain⟨b1,b2,_,b4⟩:=vZ r hs st hi
 unfold ww
 split
 ·exact b1 oa
 ·split
  ·exact b2 oa
  ·rw[b4 oa];omega
theorem Kv (r:RI X S) (hs:ce (aF X sun)=true) (st:i8 k X) (hk:k<20) (hp:k<=9->kS k X M0 m0) (hM0:vv M0<=m0*m0) (hm:0<=m0) (hm1:m0<=60000000) (hc:k<=9->m0<=tC k):4*vv (lF X S sun)<=tZ k*tZ k:=by
 obtain⟨_,_,_,_,t5,t6⟩:=y7 k hk
 by_cases h8:k<=8
 ·have L:=(hp oa).l r hs hm
  have n:=(Ei k oa).1
  have c:=hc oa
  have e:vv (fun i=>10000*lF X S sun i)=100000000*vv (lF X S sun):=by unfold vv;grind
  rw[e]at L
  have V:(10000+42* (k:Int))*m0<=(10000+42* (k:Int))*tC k:=mL c oa
  have V0:0<=(10000+42* (k:Int))*m0:=mN oa hm
  generalize(10000+42* (k:Int))*m0=v at *
  generalize(10000+42* (k:Int))*tC k=w at *
  have q:=mM (show v+700000000* (k:Int)+655360000<=5000*tZ k by omega) (show v+700000000* (k:Int)+655360000<=5000*tZ k by omega) oa oa
  have e2:5000*tZ k* (5000*tZ k)=25000000* (tZ k*tZ k):=by grind
  omega
 ·by_cases h9:k=9
  ·subst h9
   have P:=((hp oa).step r hs hm hm1 oa).w
   have c:=hc oa
   have c9:tC 9=23085936:=rfl
   refine q8 (C:=9437184) (fun i hi=>?_) da
   have a:=FS r hs i hi
   have mb:=bY hm hM0 hi
   rcases P i hi with h|⟨a',ha,h⟩<;>omega
  ·by_cases h14:k<=14
   ·exact q8 (C8 r hs st) (t5 oa h14)
   ·by_cases h17:k<=17
    ·refine q8 (fun i hi=>?_) (t6 oa h17)
     exact(vZ r hs st hi).2.2.1 oa h17
    ·refine q8 (C:=0) (fun i hi=>?_) (av _)
     rw[(vZ r hs st hi).2.2.2 oa];omega
theorem Kg (r:RI X S) (hs:ce (aF X sun)=true) (st:i8 k X) (hk:k<20):4*vv (lF X S sun)<=yJ k*yJ k:=q8 (C8 r hs st) (y7 k hk).1.2.2
theorem II {v L:Int} (h:100000000*v<=(5000*L)* (5000*L)):4*v<=L*L:=by
 have e2:5000*L* (5000*L)=25000000* (L*L):=by grind
 omega
theorem AQ {x y1 y2 L De:Int} (hk:k<9) (hx:0<=x) (hm:0<=m0) (hL:5000*L<=(10000+42* (k:Int))*m0+700000000* (k:Int)+655360000+5000) (hD:De=qs L) (h1:y1=(10004*x+10004*De+109999)/10000) (h2:y2=(13347*y1+6475999)/10000) (h:tA k*m0<=1000000*y2+tG k):tA (k+1)*m0<=1000000*x+tG (k+1):=by
 unfold qs at hD
 by_cases e0:k=0
 ·subst e0
  have h:1974000*m0<=1000000*y2+230000000000:=h
  show 1470457*m0<=1000000*x+400314975803
  have hL:5000*L<=10000*m0+655365000:=oa
  omega
 by_cases e1:k=1
 ·subst e1
  have h:1470457*m0<=1000000*y2+400314975803:=h
  show 1093304*m0<=1000000*x+528424810239
  have hL:5000*L<=10042*m0+1355365000:=oa
  omega
 by_cases e2:k=2
 ·subst e2
  have h:1093304*m0<=1000000*y2+528424810239:=h
  show 810808*m0<=1000000*x+624925844150
  have hL:5000*L<=10084*m0+2055365000:=oa
  omega
 by_cases e3:k=3
 ·subst e3
  have h:810808*m0<=1000000*y2+624925844150:=h
  show 599204*m0<=1000000*x+697754021195
  have hL:5000*L<=10126*m0+2755365000:=oa
  omega
 by_cases e4:k=4
 ·subst e4
  have h:599204*m0<=1000000*y2+697754021195:=h
  show 440694*m0<=1000000*x+752852827212
  have hL:5000*L<=10168*m0+3455365000:=oa
  omega
 by_cases e5:k=5
 ·subst e5
  have h:440694*m0<=1000000*y2+752852827212:=h
  show 321947*m0<=1000000*x+794673531698
  have hL:5000*L<=10210*m0+4155365000:=oa
  omega
 by_cases e6:k=6
 ·subst e6
  have h:321947*m0<=1000000*y2+794673531698:=h
  show 232981*m0<=1000000*x+826549834884
  have hL:5000*L<=10252*m0+4855365000:=oa
  omega
 by_cases e7:k=7
 ·subst e7
  have h:232981*m0<=1000000*y2+826549834884:=h
  show 166318*m0<=1000000*x+850978453099
  have hL:5000*L<=10294*m0+5555365000:=oa
  omega
 by_cases e8:k=8
 ·subst e8
  have h:166318*m0<=1000000*y2+850978453099:=h
  show 116358*m0<=1000000*x+869829258258
  have hL:5000*L<=10336*m0+6255365000:=oa
  omega
 omega
theorem FX (hk:k<=9) (hm:0<=m0) (h:tA k*m0<=1000000*1816404+tG k):m0<=tC k:=by
 by_cases e0:k=0
 ·subst e0
  have h:1974000*m0<=1000000*1816404+230000000000:=h
  show m0<=1036679
  omega
 by_cases e1:k=1
 ·subst e1
  have h:1470457*m0<=1000000*1816404+400314975803:=h
  show m0<=1507504
  omega
 by_cases e2:k=2
 ·subst e2
  have h:1093304*m0<=1000000*1816404+528424810239:=h
  show m0<=2144719
  omega
 by_cases e3:k=3
 ·subst e3
  have h:810808*m0<=1000000*1816404+624925844150:=h
  show m0<=3010984
  omega
 by_cases e4:k=4
 ·subst e4
  have h:599204*m0<=1000000*1816404+697754021195:=h
  show m0<=4195830
  omega
 by_cases e5:k=5
 ·subst e5
  have h:440694*m0<=1000000*1816404+752852827212:=h
  show m0<=5830025
  omega
 by_cases e6:k=6
 ·subst e6
  have h:321947*m0<=1000000*1816404+794673531698:=h
  show m0<=8110272
  omega
 by_cases e7:k=7
 ·subst e7
  have h:232981*m0<=1000000*1816404+826549834884:=h
  show m0<=11344075
  omega
 by_cases e8:k=8
 ·subst e8
  have h:166318*m0<=1000000*1816404+850978453099:=h
  show m0<=16037846
  omega
 by_cases e9:k=9
 ·subst e9
  have h:116358*m0<=1000000*1816404+869829258258:=h
  show m0<=23085936
  omega
 omega
theorem Nr.mono {A Q:Nat->Int} {x y:Int} (h:Nr A Q x) (h0:0<=x) (hy:x<=y):Nr A Q y:=iT h (mM oa oa oa oa)
theorem Iv:∀k:Nat,k<20->0<=tP k/\0<=tQ k:=da
theorem Dv {x0 y1 y L De:Int} (hk:k<20) (hm:0<=m0) (hL:k<=9->5000*L<=(10000+42* (k:Int))*m0+700000000* (k:Int)+655360000+5000) (hL2:L<=yJ k) (hD:De=qs L) (h0:x0=(tP k*m0+tQ k+999999)/1000000) (h1:y1=(30075*x0+19371899)/40000) (h:tP (k+1)*m0+tQ (k+1)<=1000000*y):1015700*y1+1007900*De+9000000<=1000000*y:=by
 unfold qs at hD
 by_cases e0:k=0
 ·subst e0
  have h0:x0=(2000200*m0+227110000000+999999)/1000000:=h0
  have h:1535510*m0+403305165207<=1000000*y:=h
  have hL:5000*L<=10000*m0+655365000:=by have:=hL oa;omega
  omega
 by_cases e1:k=1
 ·subst e1
  have h0:x0=(1535510*m0+403305165207+999999)/1000000:=h0
  have h:1180670*m0+538421597602<=1000000*y:=h
  have hL:5000*L<=10042*m0+1355365000:=by have:=hL oa;omega
  omega
 by_cases e2:k=2
 ·subst e2
  have h0:x0=(1180670*m0+538421597602+999999)/1000000:=h0
  have h:909719*m0+642167046430<=1000000*y:=h
  have hL:5000*L<=10084*m0+2055365000:=by have:=hL oa;omega
  omega
 by_cases e3:k=3
 ·subst e3
  have h0:x0=(909719*m0+642167046430+999999)/1000000:=h0
  have h:702833*m0+721955120173<=1000000*y:=h
  have hL:5000*L<=10126*m0+2755365000:=by have:=hL oa;omega
  omega
 by_cases e4:k=4
 ·subst e4
  have h0:x0=(702833*m0+721955120173+999999)/1000000:=h0
  have h:544872*m0+783447439188<=1000000*y:=h
  have hL:5000*L<=10168*m0+3455365000:=by have:=hL oa;omega
  omega
 by_cases e5:k=5
 ·subst e5
  have h0:x0=(544872*m0+783447439188+999999)/1000000:=h0
  have h:424274*m0+830967666523<=1000000*y:=h
  have hL:5000*L<=10210*m0+4155365000:=by have:=hL oa;omega
  omega
 by_cases e6:k=6
 ·subst e6
  have h0:x0=(424274*m0+830967666523+999999)/1000000:=h0
  have h:332210*m0+867817694743<=1000000*y:=h
  have hL:5000*L<=10252*m0+4855365000:=by have:=hL oa;omega
  omega
 by_cases e7:k=7
 ·subst e7
  have h0:x0=(332210*m0+867817694743+999999)/1000000:=h0
  have h:261936*m0+896519111305<=1000000*y:=h
  have hL:5000*L<=10294*m0+5555365000:=by have:=hL oa;omega
  omega
 by_cases e8:k=8
 ·subst e8
  have h0:x0=(261936*m0+896519111305+999999)/1000000:=h0
  have h:208303*m0+918997600700<=1000000*y:=h
  have hL:5000*L<=10336*m0+6255365000:=by have:=hL oa;omega
  omega
 by_cases e9:k=9
 ·subst e9
  have h0:x0=(208303*m0+918997600700+999999)/1000000:=h0
  have h:167378*m0+936723768577<=1000000*y:=h
  have hL:5000*L<=10378*m0+6955365000:=by have:=hL oa;omega
  omega
 by_cases e10:k=10
 ·subst e10
  have h0:x0=(167378*m0+936723768577+999999)/1000000:=h0
  have h:127825*m0+1104467277203<=1000000*y:=h
  have hL2:L<=39956112:=hL2
  omega
 by_cases e11:k=11
 ·subst e11
  have h0:x0=(127825*m0+1104467277203+999999)/1000000:=h0
  have h:97619*m0+1203520859615<=1000000*y:=h
  have hL2:L<=32691365:=hL2
  omega
 by_cases e12:k=12
 ·subst e12
  have h0:x0=(97619*m0+1203520859615+999999)/1000000:=h0
  have h:74551*m0+1250117357814<=1000000*y:=h
  have hL2:L<=25426617:=hL2
  omega
 by_cases e13:k=13
 ·subst e13
  have h0:x0=(74551*m0+1250117357814+999999)/1000000:=h0
  have h:56935*m0+1256652451548<=1000000*y:=h
  have hL2:L<=18161870:=hL2
  omega
 by_cases e14:k=14
 ·subst e14
  have h0:x0=(56935*m0+1256652451548+999999)/1000000:=h0
  have h:43482*m0+1261643168255<=1000000*y:=h
  have hL2:L<=18161870:=hL2
  omega
 by_cases e15:k=15
 ·subst e15
  have h0:x0=(43482*m0+1261643168255+999999)/1000000:=h0
  have h:33208*m0+1265454475982<=1000000*y:=h
  have hL2:L<=18161870:=hL2
  omega
 by_cases e16:k=16
 ·subst e16
  have h0:x0=(33208*m0+1265454475982+999999)/1000000:=h0
  have h:25362*m0+1268365093323<=1000000*y:=h
  have hL2:L<=18161870:=hL2
  omega
 by_cases e17:k=17
 ·subst e17
  have h0:x0=(25362*m0+1268365093323+999999)/1000000:=h0
  have h:19370*m0+1270587871937<=1000000*y:=h
  have hL2:L<=18161870:=hL2
  omega
 by_cases e18:k=18
 ·subst e18
  have h0:x0=(19370*m0+1270587871937+999999)/1000000:=h0
  have h:14794*m0+1257761523259<=1000000*y:=h
  have hL2:L<=14529496:=hL2
  omega
 by_cases e19:k=19
 ·subst e19
  have h0:x0=(14794*m0+1257761523259+999999)/1000000:=h0
  have h:11299*m0+1247966304515<=1000000*y:=h
  have hL2:L<=14529496:=hL2
  omega
 omega
theorem gB (r:BI X):∀i,i<3->-34603008<=aX X i/\aX X i<=34603008:=fun i hi=>by
 have a:(-1048576<=aC X.Q X.T i/\aC X.Q X.T i<=1048576)/\iH X.Q X.T X.h i=aC X.Q X.T i-(X.h i+X.h 3):=(eU r.q r.v r.t r.s).2 i hi
 have h0:=r.s.b i oa
 have h3:=r.s.b 3 oa
 show _<=iH X.Q X.T X.h i/\iH X.Q X.T X.h i<=_
 omega
theorem Je (hk:k<20):0<=qs (yJ k)/\qs (yJ k)<=1300000:=by
 have:=(y7 k hk).1
 unfold qs;omega
theorem PF.step (h:PF k X A b B m0) (r:RI X S) (hs:ce (aF X sun)=true) (st:i8 k X) (hk:k<20) (hp:k<=9->kS k X M0 m0) (hM0:vv M0<=m0*m0) (hm:0<=m0) (hm1:m0<=60000000) (hB:∀i,i<3->-262144<=B i/\B i<=262144) (sq:qr p X.Q):
 PF (k+1) (d7 X S sun) (dL A b B p (aX (d7 X S sun))) (b9 A b p) B m0:=by
 obtain⟨⟨tA0,tA1,_⟩,⟨tB0,tB1⟩,⟨tU0,tU1,tU2⟩,tF,_⟩:=y7 k hk
 have learn:jK (tT k) A b B X.Q->(k<=9->m0<=tC k)->PF (k+1) (d7 X S sun) (dL A b B p (aX (d7 X S sun))) (b9 A b p) B m0:=fun M hc=>by
  have l:=Kv r hs st hk hp hM0 hm hm1 hc
  obtain⟨eQ,lg⟩:=kS.lag r hs (L:=tZ k) tB0 oa l
  refine .inr ⟨?_,fun h9=>iT (hc oa) (Ei k oa).2⟩
  rw[eQ]
  exact(M.step r.b.q r.b.v hB tF sq tB0 tB1 l fun i hi=>bY (v:=fun i=>65536* (aX (d7 X S sun) i-lF X S sun i)) oa lg hi).mono (Bn.le_mx _ _).1
 rcases h with h|⟨M,hc⟩
 ·have E0:=qM h.F.i h.F.v r.b.q r.b.v tU0 tU1 h.n h.s
  cases hsm:aE (bO (am A p)) 1048576 with
  | true=>
    have M:=y6 h.F r.b.q r.b.v hB h.z oa sq hsm
    have le:Bn.ent.le (tT k)=true:=by
     cases k with
     |zero=>exact Bn.le_iff.2 ⟨iR _,iR _,iR _,iR _,iR _⟩
     |succ k=>exact(Bn.le_mx _ _).2
    refine learn (M.mono le) fun h9=>FX h9 hm (h.c h9 1816404 da ?_)
    have q:=fun i hi=>(bR (M.h i hi).o.1 (M.h i hi).o.2 (M.h i hi).o.1 (M.h i hi).o.2).2
    have q0:=q 0 oa
    have q1:=q 1 oa
    have q2:=q 2 oa
    have e:(1073741824*Bn.ent.o)* (1073741824*Bn.ent.o)=1267950305697989951954945540096000*1000+((1073741824*1048701)* (1073741824*1048701)-1267950305697989951954945540096000*1000):=by unfold Bn.ent;decide
    rw[e]at q0 q1 q2
    show eD A X.Q 1*eD A X.Q 1+eD A X.Q 2*eD A X.Q 2+eD A X.Q 3*eD A X.Q 3<=_
    have q0:eD A X.Q 1*eD A X.Q 1<=_:=q0
    have q1:eD A X.Q 2*eD A X.Q 2<=_:=q1
    have q2:eD A X.Q 3*eD A X.Q 3<=_:=q2
    omega
  | false=>
    have l:=Kg r hs st hk
    obtain⟨eQ,lg⟩:=kS.lag r hs (L:=yJ k) tA0 oa l
    have kn:=(r.tick hs).b
    obtain⟨d0,d1⟩:=Je hk
    obtain⟨cb,up,_⟩:=ox h.F r.b.q r.b.v hB h.z hsm tU0 tU1 h.n h.s sq.I sq.v sq.z tA0 tA1 l lg (gB kn) d0 d1 (by unfold qs;omega)
    obtain⟨n1,s1⟩:=up ((30075*tU k+19371899)/40000) (tU (k+1)) oa tU2
    have V0:0<=(10000+42* (k:Int))*m0:=mN oa hm
    obtain⟨L,hLe⟩:∃L,L=if k<=9 then jF (((10000+42* (k:Int))*m0+700000000* (k:Int)+655360000)/5000+1) (yJ k)else yJ k:=⟨_,rfl⟩
    have L1:0<=L/\L<=120000000/\(k<=9->5000*L<=(10000+42* (k:Int))*m0+700000000* (k:Int)+655360000+5000)/\L<=yJ k:=by
     rw[hLe];unfold jF;split<;>(try split)<;>omega
    have l2:4*vv (lF X S sun)<=L*L:=by
     rw[hLe]
     split
     ·have V:=(hp oa).l r hs hm
      have eV:vv (fun i=>10000*lF X S sun i)=100000000*vv (lF X S sun):=by unfold vv;grind
      rw[eV]at V
      unfold jF
      split
      ·refine II (iT V ?_)
       have z:(10000+42* (k:Int))*m0+700000000* (k:Int)+655360000<=5000* (((10000+42* (k:Int))*m0+700000000* (k:Int)+655360000)/5000+1):=oa
       exact mM z z oa oa
      ·exact l
     ·exact l
    obtain⟨_,lg2⟩:=kS.lag r hs (L:=L) L1.1 oa l2
    have dd:0<=qs L/\qs L<=1300000:=by unfold qs at d1|-;omega
    obtain⟨_,up2,dn⟩:=ox h.F r.b.q r.b.v hB h.z hsm tU0 tU1 h.n h.s sq.I sq.v sq.z L1.1 L1.2.1 l2 lg2 (gB kn) (De:=qs L) dd.1 dd.2 (by unfold qs;omega)
    refine .inl ⟨(h.F.cor sq.I).pred _,fun i hi=>by rw[cb];exact h.z i hi,by rw[eQ];exact n1,by rw[eQ];exact s1,fun h9 x hx hn=>?_,fun y hy=>?_⟩
    rotate_left
    ·rw[eQ]
     obtain⟨x0,hx0⟩:∃x0,x0=(tP k*m0+tQ k+999999)/1000000:=⟨_,rfl⟩
     have pq:=Iv k hk
     have x00:0<=tP k*m0:=mN pq.1 hm
     have n0:=h.u x0 oa
     by_cases hx1:x0<=tU k
     ·obtain⟨_,up3,_⟩:=ox h.F r.b.q r.b.v hB h.z hsm (x:=x0) oa oa n0 h.s sq.I sq.v sq.z L1.1 L1.2.1 l2 lg2 (gB kn) (De:=qs L) dd.1 dd.2 (by unfold qs;omega)
      exact(up3 ((30075*x0+19371899)/40000) y oa (Dv hk hm L1.2.2.1 L1.2.2.2 rfl hx0 rfl hy)).1
     ·have un:=Dv (y:=y) hk hm L1.2.2.1 L1.2.2.2 rfl hx0 rfl hy
      exact(up2 ((30075*tU k+19371899)/40000) y oa oa).1
    rw[eQ]at hn
    obtain⟨y1,hy1⟩:∃y1,y1=(10004*x+10004*qs L+109999)/10000:=⟨_,rfl⟩
    obtain⟨y2,hy2⟩:∃y2,y2=(13347*y1+6475999)/10000:=⟨_,rfl⟩
    have nA:=dn x y1 y2 hx hn oa oa
    exact AQ oa hx hm (L1.2.2.1 oa) rfl hy1 hy2 (h.c oa y2 oa nA)
 ·exact learn M hc
end
end Go.Proofs.YtbhahonkhiiilaaGreat
