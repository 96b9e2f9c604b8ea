/-
  Norms of quaternions: unit quaternions, products, turned attitudes. No program in sight.
-/
import Derived.Test.YtbhahonkhiiilaaGreatLawQ
import Derived.Test.YtbhahonkhiiilaaGreatFlC
set_option linter.unusedSimpArgs false
set_option linter.unusedVariables false
namespace Go.Proofs.YtbhahonkhiiilaaGreat
open Go.RowKit PM Dt
def nn (f:Nat->Int):Int:=f 0*f 0+f 1*f 1+f 2*f 2+f 3*f 3
theorem sP (f:Nat->Int):((i6 [f 0,f 1,f 2,f 3]:Nat):Int)=nn f:=by
 unfold nn
 rw[Hx]
 have e0:=Int.natAbs_mul_self' (f 0)
 have e1:=Int.natAbs_mul_self' (f 1)
 have e2:=Int.natAbs_mul_self' (f 2)
 have e3:=Int.natAbs_mul_self' (f 3)
 simp only[Int.natCast_add,Int.natCast_mul]
 omega
theorem aT (f:Nat->Int):0<=nn f:=by
 have h0:=av (f 0)
 have h1:=av (f 1)
 have h2:=av (f 2)
 have h3:=av (f 3)
 unfold nn;omega
theorem iB {f:Nat->Int} (h:eX f=true) {i:Nat} (hi:i<4):-1099511627776<=f i/\f i<=1099511627776:=(bE _).1 ((bN f).1 h i hi)
theorem KB {f:Nat->Int} (h:eX f=true):nn f<=4835703278458516698824704:=by
 have q:∀i,i<4->f i*f i<=1208925819614629174706176:=fun i hi=>by
  have hh:=iB h hi
  exact(bR (P:=1099511627776) (R:=1099511627776) hh.1 hh.2 hh.1 hh.2).2
 have q0:=q 0 oa
 have q1:=q 1 oa
 have q2:=q 2 oa
 have q3:=q 3 oa
 unfold nn;omega
theorem Ep {f:Nat->Int} (h:eX f=true):gu (nQ f)=0/\∃N:Nat,dG (nQ f)=N/\(N:Int)*N<=nn f/\nn f<((N:Int)+1)* ((N:Int)+1):=by
 obtain⟨h1,h2⟩:=JY h
 have hS:i6 [f 0,f 1,f 2,f 3]<4^200:=by
  have a:=sP f
  have b:=KB h
  exact Nat.lt_of_le_of_lt (show i6 [f 0,f 1,f 2,f 3]<=4835703278458516698824704 by omega) da
 obtain⟨i1,i2⟩:=lB hS
 refine⟨h1,fY (i6 [f 0,f 1,f 2,f 3]),h2,?_,?_⟩
 ·rw[<-sP];exact_mod_cast i1
 ·rw[<-sP];exact_mod_cast i2
theorem GL {f:Nat->Int} (h:eX f=true) {a b:Int} (ha:0<=a) (hb:0<=b) (h1:a*a<=nn f) (h2:nn f<(b+1)* (b+1)):gu (nQ f)=0/\a<=dG (nQ f)/\dG (nQ f)<=b:=by
 obtain⟨hE,N,hN,n1,n2⟩:=Ep h
 refine⟨hE,?_,?_⟩
 ·rw[hN]
  have:=kA (a:=a) (b:=(N:Int)+1) ha oa oa
  omega
 ·rw[hN]
  have:=kA (a:=(N:Int)) (b:=b+1) oa oa oa
  omega
theorem vk {f:Nat->Int} (h:eX f=true) (h1:1073741820*1073741820<=nn f) (h2:nn f<1073741829*1073741829):au f=true:=by
 obtain⟨hE,l,u⟩:=GL h (a:=1073741820) (b:=1073741828) da da h1 h2
 unfold au
 rw[hE,dT l,dT u];rfl
theorem bm {f:Nat->Int} (hI:∀i,i<4->bu (f i)) (h:au f=true):eX f=true/\1073741820*1073741820<=nn f/\nn f<1073741829*1073741829:=by
 have hk:=q7 hI h
 obtain⟨hE,N,hN,n1,n2⟩:=Ep hk
 unfold au at h
 rw[hE,hN]at h
 simp only[Bool.and_eq_true,decide_eq_true_eq]at h
 refine⟨hk,?_,?_⟩
 ·have:=ov (a:=1073741820) (b:=(N:Int)) da h.2.1
  omega
 ·have:=ov (a:=(N:Int)+1) (b:=1073741829) oa oa
  omega
theorem A_ {F N:Int} (hN:0<N) (h1:-N-1<=F) (h2:F<=N+1) (hb:4294967296<=N):-1073741825<=b_ (F*1073741824) N/\b_ (F*1073741824) N<=1073741825:=by
 obtain⟨d,h,l,u⟩:=uE (F*1073741824) hN
 generalize b_ (F*1073741824) N=x at *
 constructor
 ·apply bC;intro hc
  have:N*x<=N* (-1073741826):=mL oa oa
  omega
 ·apply bC;intro hc
  have:N*1073741826<=N*x:=mL oa oa
  omega
theorem eF {f:Nat->Int} (hk:eX f=true) (hz:zQ f=false):
 te f=0/\eX (df f)=true/\(∃N P:Int,35184372088832<=N/\0<P/\N*N<=P*P*nn f/\P*P*nn f<(N+1)* (N+1)/\∀i,i<4->∃d,2* (N*df f i)=2* (1073741824* (P*f i))+d/\-N<=d/\d<=N)/\
 1073741822*1073741822<=nn (df f)/\nn (df f)<1073741826*1073741826:=by
 have hu:df f=uX f:=by unfold df;rw[hk,hz];rfl
 have hE:te f=0:=by unfold te;rw[hk,hz];rfl
 rw[hu]
 have HL:=GV hz
 have HU:=Cw hk
 have hF:=vn 45 f HU
 have hb:=rQ 45 4 f HL
 obtain⟨P,hP0,hP⟩:∃P:Int,0<P/\∀i,j7 4 45 f i=P*f i:=by
  have:∀(k:Nat) (f:Nat->Int),∃P:Int,0<P/\∀i,j7 4 k f i=P*f i:=by
   intro k
   induction k with
   |zero=>exact fun f=>⟨1,da,fun i=>(Int.one_mul _).symm⟩
   | succ k ih=>
     intro f
     unfold j7
     split
     ·obtain⟨P,h0,h⟩:=ih (zN f)
      exact⟨P*2,oa,fun i=>by rw[h i,Int.mul_assoc];rfl⟩
     ·exact⟨1,da,fun i=>(Int.one_mul _).symm⟩
  exact this 45 f
 have hnn:nn (j7 4 45 f)=P*P*nn f:=by
  unfold nn
  rw[hP 0,hP 1,hP 2,hP 3];grind
 unfold uX uN
 clear hu HL HU hk hz
 generalize j7 4 45 f=F at *
 have hS:=sP F
 have q:∀i,i<4->F i*F i<=4951760157141521099596496896:=fun i hi=>by
  have hh:=hF i hi
  exact(bR (P:=70368744177664) (R:=70368744177664) hh.1 hh.2 hh.1 hh.2).2
 have q0:=q 0 oa
 have q1:=q 1 oa
 have q2:=q 2 oa
 have q3:=q 3 oa
 have n0:=av (F 0)
 have n1:=av (F 1)
 have n2:=av (F 2)
 have n3:=av (F 3)
 obtain⟨j,hj,hs⟩:∃j,j<4/\sm (F j)=false:=by
  apply bC;intro hn
  have:vO 4 F=true:=(oz 4 F).2 fun i hi=>by
   cases hx:sm (F i)with
   |true=>rfl
   |false=>exact absurd ⟨i,hi,hx⟩ hn
  rw[hb]at this;cases this
 have big:1237940039285380274899124224<=F j*F j:=by
  have:¬(-35184372088832<F j/\F j<35184372088832):=fun hc=>by rw[(j2 _).2 hc]at hs;cases hs
  by_cases h:35184372088832<=F j
  ·exact mM h h oa oa
  ·have h2:35184372088832<=-F j:=oa
   have:=mM h2 h2 oa (by omega:(0:Int)<=-F j)
   rw[Int.neg_mul_neg]at this
   exact this
 have hSl:1237940039285380274899124224<=nn F:=by
  unfold nn
  have:j=0\/j=1\/j=2\/j=3:=oa
  rcases this with rfl|rfl|rfl|rfl<;>omega
 have hSu:nn F<=19807040628566084398385987584:=by unfold nn;omega
 obtain⟨S,hSS⟩:∃S,i6 [F 0,F 1,F 2,F 3]=S:=⟨_,rfl⟩
 rw[hSS]at hS
 have h4:S<4^200:=Nat.lt_of_le_of_lt (show S<=19807040628566084398385987584 by omega) da
 obtain⟨N,hN⟩:∃N,fY S=N:=⟨_,rfl⟩
 have hr:N<140737488355329:=by rw[<-hN];exact(fc h4).2 oa
 have hl:35184372088832<=N:=by rw[<-hN];exact(gN h4).2 oa
 have hu1:S<(N+1)* (N+1):=(fc h4).1 oa
 have hu2:N*N<=S:=(gN h4).1 oa
 have hn3:dG (nQ F)=(N:Int):=by
  unfold nQ ig
  rw[hSS,hN]
  exact(nB (q:=(N:Int)) oa oa).1
 rw[hn3]
 have hS1:(N:Int)*N<=nn F:=by rw[<-hS];exact_mod_cast hu2
 have hS2:nn F<((N:Int)+1)* ((N:Int)+1):=by rw[<-hS];exact_mod_cast hu1
 have hFN:∀i,i<4->-(N:Int)-1<=F i/\F i<=N+1:=fun i hi=>by
  have hle:F i*F i<=nn F:=by
   unfold nn
   have:i=0\/i=1\/i=2\/i=3:=oa
   rcases this with rfl|rfl|rfl|rfl<;>omega
  have:=td (a:=F i) (b:=(N:Int)+1) oa oa
  omega
 have hnb:∀i,i<4->-1073741825<=b_ (F i*1073741824) N/\b_ (F i*1073741824) N<=1073741825:=fun i hi=>A_ oa (hFN i hi).1 (hFN i hi).2 oa
 have hval:∀i,i<4->bG (F i) 1073741824 (N:Int)=b_ (F i*1073741824) (N:Int):=fun i hi=>by
  have:=hnb i hi
  unfold bG eM
  rw[if_neg oa,if_neg oa]
  exact(nB oa oa).1
 have herr:∀i,i<4->∃d,2* ((N:Int)*bG (F i) 1073741824 (N:Int))=2* (1073741824*F i)+d/\-(N:Int)<=d/\d<=N:=fun i hi=>by
  rw[hval i hi]
  obtain⟨d,h1,h2⟩:=uE (F i*1073741824) (b:=(N:Int)) oa
  exact⟨d,by rw[h1,Int.mul_comm (F i)],h2⟩
 obtain⟨d0,e0,b0⟩:=herr 0 oa
 obtain⟨d1,e1,b1⟩:=herr 1 oa
 obtain⟨d2,e2,b2⟩:=herr 2 oa
 obtain⟨d3,e3,b3⟩:=herr 3 oa
 have hA:=DL (a0:=(F 0).natAbs) (a1:=(F 1).natAbs) (a2:=(F 2).natAbs) (a3:=(F 3).natAbs) (N:=(N:Int)) oa oa oa oa oa (by rw[j1,j1,j1,j1];exact hS2)
 have core:=AN (a0:=(F 0).natAbs) (a1:=(F 1).natAbs) (a2:=(F 2).natAbs) (a3:=(F 3).natAbs) (c:=9) (N:=(N:Int)) oa hS1 hS2 e0 e1 e2 e3 b0 b1 b2 b3 oa oa oa oa hA
 refine⟨hE,(bN _).2 fun i hi=>(bE _).2 ?_,⟨N,P,oa,hP0,by rw[<-hnn];exact hS1,by rw[<-hnn];exact hS2,fun i hi=>by rw[<-hP i];exact herr i hi⟩,?_,?_⟩
 ·have:=hnb i hi
  rw[hval i hi];omega
 ·unfold nn
  generalize bG (F 0) 1073741824 (N:Int)*bG (F 0) 1073741824 (N:Int)=x0 at *
  generalize bG (F 1) 1073741824 (N:Int)*bG (F 1) 1073741824 (N:Int)=x1 at *
  generalize bG (F 2) 1073741824 (N:Int)*bG (F 2) 1073741824 (N:Int)=x2 at *
  generalize bG (F 3) 1073741824 (N:Int)*bG (F 3) 1073741824 (N:Int)=x3 at *
  have:=core.1
  omega
 ·unfold nn
  generalize bG (F 0) 1073741824 (N:Int)*bG (F 0) 1073741824 (N:Int)=x0 at *
  generalize bG (F 1) 1073741824 (N:Int)*bG (F 1) 1073741824 (N:Int)=x1 at *
  generalize bG (F 2) 1073741824 (N:Int)*bG (F 2) 1073741824 (N:Int)=x2 at *
  generalize bG (F 3) 1073741824 (N:Int)*bG (F 3) 1073741824 (N:Int)=x3 at *
  have:=core.2
  omega
theorem ip {f:Nat->Int} (hk:eX f=true) (hz:zQ f=false):au (df f)=true/\gu (nQ (df f))=0/\1073741822<=dG (nQ (df f))/\dG (nQ (df f))<=1073741825:=by
 obtain⟨_,h1,_,h2,h3⟩:=eF hk hz
 exact⟨vk h1 oa oa,GL h1 da da h2 oa⟩
theorem JU (f g:Nat->Int):d4 f g=f 0*g 0+f 1*g 1+f 2*g 2+f 3*g 3:=by
 unfold d4;rw[aK,aK,aK,aK,cJ];omega
def pe (f g:Nat->Int):Nat->Int
 |0=>f 0*g 0-f 1*g 1-f 2*g 2-f 3*g 3
 |1=>f 0*g 1+f 1*g 0+f 2*g 3-f 3*g 2
 |2=>f 0*g 2-f 1*g 3+f 2*g 0+f 3*g 1
 |_=>f 0*g 3+f 1*g 2-f 2*g 1+f 3*g 0
theorem JV (f g:Nat->Int) {i:Nat} (hi:i<4):d4 (JG f i) (Ki g i)=pe f g i:=by
 rw[JU]
 have:i=0\/i=1\/i=2\/i=3:=oa
 rcases this with rfl|rfl|rfl|rfl
 ·show f 0*g 0+-f 1*g 1+-f 2*g 2+-f 3*g 3=f 0*g 0-f 1*g 1-f 2*g 2-f 3*g 3
  grind
 ·show f 0*g 1+f 1*g 0+f 2*g 3+-f 3*g 2=f 0*g 1+f 1*g 0+f 2*g 3-f 3*g 2
  grind
 ·show f 0*g 2+-f 1*g 3+f 2*g 0+f 3*g 1=f 0*g 2-f 1*g 3+f 2*g 0+f 3*g 1
  grind
 ·show f 0*g 3+f 1*g 2+-f 2*g 1+f 3*g 0=f 0*g 3+f 1*g 2-f 2*g 1+f 3*g 0
  grind
theorem dR (f g:Nat->Int):nn (pe f g)=nn f*nn g:=by
 unfold nn pe
 grind
theorem fD {f g:Nat->Int} (hf:eX f=true) (hg:eX g=true) {i:Nat} (hi:i<4):∃e,1073741824*aY f g i=pe f g i+e/\-536870912<=e/\e<=536870912:=by
 unfold aY
 rw[hf,hg]
 show∃e,1073741824*gA (d4 (JG f i) (Ki g i))=_/\_
 rw[JV f g hi]
 exact mg _
theorem eS (g:Nat->Int):nn (rq g)=1152921504606846976+g 0*g 0+g 1*g 1+g 2*g 2:=rfl
theorem u6 {g:Nat->Int} (h:aE g 1073741824=true):eX (rq g)=true/\1152921504606846976<=nn (rq g)/\nn (rq g)<=4611686018427387904:=by
 have b:∀i,i<3->-1073741824<=g i/\g i<=1073741824:=fun i hi=>(cR _ _).1 ((bp g _).1 h i hi)
 have b0:=b 0 oa
 have b1:=b 1 oa
 have b2:=b 2 oa
 have s:∀i,i<3->g i*g i<=1152921504606846976:=fun i hi=>(bR (P:=1073741824) (R:=1073741824) (b i hi).1 (b i hi).2 (b i hi).1 (b i hi).2).2
 have s0:=s 0 oa
 have s1:=s 1 oa
 have s2:=s 2 oa
 have n0:=av (g 0)
 have n1:=av (g 1)
 have n2:=av (g 2)
 rw[eS]
 refine⟨(bN _).2 fun i hi=>(bE _).2 ?_,oa,oa⟩
 have:i=0\/i=1\/i=2\/i=3:=oa
 rcases this with rfl|rfl|rfl|rfl
 ·show-1099511627776<=(1073741824:Int)/\(1073741824:Int)<=1099511627776
  omega
 ·show-1099511627776<=g 0/\g 0<=1099511627776
  omega
 ·show-1099511627776<=g 1/\g 1<=1099511627776
  omega
 ·show-1099511627776<=g 2/\g 2<=1099511627776
  omega
theorem zM {f g:Nat->Int} (hf:eX f=true) (h1:1073741820*1073741820<=nn f) (h2:nn f<1073741829*1073741829) (hg:aE g 1073741824=true):
 eX (aY f (rq g))=true/\zQ (aY f (rq g))=false/\∀i,i<4->-2147483669<=aY f (rq g) i/\aY f (rq g) i<=2147483669:=by
 obtain⟨hr,r1,r2⟩:=u6 hg
 have hE:=dR f (rq g)
 have up:nn f*nn (rq g)<=1152921515344265241*4611686018427387904:=mM (show nn f<=1152921515344265241 by omega) r2 (aT _) da
 have lo:1152921496016912400*1152921504606846976<=nn f*nn (rq g):=mM oa r1 da (aT _)
 have s:∀i,i<4->pe f (rq g) i*pe f (rq g) i<=nn (pe f (rq g)):=fun i hi=>by
  have n0:=av (pe f (rq g) 0)
  have n1:=av (pe f (rq g) 1)
  have n2:=av (pe f (rq g) 2)
  have n3:=av (pe f (rq g) 3)
  unfold nn
  have:i=0\/i=1\/i=2\/i=3:=oa
  rcases this with rfl|rfl|rfl|rfl<;>omega
 have bd:∀i,i<4->-2305843019951112192<=pe f (rq g) i/\pe f (rq g) i<=2305843019951112192:=fun i hi=>by
  have:=td (a:=pe f (rq g) i) (b:=2305843019951112192+1) da (by have:=s i hi;omega)
  omega
 have bq:∀i,i<4->-2147483669<=aY f (rq g) i/\aY f (rq g) i<=2147483669:=fun i hi=>by
  obtain⟨e,h,l,u⟩:=fD hf hr hi
  have:=bd i hi
  omega
 refine⟨(bN _).2 fun i hi=>(bE _).2 (by have:=bq i hi;omega),?_,bq⟩
 cases hz:zQ (aY f (rq g))with
 |false=>rfl
 | true=>
   exfalso
   have z:∀i,i<4->aY f (rq g) i=0:=fun i hi=>by
    unfold zQ at hz
    rw[List.all_eq_true]at hz
    exact beq_iff_eq.1 (hz i (List.mem_range.2 hi))
   have sm:∀i,i<4->pe f (rq g) i*pe f (rq g) i<=288230376151711744:=fun i hi=>by
    obtain⟨e,h,l,u⟩:=fD hf hr hi
    rw[z i hi]at h
    exact(bR (P:=536870912) (R:=536870912) (a:=pe f (rq g) i) (b:=pe f (rq g) i) oa oa oa oa).2
   have s0:=sm 0 oa
   have s1:=sm 1 oa
   have s2:=sm 2 oa
   have s3:=sm 3 oa
   unfold nn at hE lo
   omega
theorem ir {f g:Nat->Int} (hI:∀i,i<4->bu (f i)) (hf:au f=true) (hg:aE g 1073741824=true):
 u9 f g=0/\aR f g=df (aY f (rq g))/\eX (aY f (rq g))=true/\zQ (aY f (rq g))=false:=by
 obtain⟨hk,l,u⟩:=bm hI hf
 obtain⟨h1,h2,_⟩:=zM hk l u hg
 unfold u9 aR ls
 rw[hf,hg]
 exact⟨(eF h1 h2).1,rfl,h1,h2⟩
theorem uy {f:Nat->Int} {m:Int} (h:aE f m=true):∀i,i<3->-m<=f i/\f i<=m:=by
 simp only[aE,sb,Bool.and_eq_true,decide_eq_true_eq]at h
 intro i hi
 rcases(show i=0\/i=1\/i=2 by omega)with rfl|rfl|rfl
 ·exact h.1
 ·exact h.2.1
 ·exact h.2.2
theorem JM {a:Int} (h:-1099511627776<=a/\a<=1099511627776):vb a=true:=(bE _).2 h
theorem wM {f:Nat->Int} (h:∀i,i<3->-1099511627776<=f i/\f i<=1099511627776):cx f=true:=(bK f).2 fun i hi=>JM (h i hi)
theorem ff {r B:Nat->Int} (hr:aE r 268435456=true) (hB:∀i,i<3->-16777216<=B i/\B i<=16777216):∀i,i<3->cu r B i=r i-B i:=by
 have h1:=uy hr
 have o1:cx r=true:=wM fun i hi=>by have:=h1 i hi;omega
 have o2:cx B=true:=wM fun i hi=>by have:=hB i hi;omega
 have o3:cx (kO r B)=true:=wM fun i hi=>by have:=hB i hi;have:=h1 i hi;unfold kO;omega
 intro i hi
 unfold cu iV
 rw[o1,o2,o3]
 rfl
theorem wN {a d:Int} (hd:0<d) (hd2:d<=1099511627776) (ha:bu a):bG a 1 d=(2*a+d)/(2*d):=by
 have h3:d≠0:=oa
 have h4:¬d<0:=oa
 have h0:(2*a+d)/(2*d)<=9223372036854775807/\-9223372036854775808<=(2*a+d)/(2*d):=by
  constructor
  ·refine Int.le_of_lt_add_one ((Int.ediv_lt_iff_lt_mul oa).2 ?_)
   have:=ha.2
   have h5:9223372036854775808* (2*d)≥9223372036854775808*2:=oa
   by_cases h6:d=1
   ·subst h6;omega
   ·omega
  ·refine(Int.le_ediv_iff_mul_le oa).2 ?_
   have:=ha.1
   omega
 unfold bG eM
 rw[if_neg h3,if_neg h4,Int.mul_one]
 unfold b_ dG jA
 rw[if_pos (by rw[Bool.and_eq_true,decide_eq_true_eq,decide_eq_true_eq];exact⟨h0.2,h0.1⟩)]
structure FI (Q B:Nat->Int):Prop where
 i:∀i,i<4->bu (Q i)
 v:au Q=true
 b:∀i,i<3->-16777216<=B i/\B i<=16777216
theorem Eb {Q:Nat->Int} (hI:∀i,i<4->bu (Q i)) (hv:au Q=true):zQ Q=false:=by
 obtain⟨_,h,_⟩:=bm hI hv
 cases hz:zQ Q with
 |false=>rfl
 | true=>
   exfalso
   have z:∀i,i<4->Q i=0:=fun i hi=>by
    unfold zQ at hz
    have:=List.all_eq_true.1 hz i (List.mem_range.2 hi)
    simpa using this
   unfold nn at h
   rw[z 0 oa,z 1 oa,z 2 oa,z 3 oa]at h
   omega
theorem FI.nz {Q B:Nat->Int} (h:FI Q B):zQ Q=false:=Eb h.i h.v
theorem cP {h:Nat->Int} {m:Int} (hh:∀i,i<3->-m<=h i/\h i<=m):aE h m=true:=(bp h m).2 fun i hi=>(cR _ _).2 (hh i hi)
theorem Dg {Q h:Nat->Int} (hI:∀i,i<4->bu (Q i)) (hv:au Q=true) (hh:aE h 1073741824=true):(∀i,i<4->bu (fL Q h i))/\au (fL Q h)=true:=by
 unfold fL
 split
 ·exact⟨hI,hv⟩
 ·obtain⟨_,h1,h2,h3⟩:=ir hI hv hh
  rw[h1]
  obtain⟨_,h4,_⟩:=eF h2 h3
  exact⟨fun i hi=>by have:=iB h4 hi;exact⟨oa,oa⟩,(ip h2 h3).1⟩
def yI (r:Nat->Int):Int:=if aE r 268435456 then 0 else 2
def eg (Q B r:Nat->Int):Nat->Int:=if aE r 268435456 then fL Q (aS (cu r B) 2)else Q
def aU (Q q:Nat->Int):Nat->Int:=if fF Q q=0 then fL Q (aS (bO (am Q q)) 4)else Q
def b9 (Q B q:Nat->Int):Nat->Int:=if fF Q q=0/\aE (bO (am Q q)) 1048576=true then p7 B (bO (am Q q))else B
theorem ES {f:Nat->Int} (hk:eX f=true):nn (cw f)=nn f:=by
 have e0:cw f 0=f 0:=rfl
 have w:∀i,i<4->wrap64 (-f i)=-f i:=fun i hi=>by have:=iB hk hi;unfold wrap64;omega
 have e1:cw f 1=-f 1:=w 1 oa
 have e2:cw f 2=-f 2:=w 2 oa
 have e3:cw f 3=-f 3:=w 3 oa
 unfold nn
 rw[e0,e1,e2,e3]
 grind
theorem Dl {x y:Int} (hy:0<=y) (h:x*x<y*y):-y<x/\x<y:=by
 constructor
 ·apply bC;intro hn
  have h1:y<=-x:=oa
  have h2:=mM h1 h1 hy oa
  have h3:-x*-x=x*x:=by grind
  omega
 ·apply bC;intro hn
  have h1:y<=x:=oa
  have h2:=mM h1 h1 hy oa
  omega
theorem Fy (f:Nat->Int) {i:Nat} (hi:i<4):f i*f i<=nn f:=by
 have s:∀x:Int,0<=x*x:=fun x=>by
  rcases Int.le_total 0 x with h|h
  ·exact mN h h
  ·have:=mN (show 0<=-x by omega) (show 0<=-x by omega)
   have e:-x*-x=x*x:=by grind
   omega
 have s0:=s (f 0)
 have s1:=s (f 1)
 have s2:=s (f 2)
 have s3:=s (f 3)
 unfold nn
 rcases(show i=0\/i=1\/i=2\/i=3 by omega)with rfl|rfl|rfl|rfl<;>omega
theorem FD {f g:Nat->Int} (h1:nn f<1073741829*1073741829) (h2:nn g<1073741829*1073741829) {i:Nat} (hi:i<4):-1152921515344265241<pe f g i/\pe f g i<1152921515344265241:=by
 refine Dl da ?_
 have h3:=Fy (pe f g) hi
 rw[dR]at h3
 have h4:=aT f
 have h5:=aT g
 have h6:nn f*nn g<=nn f* (1073741829*1073741829):=mL oa h4
 have h7:(1152921515344265241:Int)*1152921515344265241=1152921515344265241* (1073741829*1073741829):=da
 omega
theorem qZ {f g:Nat->Int} (hI:∀i,i<4->bu (f i)) (hJ:∀i,i<4->bu (g i)) (hf:au f=true) (hg:au g=true) {i:Nat} (hi:i<4):-1073741836<=am f g i/\am f g i<=1073741836:=by
 obtain⟨k1,l1,u1⟩:=bm hI hf
 obtain⟨k2,l2,u2⟩:=bm hJ hg
 have kc:eX (cw f)=true:=(bN _).2 fun j hj=>by
  have:=iB k1 hj
  refine(bE _).2 ?_
  have w:wrap64 (-f j)=-f j:=by unfold wrap64;omega
  unfold cw
  split
  ·have:=iB k1 (i:=0) oa;omega
  ·rw[w];omega
 obtain⟨e,he,l,u⟩:=fD kc k2 hi
 have:=FD (f:=cw f) (g:=g) (by rw[ES k1];exact u1) u2 hi
 unfold am
 rw[hf,hg]
 show-1073741836<=qF f g i/\qF f g i<=1073741836
 unfold qF
 split
 ·unfold jH;omega
 ·omega
theorem wE {f g:Nat->Int} (h:fF f g=0):au f=true/\au g=true:=by
 unfold fF at h
 split at h
 ·rename_i h2;simpa using h2
 ·omega
theorem xp (f g:Nat->Int):fF f g=0\/fF f g=2:=by unfold fF;split<;>simp
theorem wF {r B:Nat->Int} (hr:aE r 268435456=true) (hB:∀i,i<3->-16777216<=B i/\B i<=16777216):aE (aS (cu r B) 2) 1073741824=true:=cP fun i hi=>by
 have h1:=uy hr i hi
 have h2:=hB i hi
 unfold aS
 rw[ff hr hB i hi,wN oa oa ⟨oa,oa⟩]
 omega
theorem vi {Q q:Nat->Int} (hI:∀i,i<4->bu (Q i)) (hJ:∀i,i<4->bu (q i)) (h:fF Q q=0):aE (aS (bO (am Q q)) 4) 1073741824=true:=cP fun i hi=>by
 obtain⟨v1,v2⟩:=wE h
 have:=qZ hI hJ v1 v2 (i:=i+1) oa
 unfold aS bO
 rw[wN oa oa ⟨oa,oa⟩]
 omega
theorem zD (x:Int):-16777216<=aI x (-16777216) 16777216/\aI x (-16777216) 16777216<=16777216:=by
 unfold aI;split<;>(try split)<;>omega
theorem FI.pred {Q B:Nat->Int} (h:FI Q B) (r:Nat->Int):FI (eg Q B r) B:=by
 unfold eg
 split
 ·rename_i hr
  obtain⟨h1,h2⟩:=Dg h.i h.v (wF hr h.b)
  exact⟨h1,h2,h.b⟩
 ·exact h
theorem FI.cor {Q B:Nat->Int} (h:FI Q B) {q:Nat->Int} (hq:∀i,i<4->bu (q i)):FI (aU Q q) (b9 Q B q):=by
 have hb:∀i,i<3->-16777216<=b9 Q B q i/\b9 Q B q i<=16777216:=fun i hi=>by
  unfold b9
  split
  ·exact zD _
  ·exact h.b i hi
 unfold aU
 split
 ·rename_i he
  obtain⟨h1,h2⟩:=Dg h.i h.v (vi h.i hq he)
  exact⟨h1,h2,hb⟩
 ·exact⟨h.i,h.v,hb⟩
theorem FI.new {q:Nat->Int} (hq:∀i,i<4->bu (q i)) (hv:au q=true):FI q (fun _=>0):=⟨hq,hv,fun i hi=>by show-16777216<=(0:Int)/\(0:Int)<=16777216;omega⟩
theorem B8 (Q B r:Nat->Int) (b:Nat) (w:World) (hg:af w b (bU (Q,B)) 85) (h:FI Q B):Calls Tryz.prog 20 #[.pointer (some ⟨b,0,none⟩),.agg (ah r)] w fun e w'=>e=.returned (.int .i64 (yI r))/\Below w.heap.size (w.setRow b (bU (eg Q B r,B))) w':=by
 unfold yI eg
 cases hr:aE r 268435456 with
 |true=>exact Cc Q B r b w hg h.nz hr h.i
 | false=>
   have e:w.setRow b (bU (Q,B))=w:=setRow_self w b _ _ _ hg
   rw[if_neg da,if_neg da,e]
   exact Cr Q B r b w hg h.nz hr
theorem E4 (Q B q:Nat->Int) (b:Nat) (w:World) (hg:af w b (bU (Q,B)) 85) (h:FI Q B) (hq:∀i,i<4->bu (q i)):Calls Tryz.prog 21 #[.pointer (some ⟨b,0,none⟩),.agg (aj q)] w fun e w'=>e=.returned (.int .i64 (fF Q q))/\Below w.heap.size (w.setRow b (bU (aU Q q,b9 Q B q))) w':=by
 unfold aU b9
 rcases xp Q q with he|he
 ·cases hw:aE (bO (am Q q)) 1048576 with
  | true=>
    rw[if_pos he,if_pos ⟨he,rfl⟩,he]
    exact B9 Q B q b w hg h.nz h.i hq he hw h.b
  | false=>
    rw[if_pos he,if_neg sd,he]
    exact Du Q B q b w hg h.nz h.i hq he hw
 ·have e:w.setRow b (bU (Q,B))=w:=setRow_self w b _ _ _ hg
  rw[if_neg oa,if_neg oa,he,e]
  exact FV Q B q b w hg h.nz h.i hq he
end Go.Proofs.YtbhahonkhiiilaaGreat
