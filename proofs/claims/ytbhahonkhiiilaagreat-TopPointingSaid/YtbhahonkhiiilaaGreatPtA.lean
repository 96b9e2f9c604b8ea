/-
  A turn of an attitude, and the rotation that is left to another one: the law, near and far. No program in sight.
-/
import Derived.Test.YtbhahonkhiiilaaGreatBetV
import Derived.Test.YtbhahonkhiiilaaGreatStC
set_option linter.unusedSimpArgs false
set_option linter.unusedVariables false
namespace Go.Proofs.YtbhahonkhiiilaaGreat
open Go.RowKit PM Dt
theorem Hi {Q q:Nat->Int} (k1:eX Q=true) (j:Nat) (hj:j<4):pe (cw Q) q j=eD Q q j:=
 Hw (nZ k1 0 oa) (nZ k1 1 oa) (nZ k1 2 oa) (nZ k1 3 oa) j
theorem qO {Q q:Nat->Int} (hI:∀i,i<4->bu (Q i)) (hQ:au Q=true) (hJ:∀i,i<4->bu (q i)) (hq:au q=true):
 (-536870912<=eD Q q 0/\0<=am Q q 0/\∀j,j<4->-536870912<=1073741824*am Q q j-eD Q q j/\1073741824*am Q q j-eD Q q j<=536870912)\/
 (eD Q q 0<=536870912/\0<=am Q q 0/\∀j,j<4->-536870912<=1073741824*am Q q j+eD Q q j/\1073741824*am Q q j+eD Q q j<=536870912):=by
 obtain⟨k1,_,_⟩:=bm hI hQ
 obtain⟨k2,_,_⟩:=bm hJ hq
 have hp:∀j,j<4->∃e,1073741824*aY (cw Q) q j=eD Q q j+e/\-536870912<=e/\e<=536870912:=fun j hj=>by
  obtain⟨e,he,l,u⟩:=fD (x8 k1) k2 hj
  rw[Hi k1 j hj]at he
  exact⟨e,he,l,u⟩
 have hb:am Q q=qF Q q:=by
  unfold am
  rw[hQ,hq,Bool.and_self,if_pos rfl]
 rw[hb]
 unfold qF
 obtain⟨e0,h0,l0,u0⟩:=hp 0 oa
 generalize aY (cw Q) q=p at *
 by_cases h:p 0<0
 ·rw[if_pos h]
  refine .inr ⟨oa,by unfold jH;omega,fun j hj=>?_⟩
  obtain⟨e,he,l,u⟩:=hp j hj
  unfold jH
  omega
 ·rw[if_neg h]
  refine .inl ⟨oa,oa,fun j hj=>?_⟩
  obtain⟨e,he,l,u⟩:=hp j hj
  omega
theorem dJ {Q q:Nat->Int} (hI:∀i,i<4->bu (Q i)) (hQ:au Q=true) (hJ:∀i,i<4->bu (q i)) (hq:au q=true):
 0<=am Q q 0/\∃s:Int,(s=1\/s=-1)/\∃e:Nat->Int,∀j,j<4->(-536870912<=e j/\e j<=536870912)/\1073741824*am Q q j=s*eD Q q j+e j:=by
 rcases qO hI hQ hJ hq with⟨_,h0,h⟩|⟨_,h0,h⟩
 ·exact⟨h0,1,.inl rfl,fun j=>1073741824*am Q q j-eD Q q j,fun j hj=>⟨h j hj,by show _=1*eD Q q j+(1073741824*am Q q j-eD Q q j);omega⟩⟩
 ·exact⟨h0,-1,.inr rfl,fun j=>1073741824*am Q q j+eD Q q j,fun j hj=>⟨h j hj,by show _=-1*eD Q q j+(1073741824*am Q q j+eD Q q j);omega⟩⟩
theorem uC {Q q:Nat->Int} {s:Int} (hI:∀i,i<4->bu (Q i)) (hQ:au Q=true) (hJ:∀i,i<4->bu (q i)) (hq:au q=true) (hs:s=1\/s=-1) (h0:536870912<s*eD Q q 0):
 ∀j,j<4->-536870912<=1073741824*am Q q j-s*eD Q q j/\1073741824*am Q q j-s*eD Q q j<=536870912:=by
 rcases qO hI hQ hJ hq with⟨l,_,h⟩|⟨u,_,h⟩
 ·rcases hs with rfl|rfl
  ·intro j hj;have:=h j hj;omega
  ·omega
 ·rcases hs with rfl|rfl
  ·omega
  ·intro j hj;have:=h j hj;omega
theorem fZ {Q q:Nat->Int} (hI:∀i,i<4->bu (Q i)) (hQ:au Q=true) (hJ:∀i,i<4->bu (q i)) (hq:au q=true):
 1073741814*1073741814<=nn (am Q q)/\nn (am Q q)<=1073741836*1073741836:=by
 obtain⟨_,l1,u1⟩:=bm hI hQ
 obtain⟨_,l2,u2⟩:=bm hJ hq
 obtain⟨_,s,hs,e,he⟩:=dJ hI hQ hJ hq
 have hn:=kT Q q
 have lo:1073741820*1073741820* (1073741820*1073741820)<=nn Q*nn q:=mM l1 l2 da oa
 have up:nn Q*nn q<=1073741829*1073741829* (1073741829*1073741829):=mM oa oa (aT q) da
 rw[<-hn]at lo up
 have hss:s*s=1:=by rcases hs with rfl|rfl<;>rfl
 have hne:nn e<=1073741824*1073741824:=gH (B:=536870912) fun i hi=>(he i hi).1
 have e1:nn (sc s (eD Q q))=nn (eD Q q):=by rw[c_,hss];omega
 have e2:nn (sc 1073741824 (am Q q))=1073741824*1073741824*nn (am Q q):=c_ _ _
 have e3:nn (sc (-1) e)=nn e:=by rw[c_];omega
 constructor
 ·apply bC;intro hc
  have t:=jX (x:=sc 1073741824 (am Q q)) (y:=sc (-1) e) (z:=sc s (eD Q q)) (X:=1073741824*1073741814) (Y:=1073741824) da da (by rw[e2];omega) (by rw[e3];exact hne) (fun i hi=>by
   have:=(he i hi).2
   show s*eD Q q i=1073741824*am Q q i+-1*e i
   omega)
  rw[e1]at t
  omega
 ·have t:=jX (x:=sc s (eD Q q)) (y:=e) (z:=sc 1073741824 (am Q q)) (X:=1073741829*1073741829) (Y:=1073741824) da da (by rw[e1];omega) hne (fun i hi=>(he i hi).2)
  rw[e2]at t
  omega
theorem jj {Q h:Nat->Int} (hI:∀i,i<4->bu (Q i)) (hQ:au Q=true) (hs:aE h 1073741824=true):au (aR Q h)=true/\∀i,i<4->bu (aR Q h i):=by
 obtain⟨_,h1,h2,h3⟩:=ir hI hQ hs
 rw[h1]
 obtain⟨_,h4,_⟩:=eF h2 h3
 exact⟨(ip h2 h3).1,fun i hi=>by have:=iB h4 hi;exact⟨oa,oa⟩⟩
theorem xX {u:Nat->Int} (h:nn u<1073741829*1073741829) {i:Nat} (hi:i<4):-1073741828<=u i/\u i<=1073741828:=by
 have n0:=av (u 0)
 have n1:=av (u 1)
 have n2:=av (u 2)
 have n3:=av (u 3)
 have:u i*u i<1073741829*1073741829:=by
  unfold nn at h
  have:i=0\/i=1\/i=2\/i=3:=oa
  rcases this with rfl|rfl|rfl|rfl<;>omega
 have:=td (a:=u i) (b:=1073741829) da this
 omega
theorem oK {u:Nat->Int} (h:nn u<1073741829*1073741829):qt (bL u)=true:=by
 have b:∀i,i<4->∀j,j<4->-1152921513196781584<=u i*u j/\u i*u j<=1152921513196781584:=fun i hi j hj=>
  bR (P:=1073741828) (R:=1073741828) (xX h hi).1 (xX h hi).2 (xX h hj).1 (xX h hj).2
 have e:∀j,j<9->-4611686052787126336<=bD u j/\bD u j<=4611686052787126336:=fun j hj=>by
  have:=b 0 oa 0 oa
  have:=b 1 oa 1 oa
  have:=b 2 oa 2 oa
  have:=b 3 oa 3 oa
  have:=b 0 oa 1 oa
  have:=b 0 oa 2 oa
  have:=b 0 oa 3 oa
  have:=b 1 oa 2 oa
  have:=b 1 oa 3 oa
  have:=b 2 oa 3 oa
  have hj':j=0\/j=1\/j=2\/j=3\/j=4\/j=5\/j=6\/j=7\/j=8:=oa
  rcases hj' with rfl|rfl|rfl|rfl|rfl|rfl|rfl|rfl|rfl<;>simp only[bD]<;>omega
 refine(s5 _).2 fun r hr=>(bK _).2 fun k hk=>(bE _).2 ?_
 have:=e (3*r+k) oa
 show-1099511627776<=gA (bD u (3*r+k))/\gA (bD u (3*r+k))<=1099511627776
 generalize bD u (3*r+k)=x at *
 unfold gA;omega
theorem bY {v:Nat->Int} {V:Int} (hV:0<=V) (h:vv v<=V*V) {i:Nat} (hi:i<3):-V<=v i/\v i<=V:=by
 have n0:=av (v 0)
 have n1:=av (v 1)
 have n2:=av (v 2)
 unfold vv at h
 refine bI hV ?_
 rcases(show i=0\/i=1\/i=2 by omega)with rfl|rfl|rfl<;>omega
theorem wS {E M u v g:Nat->Int} {V:Int} (h0:0<=V) (h1:V<=4194304) (hM:∀j,j<9->∃d,1073741824*M j=E j+d/\-536870912<=d/\d<=536870912)
 (hg:∀i,i<3->∃e,1073741824*g i=ap M v i+e/\-536870912<=e/\e<=536870912) (hn0:0<=nn u) (hn:nn u<1073741829*1073741829)
 (hF:vv (ap E v)=nn u*nn u*vv v) (hv:vv v<=V*V) {i:Nat} (hi:i<3):-V<=g i/\g i<=V:=by
 have b:=fun j (hj:j<3)=>bY h0 hv hj
 have hFi:-(nn u*V)<=ap E v i/\ap E v i<=nn u*V:=by
  refine bY (v:=ap E v) (mN hn0 h0) ?_ hi
  rw[hF]
  have:=mL hv (mN hn0 hn0)
  have e:nn u*nn u* (V*V)=nn u*V* (nn u*V):=by grind
  omega
 have hnV:nn u*V<=1152921515344265241*V:=mR oa h0
 obtain⟨d0,m0,l0,u0⟩:=hM (3*i) oa
 obtain⟨d1,m1,l1,u1⟩:=hM (3*i+1) oa
 obtain⟨d2,m2,l2,u2⟩:=hM (3*i+2) oa
 obtain⟨e,hgi,le,ue⟩:=hg i hi
 have p0:=bR (P:=536870912) (R:=V) l0 u0 (b 0 oa).1 (b 0 oa).2
 have p1:=bR (P:=536870912) (R:=V) l1 u1 (b 1 oa).1 (b 1 oa).2
 have p2:=bR (P:=536870912) (R:=V) l2 u2 (b 2 oa).1 (b 2 oa).2
 have key:1073741824*ap M v i=ap E v i+(d0*v 0+d1*v 1+d2*v 2):=by
  unfold ap
  have a0:1073741824* (M (3*i)*v 0)=(E (3*i)+d0)*v 0:=by rw[<-m0];grind
  have a1:1073741824* (M (3*i+1)*v 1)=(E (3*i+1)+d1)*v 1:=by rw[<-m1];grind
  have a2:1073741824* (M (3*i+2)*v 2)=(E (3*i+2)+d2)*v 2:=by rw[<-m2];grind
  grind
 generalize d0*v 0=D0 at *
 generalize d1*v 1=D1 at *
 generalize d2*v 2=D2 at *
 generalize nn u*V=NV at *
 generalize ap M v i=X at *
 generalize ap E v i=Y at *
 generalize g i=G at *
 have hh:1152921504606846976*G=Y+(D0+D1+D2)+1073741824*e:=oa
 omega
theorem js {Q v:Nat->Int} {V:Int} (hI:∀i,i<4->bu (Q i)) (hq:au Q=true) (h0:0<=V) (h1:V<=4194304) (hv:vv v<=V*V):
 mq Q v=0/\yG Q v=0/\∀i,i<3->(-V<=aC Q v i/\aC Q v i<=V)/\(-V<=cM Q v i/\cM Q v i<=V):=by
 obtain⟨ku,lo,hi⟩:=bm hI hq
 have hM:=oK hi
 have n0:0<=nn Q:=oa
 have kv:cx v=true:=(bK v).2 fun i hi=>(bE _).2 (by have:=bY h0 hv hi;omega)
 have B:=fun i (hi':i<3)=>wS (g:=cN (bL Q) v) h0 h1 (fA Q) (fun i hi=>kI _ _ hi) n0 hi (gz Q v) hv hi'
 have R:=fun i (hi':i<3)=>wS (g:=iC (bL Q) v) h0 h1 (Gn Q) (fun i hi=>BB _ _ hi) n0 hi (As Q v) hv hi'
 have kB:cx (cN (bL Q) v)=true:=(bK _).2 fun i hi=>(bE _).2 (by have:=B i hi;omega)
 have kR:cx (iC (bL Q) v)=true:=(bK _).2 fun i hi=>(bE _).2 (by have:=R i hi;omega)
 unfold aC mq cM yG jt p6 l5 lQ iV m6
 rw[hq,hM,kv,kB,kR]
 exact⟨rfl,rfl,fun i hi=>⟨B i hi,R i hi⟩⟩
theorem iP {T:Nat->Int} (h:fG T=true):(∀i,i<3->-1048576<=T i/\T i<=1048576)/\vv T<=1048576*1048576:=by
 simp only[fG,Bool.and_eq_true,decide_eq_true_eq]at h
 exact⟨fun i hi=>(cR _ _).1 ((bp T _).1 h.1 i hi),h.2⟩
theorem eU {Q T h:Nat->Int} {f:Int} (hI:∀i,i<4->bu (Q i)) (hq:au Q=true) (hT:fG T=true) (hS:SI h f):
 mq Q T=0/\∀i,i<3->(-1048576<=aC Q T i/\aC Q T i<=1048576)/\iH Q T h i=aC Q T i-cZ h i:=by
 obtain⟨e1,_,hb⟩:=js hI hq da da (iP hT).2
 refine⟨e1,fun i hi=>⟨(hb i hi).1,?_⟩⟩
 have k1:cx (aC Q T)=true:=(bK _).2 fun i hi=>(bE _).2 (by have:=(hb i hi).1;omega)
 have k2:cx (cZ h)=true:=(bK _).2 fun i hi=>(bE _).2 (by have:=oB hS hi;omega)
 have k3:cx (kO (aC Q T) (cZ h))=true:=(bK _).2 fun i hi=>(bE _).2 (by have:=(hb i hi).1;have:=oB hS hi;unfold kO;omega)
 unfold iH cu iV
 rw[k1,k2,k3]
 rfl
theorem EC {Q T h:Nat->Int} {f:Int} (hI:∀i,i<4->bu (Q i)) (hq:au Q=true) (hT:fG T=true) (hS:SI h f) {i:Nat} (hi:i<3):-34603008<=iH Q T h i/\iH Q T h i<=34603008:=by
 obtain⟨_,hb⟩:=eU hI hq hT hS
 have:=hb i hi;have:=oB hS hi
 omega
theorem Gp {Q l:Nat->Int} (hI:∀i,i<4->bu (Q i)) (hq:au Q=true) (hl:∀i,i<3->-34603008<=l i/\l i<=34603008):(∀i,i<4->bu (bJ Q l i))/\au (bJ Q l)=true:=by
 unfold bJ
 split
 ·exact⟨hI,hq⟩
 ·have hs:aE (aJ 2 l) 1073741824=true:=(bp _ _).2 fun i hi=>(cR _ _).2 (by have:=hl i hi;unfold aJ;omega)
  obtain⟨_,h1,h2,h3⟩:=ir hI hq hs
  rw[h1]
  obtain⟨_,h4,_⟩:=eF h2 h3
  exact⟨fun i hi=>by have:=iB h4 hi;exact⟨oa,oa⟩,(ip h2 h3).1⟩
theorem BI.att {X:cG} (k:BI X) (c:Nat->Int):(∀i,i<4->bu (vj X c i))/\au (vj X c)=true:=
 Gp k.q k.v fun i hi=>EC k.q k.v k.t (k.s.step c) hi
theorem BI.tick {X:cG} (k:BI X) (c t:Nat->Int):BI (iF X c t):=by
 unfold iF
 split
 ·obtain⟨a,b⟩:=k.att c
  refine⟨a,b,?_,k.s.step c⟩
  show fG (if fG (kY X c t)=true then kY X c t else X.T)=true
  split
  ·assumption
  ·exact k.t
 ·exact k
def es (Q v:Nat->Int):Nat->Int:=ap (tr (bD Q)) v
def qv (v:Nat->Int):Nat->Int
 |0=>0
 |i+1=>v i
theorem ld (Q v:Nat->Int):es Q v 0=(Q 0*Q 0+Q 1*Q 1-Q 2*Q 2-Q 3*Q 3)*v 0+(2* (Q 1*Q 2)+2* (Q 0*Q 3))*v 1+(2* (Q 1*Q 3)-2* (Q 0*Q 2))*v 2:=rfl
theorem lE (Q v:Nat->Int):es Q v 1=(2* (Q 1*Q 2)-2* (Q 0*Q 3))*v 0+(Q 0*Q 0-Q 1*Q 1+Q 2*Q 2-Q 3*Q 3)*v 1+(2* (Q 2*Q 3)+2* (Q 0*Q 1))*v 2:=rfl
theorem li (Q v:Nat->Int):es Q v 2=(2* (Q 1*Q 3)+2* (Q 0*Q 2))*v 0+(2* (Q 2*Q 3)-2* (Q 0*Q 1))*v 1+(Q 0*Q 0-Q 1*Q 1-Q 2*Q 2+Q 3*Q 3)*v 2:=rfl
theorem tX (Q v:Nat->Int):vv (es Q v)=nn Q*nn Q*vv v:=gz Q v
theorem GO (c:Int) (Q v:Nat->Int) {i:Nat} (hi:i<3):es (sc c Q) v i=c*c*es Q v i:=by
 have:i=0\/i=1\/i=2:=oa
 rcases this with rfl|rfl|rfl<;>simp only[ld,lE,li,sc]<;>grind
theorem IE (Q x y:Nat->Int) (a b:Int) {i:Nat} (hi:i<3):es Q (fun j=>a*x j+b*y j) i=a*es Q x i+b*es Q y i:=by
 have:i=0\/i=1\/i=2:=oa
 rcases this with rfl|rfl|rfl<;>simp only[ld,lE,li]<;>grind
theorem Fn {A B n:Nat->Int} (h:∀j,j<4->A j=B j+n j) (v:Nat->Int) {i:Nat} (hi:i<3):es A v i=es B v i+pe (pe (cj A) (qv v)) n (i+1)+pe (pe (cj n) (qv v)) B (i+1):=by
 have h0:=h 0 oa
 have h1:=h 1 oa
 have h2:=h 2 oa
 have h3:=h 3 oa
 have:i=0\/i=1\/i=2:=oa
 rcases this with rfl|rfl|rfl<;>simp only[ld,lE,li,pe,cj,qv]<;>rw[h0,h1,h2,h3]<;>grind
theorem qP (v:Nat->Int):nn (qv v)=vv v:=by
 show 0*0+v 0*v 0+v 1*v 1+v 2*v 2=v 0*v 0+v 1*v 1+v 2*v 2
 omega
theorem JA (Q r v:Nat->Int) {i:Nat} (hi:i<3):es (pe Q r) v i=es r (es Q v) i:=by
 have:i=0\/i=1\/i=2:=oa
 rcases this with rfl|rfl|rfl
 ·rw[ld (pe Q r),ld r,ld Q,lE Q,li Q];simp only[pe];grind
 ·rw[lE (pe Q r),lE r,ld Q,lE Q,li Q];simp only[pe];grind
 ·rw[li (pe Q r),li r,ld Q,lE Q,li Q];simp only[pe];grind
theorem Ba {Q h:Nat->Int} (hI:∀i,i<4->bu (Q i)) (hQ:au Q=true) (hs:aE h 1073741824=true):
 ∃N P:Int,∃eta p:Nat->Int,35184372088832<=N/\0<P/\N*N<=P*P*nn p/\P*P*nn p<(N+1)* (N+1)/\(∀j,j<4->∃e,1073741824*p j=pe Q (rq h) j+e/\-536870912<=e/\e<=536870912)/\
  (∀j,j<4->-(1152921504606846976*P+1073741824*N)<=eta j/\eta j<=1152921504606846976*P+1073741824*N)/\
  ∀i,i<4->2147483648*N*aR Q h i=2147483648*P*pe Q (rq h) i+eta i:=by
 obtain⟨N,P,eta,p,hN,hP,h1,h2,hp,he,hE⟩:=yz (q:=fun i=>if i=0 then 1 else 0) hI hQ hs
 refine⟨N,P,eta,p,hN,hP,h1,h2,hp,he,fun i hi=>?_⟩
 have k:=hE i hi
 generalize aR Q h=T at *
 generalize rq h=r at *
 have:i=0\/i=1\/i=2\/i=3:=oa
 unfold eD at k
 rcases this with rfl|rfl|rfl|rfl<;>simp[pe,cj]at k|-<;>grind
theorem z0 {N:Int} (h:0<=N):-N<=(0:Int)/\(0:Int)<=N:=oa
structure vQ (X:dw):Prop where
 d:∀i,i<3->-4194304<=X.D i/\X.D i<=4194304
 a:∀i,i<3->-1073741824<=X.A i/\X.A i<=1073741824
theorem qe (x:Int):aI x (-262144) 262144=x\/(aI x (-262144) 262144=262144/\262144<x)\/(aI x (-262144) 262144=-262144/\x< -262144):=by
 unfold aI;split<;>(try split)<;>omega
theorem sC {X:dw} (k:vQ X) (a:Bool) {To:Nat->Int} (hT:∀i,i<3->-4194304<=To i/\To i<=4194304) {i:Nat} (hi:i<3):
 (-4194304<=pG a X To i/\pG a X To i<=4194304)/\-262144<=pG a X To i-X.D i/\pG a X To i-X.D i<=262144:=by
 have h1:=k.d i hi
 have h2:=hT i hi
 unfold pG
 cases a
 ·simp;omega
 ·have h3:=rX (To i-X.D i)
  have h4:=qe (To i-X.D i)
  show(-4194304<=X.D i+aI (To i-X.D i) (-262144) 262144/\X.D i+aI (To i-X.D i) (-262144) 262144<=4194304)/\-262144<=X.D i+aI (To i-X.D i) (-262144) 262144-X.D i/\X.D i+aI (To i-X.D i) (-262144) 262144-X.D i<=262144
  omega
theorem vQ.step {X:dw} (k:vQ X) (V:n_) {A To:Nat->Int} (hA:∀i,i<3->-1073741824<=A i/\A i<=1073741824) (hT:∀i,i<3->-4194304<=To i/\To i<=4194304):vQ (mo X V A To):=
 ⟨fun i hi=>(sC k _ hT hi).1,hA⟩
def yq (X:dw) (V:n_):dw:=if ce V then mo X V (fun _=>0) (fun _=>0)else X
def GH (X:dw) (V:n_):Nat->Int:=if ce V then ky X V (fun _=>0)else fun _=>0
def uW (X Y:dw):Prop:=vQ Y/\∀i,i<3->(-4194304<=Y.D i/\Y.D i<=4194304)/\-262144<=Y.D i-X.D i/\Y.D i-X.D i<=262144
theorem uW.same {X:dw} (k:vQ X):uW X X:=⟨k,fun i hi=>⟨k.d i hi,oa,oa⟩⟩
theorem uW.step {X:dw} (k:vQ X) (V:n_) {A To:Nat->Int} (hA:∀i,i<3->-1073741824<=A i/\A i<=1073741824) (hT:∀i,i<3->-4194304<=To i/\To i<=4194304):uW X (mo X V A To):=
 ⟨k.step V hA hT,fun i hi=>sC k _ hT hi⟩
theorem z3:∀i,i<3->(-1073741824:Int)<=(fun _=>0:Nat->Int) i/\(fun _=>0:Nat->Int) i<=1073741824:=fun i hi=>z0 da
theorem Fp {X:dw} (k:vQ X) (V:n_):uW X (yq X V):=by
 unfold yq;split
 ·exact .step k V z3 (fun i hi=>z0 da)
 ·exact .same k
theorem F7 (L h:Nat->Int):pe (cj (rq h)) L 0*L 0+pe (cj (rq h)) L 1*L 1+pe (cj (rq h)) L 2*L 2+pe (cj (rq h)) L 3*L 3=1073741824*nn L:=by
 have r0:cj (rq h) 0=1073741824:=rfl
 have r1:cj (rq h) 1=-h 0:=rfl
 have r2:cj (rq h) 2=-h 1:=rfl
 have r3:cj (rq h) 3=-h 2:=rfl
 simp only[pe]
 rw[r0,r1,r2,r3]
 unfold nn
 grind
theorem uT (L h:Nat->Int) (N P:Int):nn (fun i=>P*pe (cj (rq h)) L i-N*L i)=nn L* ((N-P*1073741824)* (N-P*1073741824)+P*P* (h 0*h 0+h 1*h 1+h 2*h 2)):=by
 have a:=F7 L h
 have b:nn (pe (cj (rq h)) L)=(1152921504606846976+h 0*h 0+h 1*h 1+h 2*h 2)*nn L:=by rw[dR,i_,eS]
 have c:nn (fun i=>P*pe (cj (rq h)) L i-N*L i)=P*P*nn (pe (cj (rq h)) L)-2*P*N* (pe (cj (rq h)) L 0*L 0+pe (cj (rq h)) L 1*L 1+pe (cj (rq h)) L 2*L 2+pe (cj (rq h)) L 3*L 3)+N*N*nn L:=by
  generalize pe (cj (rq h)) L=r
  unfold nn
  grind
 rw[c,a,b]
 grind
theorem lN {L:Nat->Int} (h:∀i,i<4->-1099511627776<=L i/\L i<=1099511627776):oD (bH L) 4194304:=⟨(bK _).2 fun i hi=>(bE _).2 (by have:=h (i+1) oa;unfold bH;omega),da,da⟩
theorem oG (L h:Nat->Int):pe (cj (rq h)) L 0=1073741824*L 0+(h 0*L 1+h 1*L 2+h 2*L 3):=by
 show 1073741824*L 0- -h 0*L 1- -h 1*L 2- -h 2*L 3=_
 grind
theorem iW {L:Nat->Int} (hL:nn L<=1073741836*1073741836):∀i,i<4->-1073741836<=L i/\L i<=1073741836:=fun i hi=>cK da hL hi
theorem CZ {f:Nat->Int} {B:Int} (hB:0<=B) (h:3* (B*B)<vv f):∃i,i<3/\(B<f i\/f i< -B):=by
 apply bC;intro hc
 have k:∀i,i<3->f i*f i<=B*B:=fun i hi=>by
  have:-B<=f i/\f i<=B:=by
   constructor
   ·apply bC;intro h;exact hc ⟨i,hi,.inr oa⟩
   ·apply bC;intro h;exact hc ⟨i,hi,.inl oa⟩
  exact(bR this.1 this.2 this.1 this.2).2
 have k0:=k 0 oa
 have k1:=k 1 oa
 have k2:=k 2 oa
 unfold vv at h
 omega
end Go.Proofs.YtbhahonkhiiilaaGreat
