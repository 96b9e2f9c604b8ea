/-
  Acts on bodies.
-/
import Derived.Test.YtbhahonkhiiilaaGreatBdC
import Derived.Test.YtbhahonkhiiilaaGreatPtA
set_option linter.unusedSimpArgs false
set_option linter.unusedVariables false
namespace Go.Proofs.YtbhahonkhiiilaaGreat
section
open Go.RowKit PM Dt
theorem yW {f g:Nat->Int} (hf:∀i,i<3->-4194304<=f i/\f i<=4194304) (hg:∀i,i<3->-4194304<=g i/\g i<=4194304):y9 f g=0/\∀i,dS f g i=f i+g i:=by
 have k1:cx f=true:=(bK _).2 fun i hi=>(bE _).2 (by have:=hf i hi;omega)
 have k2:cx g=true:=(bK _).2 fun i hi=>(bE _).2 (by have:=hg i hi;omega)
 have k3:cx (lW f g)=true:=(bK _).2 fun i hi=>(bE _).2 (by have:=hf i hi;have:=hg i hi;unfold lW;omega)
 unfold y9 dS m6 iV
 rw[k1,k2,k3]
 exact⟨rfl,fun i=>rfl⟩
theorem iu {x:Int} (h:-16777216<=x/\x<=16777216):aI x (-16777216) 16777216=x:=by
 unfold aI;split<;>(try split)<;>omega
theorem rF {x:Int} (h:-1048576<=x/\x<=1048576):aI x (-1048576) 1048576=x:=by
 unfold aI;split<;>(try split)<;>omega
theorem lH (d:Nat->Int) (f:Int) {i:Nat} (hi:i<3):cZ (bo d f) i=d i:=by
 unfold cZ
 rcases(show i=0\/i=1\/i=2 by omega)with rfl|rfl|rfl
 ·show d 0-bj d f+bj d f=d 0;omega
 ·show d 1-bj d f+bj d f=d 1;omega
 ·show d 2-bj d f+bj d f=d 2;omega
theorem zh {d:Nat->Int} {f m:Int} (hm:0<=m) (h:∀i,i<3->-m<=d i/\d i<=m) (hf:kN f=true):-m<=bj d f/\bj d f<=m:=by
 simp only[kN,Bool.and_eq_true,decide_eq_true_eq]at hf
 unfold bj
 split
 ·have:=xM hm h
  unfold kV;omega
 ·split
  ·omega
  ·exact h _ oa
theorem rG {d:Nat->Int} {f m:Int} (hm:0<=m) (h:∀i,i<3->-m<=d i/\d i<=m) (hf:kN f=true):∀i,-(2*m)<=bo d f i/\bo d f i<=2*m:=fun i=>by
 have hz:=zh hm h hf
 match i with
 |0=>have:=h 0 oa;show _<=d 0-bj d f/\d 0-bj d f<=_;omega
 |1=>have:=h 1 oa;show _<=d 1-bj d f/\d 1-bj d f<=_;omega
 |2=>have:=h 2 oa;show _<=d 2-bj d f/\d 2-bj d f<=_;omega
 |(n+3)=>show _<=bj d f/\bj d f<=_;omega
theorem fy {d:Nat->Int} {f:Int} {i:Nat} (hi:i<4) (hf:(i:Int)=f):bo d f i=0:=by
 subst hf
 rcases(show i=0\/i=1\/i=2\/i=3 by omega)with rfl|rfl|rfl|rfl
 ·show d 0-d 0=0;omega
 ·show d 1-d 1=0;omega
 ·show d 2-d 2=0;omega
 ·rfl
theorem EY {h:Nat->Int} {f:Int} (hf:kN f=true) (hb:∀i,i<4->-16777216<=h i/\h i<=16777216) (hz:∀i:Nat,i<4->(i:Int)=f->h i=0):gj h f=true:=by
 have key:∀k,k<4->kZ h f k=true:=fun k hk=>by
  unfold kZ
  rw[dT (hb k hk).1,dT (hb k hk).2]
  by_cases e:(k:Int)=f
  ·rw[dT e,dT (hz k hk e)];rfl
  ·rw[dF e];rfl
 exact vK hf key
theorem p_ {l:Nat->Int} (h:∀i,i<3->l i=0):zV l=true:=by
 unfold zV
 rw[List.all_eq_true]
 intro j hj
 rw[h j (List.mem_range.1 hj)];rfl
theorem KW {v:Nat->Int} (h:∀i,i<3->v i=0):vv v<=0*0:=by
 unfold vv;rw[h 0 oa,h 1 oa,h 2 oa];decide
end
section
open Go.RowKit PM Dt
variable{lo hi p:Nat} {w w':World} {x:cG×dw×(Nat->Int)}
def aF (X:cG) (sun:Nat->Int):n_:=⟨aJ 4 (aX X),X.h,X.f,aC X.Q sun,X.Q⟩
end
section
open Go.RowKit PM Dt
section
variable{P:Program} {Q:Exit->Act->World->Prop} {l:List Oper} {M:List Nat} {vs:List ((Nat->Nat)->Value)} {R:(Nat->Nat)->(Nat->Bool)->World->Prop} {A:(Nat->Nat)->Act} {fr:List Nat} {o:Oper}
theorem rJ (i:Nat) (ho:l[i]?=some o) (hw:∀p,Region.wanted o (yielded l.toArray (A p).tmps)=true) (T:(Nat->Nat)->World->World->Prop)
 (h:∀p L w1,R p L w1->gd M R i L->gU P (fun w2=>T p w1 w2) ((vs.getD i vI) p) ((execOp (A p).eval o).run P w1))
 (hR:∀p L w1 w2,R p L w1->gd M R i L->T p w1 w2->R p (cD L i) w2):fk P l M vs R A fr i:=
 fR i ho hw fun p L w1 hr hk=>by
  have h1:=h p L w1 hr hk
  generalize(execOp (A p).eval o).run P w1=r at *
  cases r with
  | ok n w'=>
    cases n<;>simp only[gU]at h1<;>simp only[iS]
    case value u=>exact⟨p i,fun _=>rfl,by rw[bX];exact h1.1,by rw[bX];exact hR _ _ _ _ hr hk h1.2⟩
    case skip=>exact⟨p i,fun _=>rfl,by rw[bX];exact h1.1.symm,by rw[bX];exact hR _ _ _ _ hr hk h1.2⟩
    case enter f args=>exact h1.mono fun e w'' ⟨he,hs⟩=>⟨_,he,p i,fun _=>rfl,by rw[bX],by rw[bX];exact hR _ _ _ _ hr hk hs⟩
  |halt x w'=>exact h1.elim
end
def zn (X:cG) (h:Nat->Int):Nat->Int:=cu (aC X.Q X.T) (cZ h)
def d7 (X:cG) (S:dw) (sun:Nat->Int):cG:=iF X (GH S (aF X sun)) (fun _=>0)
end
section
open Go.RowKit PM Dt
set_option maxRecDepth 100000 in
theorem ub {u h:Nat->Int} (hIu:∀i,i<4->bu (u i)) (vu:au u=true) (hv:aE h 268435456=true):
 am u (aR u h)=aY (cw u) (aR u h)/\eX u=true/\eX (aR u h)=true/\au (aR u h)=true/\∀i,i<4->bu (aR u h i):=by
 have hh:aE h 1073741824=true:=(bp h _).2 fun i hi=>(cR _ _).2 (by have:=(cR _ _).1 ((bp h _).1 hv i hi);omega)
 obtain⟨ku,u1,u2⟩:=bm hIu vu
 obtain⟨t1,t2,tk,tz⟩:=ir hIu vu hh
 obtain⟨_,kt,⟨Nt,Pt,a1,a2,a3,a4,a5⟩,_⟩:=eF tk tz
 obtain⟨vt,_⟩:=ip tk tz
 obtain⟨rk,r1,r2⟩:=u6 hh
 have rz:zQ (rq h)=false:=by
  cases hz:zQ (rq h)with
  |false=>rfl
  | true=>
    unfold zQ at hz
    rw[List.all_eq_true]at hz
    have:=beq_iff_eq.1 (hz 0 (List.mem_range.2 oa))
    exact absurd (show(1073741824:Int)=0 from this) da
 obtain⟨re,rk',⟨Nr,Pr,b1,b2,b3,b4,b5⟩,_⟩:=eF rk rz
 have cje:=nZ ku
 have ck:=x8 ku
 have hp:∀i,i<4->1073741824*aY u (rq h) i=pe u (rq h) i+(1073741824*aY u (rq h) i-pe u (rq h) i)/\-536870912<=1073741824*aY u (rq h) i-pe u (rq h) i/\1073741824*aY u (rq h) i-pe u (rq h) i<=536870912:=fun i hi=>by
  obtain⟨e,h1,h2,h3⟩:=fD ku rk hi
  omega
 have hB:∀i,i<4->1073741824*aY (cw u) (aR u h) i=pe (cj u) (aR u h) i+(1073741824*aY (cw u) (aR u h) i-pe (cj u) (aR u h) i)/\-536870912<=1073741824*aY (cw u) (aR u h) i-pe (cj u) (aR u h) i/\1073741824*aY (cw u) (aR u h) i-pe (cj u) (aR u h) i<=536870912:=fun i hi=>by
  obtain⟨e,h1,h2,h3⟩:=fD ck (g:=aR u h) (by rw[t2];exact kt) hi
  have he:pe (cw u) (aR u h) i=pe (cj u) (aR u h) i:=by
   have e0:=cje 0 oa
   have e1:=cje 1 oa
   have e2:=cje 2 oa
   have e3:=cje 3 oa
   exact Hw e0 e1 e2 e3 i
  rw[he]at h1
  omega
 have ht:∀i,i<4->2* (Nt*aR u h i)=2* (1073741824* (Pt*aY u (rq h) i))+(2* (Nt*aR u h i)-2* (1073741824* (Pt*aY u (rq h) i)))/\-Nt<=2* (Nt*aR u h i)-2* (1073741824* (Pt*aY u (rq h) i))/\2* (Nt*aR u h i)-2* (1073741824* (Pt*aY u (rq h) i))<=Nt:=fun i hi=>by
  obtain⟨d,h1,h2,h3⟩:=a5 i hi
  rw[t2]
  generalize Nt*df (aY u (rq h)) i=X at *
  generalize Pt*aY u (rq h) i=Y at *
  omega
 have hr:∀i,i<4->2* (Nr*df (rq h) i)=2* (1073741824* (Pr*rq h i))+(2* (Nr*df (rq h) i)-2* (1073741824* (Pr*rq h i)))/\-Nr<=2* (Nr*df (rq h) i)-2* (1073741824* (Pr*rq h i))/\2* (Nr*df (rq h) i)-2* (1073741824* (Pr*rq h i))<=Nr:=fun i hi=>by
  obtain⟨d,h1,h2,h3⟩:=b5 i hi
  generalize Nr*df (rq h) i=X at *
  generalize Pr*rq h i=Y at *
  omega
 have hRi:∀i,i<4->-1073741824<=rq h i/\rq h i<=1073741824:=fun i hi=>by
  have b:=fun j hj=>(cR _ _).1 ((bp h 1073741824).1 hh j hj)
  have:i=0\/i=1\/i=2\/i=3:=oa
  rcases this with rfl|rfl|rfl|rfl
  ·show-1073741824<=(1073741824:Int)/\(1073741824:Int)<=1073741824
   omega
  ·exact b 0 oa
  ·exact b 1 oa
  ·exact b 2 oa
 obtain⟨core,B0⟩:(∀i,i<4->aY (cw u) (aR u h) i<=df (rq h) i+16/\df (rq h) i<=aY (cw u) (aR u h) i+16)/\0<=aY (cw u) (aR u h) 0:=by
  rcases Int.lt_or_le (nn u) (1073741824*1073741824)with hc|hc
  ·exact qi u1 hc rfl hRi r1 r2 hp a2 a1 a3 a4 ht b2 b1 b3 b4 hr hB
  ·exact qo hc u2 rfl hRi r1 r2 hp a2 a1 a3 a4 ht b2 b1 b3 b4 hr hB
 have hbx:am u (aR u h)=aY (cw u) (aR u h):=by
  unfold am qF
  have vt':au (aR u h)=true:=by rw[t2];exact vt
  rw[vu,vt']
  show(if aY (cw u) (aR u h) 0<0 then _ else _)=_
  rw[if_neg (Int.not_lt.2 B0)]
 have hbe:fF u (aR u h)=0:=by
  unfold fF
  rw[vu,t2,vt];rfl
 exact⟨hbx,ku,by rw[t2];exact kt,by rw[t2];exact(ip tk tz).1,fun i hi=>by rw[t2];exact tW kt i hi⟩
theorem zG {u h:Nat->Int} (hIu:∀i,i<4->bu (u i)) (vu:au u=true) (hh:∀i,i<3->-10485760<=h i/\h i<=10485760):
 au (aR u h)=true/\(∀i,i<4->bu (aR u h i))/\nn (fun i=>aR u h i-u i)<=18350080*18350080:=by
 have hv:aE h 268435456=true:=(bp _ _).2 fun i hi=>(cR _ _).2 (by have:=hh i hi;omega)
 have hv2:aE h 1073741824=true:=(bp _ _).2 fun i hi=>(cR _ _).2 (by have:=hh i hi;omega)
 obtain⟨hb,ku,kt,vt,It⟩:=ub hIu vu hv
 obtain⟨_,_,_,_,_,cmp⟩:=qD hIu vu hv
 have c0:=(cmp 0 oa).2.2.2
 rw[hb]at c0
 obtain⟨_,ul,uu⟩:=bm hIu vu
 obtain⟨_,tl,tu⟩:=bm It vt
 obtain⟨rk,r1,r2⟩:=u6 hv2
 have rz:zQ (rq h)=false:=by
  cases hz:zQ (rq h)with
  |false=>rfl
  | true=>
    unfold zQ at hz
    rw[List.all_eq_true]at hz
    have:=beq_iff_eq.1 (hz 0 (List.mem_range.2 oa))
    exact absurd (show(1073741824:Int)=0 from this) da
 obtain⟨_,_,⟨N,P,n1,p1,n2,n3,n4⟩,_⟩:=eF rk rz
 obtain⟨d,e1,e2,e3⟩:=n4 0 oa
 have hn:nn (rq h)<=1073895426*1073895426:=by
  have a:=fun i hi=>bR (P:=10485760) (R:=10485760) (hh i hi).1 (hh i hi).2 (hh i hi).1 (hh i hi).2
  have a0:=a 0 oa;have a1:=a 1 oa;have a2:=a 2 oa
  show 1073741824*1073741824+h 0*h 0+h 1*h 1+h 2*h 2<=_
  omega
 have hN:N<=P*1073895426:=by
  have h1:N*N<=(P*1073895426)* (P*1073895426):=by
   have:=mL hn (av P)
   have e:(P*1073895426)* (P*1073895426)=P*P* (1073895426*1073895426):=by grind
   omega
  exact(bI oa h1).2
 have e1:2* (N*df (rq h) 0)=2* (1073741824* (P*1073741824))+d:=e1
 have hu0:1073588220<=df (rq h) 0:=by
  apply bC;intro hc
  have h1:N*df (rq h) 0<=N*1073588219:=mL oa oa
  have h2:N*1073588219<=(P*1073895426)*1073588219:=mR hN oa
  have h3:(P*1073895426)*1073588219=P*1152921478030964694:=by grind
  omega
 obtain⟨e,he,el,eu⟩:=fD (f:=cw u) (g:=aR u h) (x8 ku) kt (i:=0) oa
 have cje:=nZ ku
 have hd:pe (cw u) (aR u h) 0=u 0*aR u h 0+u 1*aR u h 1+u 2*aR u h 2+u 3*aR u h 3:=by
  have x0:=cje 0 oa;have x1:=cje 1 oa;have x2:=cje 2 oa;have x3:=cje 3 oa
  simp only[pe]
  rw[x0,x1,x2,x3]
  simp only[cj]
  grind
 have hs:nn (fun i=>aR u h i-u i)=nn (aR u h)+nn u-2*pe (cw u) (aR u h) 0:=by
  rw[hd];unfold nn;grind
 rw[hs]
 refine⟨vt,It,?_⟩
 omega
theorem pR {Q v:Nat->Int} {V:Int} (hI:∀i,i<4->bu (Q i)) (hq:au Q=true) (h0:0<=V) (h1:V<=4194304) (hv:vv v<=V*V) {i:Nat} (hi:i<3):
 ∃D,1152921504606846976*aC Q v i=ap (tr (bD Q)) v i+D/\-(1610612736*V+576460752303423488)<=D/\D<=1610612736*V+576460752303423488:=by
 obtain⟨ku,lo,hu⟩:=bm hI hq
 have hM:=oK hu
 have n0:0<=nn Q:=oa
 have b:=fun j (hj:j<3)=>bY h0 hv hj
 have kv:cx v=true:=(bK v).2 fun i hi=>(bE _).2 (by have:=b i hi;omega)
 have B:=fun i (hi':i<3)=>wS (g:=cN (bL Q) v) h0 h1 (fA Q) (fun i hi=>kI _ _ hi) n0 hu (gz Q v) hv hi'
 have kB:cx (cN (bL Q) v)=true:=(bK _).2 fun i hi=>(bE _).2 (by have:=B i hi;omega)
 have eq:aC Q v=cN (bL Q) v:=by unfold aC jt iV;rw[hq,hM,kv,kB];rfl
 rw[eq]
 obtain⟨e,hgi,le,ue⟩:=kI (bL Q) v hi
 obtain⟨d0,m0,l0,u0⟩:=fA Q (3*i) oa
 obtain⟨d1,m1,l1,u1⟩:=fA Q (3*i+1) oa
 obtain⟨d2,m2,l2,u2⟩:=fA Q (3*i+2) oa
 have p0:=bR (P:=536870912) (R:=V) l0 u0 (b 0 oa).1 (b 0 oa).2
 have p1:=bR (P:=536870912) (R:=V) l1 u1 (b 1 oa).1 (b 1 oa).2
 have p2:=bR (P:=536870912) (R:=V) l2 u2 (b 2 oa).1 (b 2 oa).2
 have key:1073741824*ap (tr (bL Q)) v i=ap (tr (bD Q)) v i+(d0*v 0+d1*v 1+d2*v 2):=by
  unfold ap
  have a0:1073741824* (tr (bL Q) (3*i)*v 0)=(tr (bD Q) (3*i)+d0)*v 0:=by rw[<-m0];grind
  have a1:1073741824* (tr (bL Q) (3*i+1)*v 1)=(tr (bD Q) (3*i+1)+d1)*v 1:=by rw[<-m1];grind
  have a2:1073741824* (tr (bL Q) (3*i+2)*v 2)=(tr (bD Q) (3*i+2)+d2)*v 2:=by rw[<-m2];grind
  grind
 refine⟨d0*v 0+d1*v 1+d2*v 2+1073741824*e,?_,?_,?_⟩<;>omega
theorem fj {f g:Nat->Int} {F D:Int} (hF:0<=F) (hD:0<=D) (hf:nn f<=F*F) (hg:nn g<=F*F) (hd:nn (fun i=>f i-g i)<=D*D) (s:(Nat->Int)->Nat->Int)
 (hs:∀x,nn (s x)=nn x) (hl:∀i,i<4->s (fun j=>f j-g j) i=s f i-s g i):
 -(2* (F*D))<=(f 0*s f 0+f 1*s f 1+f 2*s f 2+f 3*s f 3)-(g 0*s g 0+g 1*s g 1+g 2*s g 2+g 3*s g 3)/\
   (f 0*s f 0+f 1*s f 1+f 2*s f 2+f 3*s f 3)-(g 0*s g 0+g 1*s g 1+g 2*s g 2+g 3*s g 3)<=2* (F*D):=by
 have cs:∀(x y:Nat->Int),nn x<=F*F->nn y<=D*D->-(F*D)<=x 0*y 0+x 1*y 1+x 2*y 2+x 3*y 3/\x 0*y 0+x 1*y 1+x 2*y 2+x 3*y 3<=F*D:=fun x y hx hy=>by
  refine bI (mN hF hD) ?_
  have h:=yC (x 0) (x 1) (x 2) (x 3) (y 0) (y 1) (y 2) (y 3)
  have h2:nn x*nn y<=(F*F)* (D*D):=mM hx hy (aT y) (mN hF hF)
  unfold nn at h2
  have e:F*D* (F*D)=F*F* (D*D):=by grind
  rw[e]
  exact iT h h2
 have a:=cs f (s fun j=>f j-g j) hf (by rw[hs];exact hd)
 have b:=cs (s g) (fun j=>f j-g j) (by rw[hs];exact hg) hd
 rw[hl 0 oa,hl 1 oa,hl 2 oa,hl 3 oa]at a
 have e1:f 0*s f 0+f 1*s f 1+f 2*s f 2+f 3*s f 3-(g 0*s g 0+g 1*s g 1+g 2*s g 2+g 3*s g 3)=
  (f 0* (s f 0-s g 0)+f 1* (s f 1-s g 1)+f 2* (s f 2-s g 2)+f 3* (s f 3-s g 3))+(s g 0* (f 0-g 0)+s g 1* (f 1-g 1)+s g 2* (f 2-g 2)+s g 3* (f 3-g 3)):=by grind
 rw[e1]
 generalize f 0* (s f 0-s g 0)+f 1* (s f 1-s g 1)+f 2* (s f 2-s g 2)+f 3* (s f 3-s g 3)=A1 at *
 have b':-(F*D)<=s g 0* (f 0-g 0)+s g 1* (f 1-g 1)+s g 2* (f 2-g 2)+s g 3* (f 3-g 3)/\s g 0* (f 0-g 0)+s g 1* (f 1-g 1)+s g 2* (f 2-g 2)+s g 3* (f 3-g 3)<=F*D:=b
 omega
theorem Ej {f g:Nat->Int} {F D:Int} (hF:0<=F) (hD:0<=D) (hf:nn f<=F*F) (hg:nn g<=F*F) (hd:nn (fun i=>f i-g i)<=D*D):∀j,j<9->-(2* (F*D))<=bD f j-bD g j/\bD f j-bD g j<=2* (F*D):=fun j hj=>by
 rcases(show j=0\/j=1\/j=2\/j=3\/j=4\/j=5\/j=6\/j=7\/j=8 by omega)with rfl|rfl|rfl|rfl|rfl|rfl|rfl|rfl|rfl
 ·have h:=fj hF hD hf hg hd (fun f=>jL (f 0) (f 1) (-f 2) (-f 3)) (fun x=>by unfold nn;simp only[jL];grind) (fun i hi=>by rcases(show i=0\/i=1\/i=2\/i=3 by omega)with rfl|rfl|rfl|rfl<;>simp only[jL]<;>omega)
  simp only[jL]at h
  simp only[bD]
  grind
 ·have h:=fj hF hD hf hg hd (fun f=>jL (-f 3) (f 2) (f 1) (-f 0)) (fun x=>by unfold nn;simp only[jL];grind) (fun i hi=>by rcases(show i=0\/i=1\/i=2\/i=3 by omega)with rfl|rfl|rfl|rfl<;>simp only[jL]<;>omega)
  simp only[jL]at h
  simp only[bD]
  grind
 ·have h:=fj hF hD hf hg hd (fun f=>jL (f 2) (f 3) (f 0) (f 1)) (fun x=>by unfold nn;simp only[jL];grind) (fun i hi=>by rcases(show i=0\/i=1\/i=2\/i=3 by omega)with rfl|rfl|rfl|rfl<;>simp only[jL]<;>omega)
  simp only[jL]at h
  simp only[bD]
  grind
 ·have h:=fj hF hD hf hg hd (fun f=>jL (f 3) (f 2) (f 1) (f 0)) (fun x=>by unfold nn;simp only[jL];grind) (fun i hi=>by rcases(show i=0\/i=1\/i=2\/i=3 by omega)with rfl|rfl|rfl|rfl<;>simp only[jL]<;>omega)
  simp only[jL]at h
  simp only[bD]
  grind
 ·have h:=fj hF hD hf hg hd (fun f=>jL (f 0) (-f 1) (f 2) (-f 3)) (fun x=>by unfold nn;simp only[jL];grind) (fun i hi=>by rcases(show i=0\/i=1\/i=2\/i=3 by omega)with rfl|rfl|rfl|rfl<;>simp only[jL]<;>omega)
  simp only[jL]at h
  simp only[bD]
  grind
 ·have h:=fj hF hD hf hg hd (fun f=>jL (-f 1) (-f 0) (f 3) (f 2)) (fun x=>by unfold nn;simp only[jL];grind) (fun i hi=>by rcases(show i=0\/i=1\/i=2\/i=3 by omega)with rfl|rfl|rfl|rfl<;>simp only[jL]<;>omega)
  simp only[jL]at h
  simp only[bD]
  grind
 ·have h:=fj hF hD hf hg hd (fun f=>jL (-f 2) (f 3) (-f 0) (f 1)) (fun x=>by unfold nn;simp only[jL];grind) (fun i hi=>by rcases(show i=0\/i=1\/i=2\/i=3 by omega)with rfl|rfl|rfl|rfl<;>simp only[jL]<;>omega)
  simp only[jL]at h
  simp only[bD]
  grind
 ·have h:=fj hF hD hf hg hd (fun f=>jL (f 1) (f 0) (f 3) (f 2)) (fun x=>by unfold nn;simp only[jL];grind) (fun i hi=>by rcases(show i=0\/i=1\/i=2\/i=3 by omega)with rfl|rfl|rfl|rfl<;>simp only[jL]<;>omega)
  simp only[jL]at h
  simp only[bD]
  grind
 ·have h:=fj hF hD hf hg hd (fun f=>jL (f 0) (-f 1) (-f 2) (f 3)) (fun x=>by unfold nn;simp only[jL];grind) (fun i hi=>by rcases(show i=0\/i=1\/i=2\/i=3 by omega)with rfl|rfl|rfl|rfl<;>simp only[jL]<;>omega)
  simp only[jL]at h
  simp only[bD]
  grind
theorem q9 {Q T l:Nat->Int} (hI:∀i,i<4->bu (Q i)) (hq:au Q=true) (hT:fG T=true) (hl:∀i,i<3->-5242880<=l i/\l i<=5242880) {i:Nat} (hi:i<3):
 -108000<=aC (bJ Q l) T i-aC Q T i/\aC (bJ Q l) T i-aC Q T i<=108000:=by
 unfold bJ
 split
 ·omega
 ·obtain⟨vt,It,hd⟩:=zG (h:=aJ 2 l) hI hq (fun i hi=>by have:=hl i hi;unfold aJ;omega)
  generalize aR Q (aJ 2 l)=R at *
  obtain⟨b3,bv⟩:=iP hT
  obtain⟨_,_,u1⟩:=bm hI hq
  obtain⟨_,_,u2⟩:=bm It vt
  obtain⟨d1,x1,y1,z1⟩:=pR hI hq (V:=1048576) da da bv hi
  obtain⟨d2,x2,y2,z2⟩:=pR It vt (V:=1048576) da da bv hi
  have e:=Ej (f:=R) (g:=Q) (F:=1073741829) (D:=18350080) da da oa oa hd
  have m:=fun j (hj:j<9) k (hk:k<3)=>bR (P:=39406496922992640) (R:=1048576) (a:=bD R j-bD Q j) (b:=T k) (by have:=e j hj;omega) (by have:=e j hj;omega) (b3 k hk).1 (b3 k hk).2
  have key:-123964014000000000000000<=ap (tr (bD R)) T i-ap (tr (bD Q)) T i/\ap (tr (bD R)) T i-ap (tr (bD Q)) T i<=123964014000000000000000:=by
   rcases(show i=0\/i=1\/i=2 by omega)with rfl|rfl|rfl
   ·have a:=m 0 oa 0 oa;have b:=m 3 oa 1 oa;have c:=m 6 oa 2 oa
    have h:ap (tr (bD R)) T 0-ap (tr (bD Q)) T 0=(bD R 0-bD Q 0)*T 0+(bD R 3-bD Q 3)*T 1+(bD R 6-bD Q 6)*T 2:=by
     show(bD R 0*T 0+bD R 3*T 1+bD R 6*T 2)-(bD Q 0*T 0+bD Q 3*T 1+bD Q 6*T 2)=_;grind
    rw[h];omega
   ·have a:=m 1 oa 0 oa;have b:=m 4 oa 1 oa;have c:=m 7 oa 2 oa
    have h:ap (tr (bD R)) T 1-ap (tr (bD Q)) T 1=(bD R 1-bD Q 1)*T 0+(bD R 4-bD Q 4)*T 1+(bD R 7-bD Q 7)*T 2:=by
     show(bD R 1*T 0+bD R 4*T 1+bD R 7*T 2)-(bD Q 1*T 0+bD Q 4*T 1+bD Q 7*T 2)=_;grind
    rw[h];omega
   ·have a:=m 2 oa 0 oa;have b:=m 5 oa 1 oa;have c:=m 8 oa 2 oa
    have h:ap (tr (bD R)) T 2-ap (tr (bD Q)) T 2=(bD R 2-bD Q 2)*T 0+(bD R 5-bD Q 5)*T 1+(bD R 8-bD Q 8)*T 2:=by
     show(bD R 2*T 0+bD R 5*T 1+bD R 8*T 2)-(bD Q 2*T 0+bD Q 5*T 1+bD Q 8*T 2)=_;grind
    rw[h];omega
  omega
theorem j9 {h:Int} (hh:0<=h):0<=f9 h/\1024*f9 h<=h:=by
 unfold f9;rw[Int.tdiv_eq_ediv_of_nonneg hh];omega
theorem jU {h:Int} (hh:h<=0):f9 h<=0/\h<=1024*f9 h:=by
 have:=j9 (h:=-h) oa
 have e:=EO h
 omega
theorem jc {h P:Int} (hh:-16777216<=h/\h<=16777216) (hP:-2097152<=P/\P<=2097152):
 (-1048576<=P-h+f9 h/\P-h+f9 h<=1048576/\iE h (gx h P)=P)\/(1048576<P-h+f9 h/\iE h (gx h P)=h-f9 h+1048576)\/(P-h+f9 h< -1048576/\iE h (gx h P)=h-f9 h-1048576):=by
 have hc:gx h P=P-h+f9 h:=by unfold gx;rw[iu oa]
 have f1:0<=h->0<=f9 h/\1024*f9 h<=h:=j9
 have f2:h<=0->f9 h<=0/\h<=1024*f9 h:=jU
 unfold iE
 rw[hc]
 by_cases h1:P-h+f9 h< -1048576
 ·refine .inr (.inr ⟨h1,?_⟩)
  have e:aI (P-h+f9 h) (-1048576) 1048576=-1048576:=by unfold aI;rw[if_pos h1];rfl
  rw[e,iu oa];omega
 ·by_cases h2:1048576<P-h+f9 h
  ·refine .inr (.inl ⟨h2,?_⟩)
   have e:aI (P-h+f9 h) (-1048576) 1048576=1048576:=by unfold aI;rw[if_neg h1,if_pos h2]
   rw[e,iu oa]
  ·refine .inl ⟨oa,oa,?_⟩
   rw[rF oa,show h-f9 h+(P-h+f9 h)=P by omega,iu oa]
theorem wO {h P B:Int} (hB:2097152<=B/\B<=16777216) (hh:-B<=h/\h<=B) (hP:-2097152<=P/\P<=2097152):
 (-2097152<=iE h (gx h P)/\iE h (gx h P)<=2097152)\/(-(B-1048576)<=iE h (gx h P)/\iE h (gx h P)<=B-1048576):=by
 have f1:0<=h->0<=f9 h/\1024*f9 h<=h:=j9
 have f2:h<=0->f9 h<=0/\h<=1024*f9 h:=jU
 rcases jc (h:=h) (P:=P) oa hP with⟨_,_,e⟩|⟨a,e⟩|⟨a,e⟩<;>rw[e]<;>omega
theorem oW {h P E:Int} (hh:-2097152<=h/\h<=2097152) (hP:-2097152<=P/\P<=2097152) (hE:-E<=h-P/\h-P<=E):
 (E<=1046528->iE h (gx h P)=P)/\(iE h (gx h P)=P\/(-(E-1046528)<=iE h (gx h P)-P/\iE h (gx h P)-P<=E-1046528))/\-2097152<=iE h (gx h P)/\iE h (gx h P)<=2097152:=by
 have f1:0<=h->0<=f9 h/\1024*f9 h<=h:=j9
 have f2:h<=0->f9 h<=0/\h<=1024*f9 h:=jU
 rcases jc (h:=h) (P:=P) oa hP with⟨_,_,e⟩|⟨a,e⟩|⟨a,e⟩<;>rw[e]<;>refine⟨fun hx=>?_,?_,?_⟩<;>omega
theorem tg {d e:Nat->Int} {f:Int} (h:∀i,i<3->d i=e i) (hf:kN f=true):bj d f=bj e f:=by
 simp only[kN,Bool.and_eq_true,decide_eq_true_eq]at hf
 unfold bj kV
 rw[h 0 oa,h 1 oa,h 2 oa]
 split
 ·rfl
 ·split
  ·rfl
  ·exact h _ oa
theorem il {d e:Nat->Int} {f:Int} (h:∀i,i<3->d i=e i) (hf:kN f=true):bo d f=bo e f:=by
 have hz:=tg h hf
 funext i
 match i with
 |0=>show d 0-bj d f=e 0-bj e f;rw[hz,h 0 oa]
 |1=>show d 1-bj d f=e 1-bj e f;rw[hz,h 1 oa]
 |2=>show d 2-bj d f=e 2-bj e f;rw[hz,h 2 oa]
 |(n+3)=>exact hz
theorem jW {d e:Nat->Int} {f D:Int} (hD:0<=D) (h:∀i,i<3->-D<=d i-e i/\d i-e i<=D) (hf:kN f=true):∀i,-(2*D+1)<=bo d f i-bo e f i/\bo d f i-bo e f i<=2*D+1:=fun i=>by
 have h0:=h 0 oa;have h1:=h 1 oa;have h2:=h 2 oa
 have hz:-(D+1)<=bj d f-bj e f/\bj d f-bj e f<=D+1:=by
  simp only[kN,Bool.and_eq_true,decide_eq_true_eq]at hf
  unfold bj
  split
  ·have mxn:-D<=[d 1,d 2,0].foldl mx (d 0)-[e 1,e 2,0].foldl mx (e 0)/\[d 1,d 2,0].foldl mx (d 0)-[e 1,e 2,0].foldl mx (e 0)<=D:=by
    simp only[List.foldl_cons,List.foldl_nil]
    have m:∀a b c g:Int,-D<=a-b->a-b<=D->-D<=c-g->c-g<=D->-D<=mx a c-mx b g/\mx a c-mx b g<=D:=fun a b c g p q r s=>by unfold mx;split<;>split<;>omega
    have a:=m _ _ _ _ h0.1 h0.2 h1.1 h1.2
    have b:=m _ _ _ _ a.1 a.2 h2.1 h2.2
    exact m _ _ 0 0 b.1 b.2 oa oa
   have mnn:-D<=[d 1,d 2,0].foldl mn (d 0)-[e 1,e 2,0].foldl mn (e 0)/\[d 1,d 2,0].foldl mn (d 0)-[e 1,e 2,0].foldl mn (e 0)<=D:=by
    simp only[List.foldl_cons,List.foldl_nil]
    have m:∀a b c g:Int,-D<=a-b->a-b<=D->-D<=c-g->c-g<=D->-D<=mn a c-mn b g/\mn a c-mn b g<=D:=fun a b c g p q r s=>by unfold mn;split<;>split<;>omega
    have a:=m _ _ _ _ h0.1 h0.2 h1.1 h1.2
    have b:=m _ _ _ _ a.1 a.2 h2.1 h2.2
    exact m _ _ 0 0 b.1 b.2 oa oa
   unfold kV;omega
  ·split
   ·omega
   ·have:=h f.toNat oa;omega
 match i with
 |0=>show-(2*D+1)<=d 0-bj d f-(e 0-bj e f)/\d 0-bj d f-(e 0-bj e f)<=2*D+1;omega
 |1=>show-(2*D+1)<=d 1-bj d f-(e 1-bj e f)/\d 1-bj d f-(e 1-bj e f)<=2*D+1;omega
 |2=>show-(2*D+1)<=d 2-bj d f-(e 2-bj e f)/\d 2-bj d f-(e 2-bj e f)<=2*D+1;omega
 |(n+3)=>show-(2*D+1)<=bj d f-bj e f/\bj d f-bj e f<=2*D+1;omega
def gE (X:cG):Nat->Int:=bo (aC X.Q X.T) X.f
structure RI (X:cG) (S:dw):Prop where
 b:BI X
 s:vQ S
 z:∀i:Nat,i<4->(i:Int)=X.f->X.h i=0
 d:∀i,i<3->S.D i=0
theorem RI.w {X:cG} {S:dw} (k:RI X S):kN X.f=true:=by
 have:=k.b.s.l;have:=k.b.s.u
 unfold kN;rw[dT oa,dT oa];rfl
theorem RI.new {X:cG} {S:dw} (k:RI X S):gj X.h X.f=true:=EY k.w k.b.s.b k.z
theorem uk {S:dw} (hd:∀i,i<3->S.D i=0) (a:Bool) {i:Nat} (hi:i<3):pG a S (fun _=>0) i=0:=by
 unfold pG
 cases a
 ·exact hd i hi
 ·show S.D i+aI (0-S.D i) (-262144) 262144=0
  rw[hd i hi];decide
theorem jm {X:cG} {S:dw} (k:RI X S):∀i,-2097152<=gE X i/\gE X i<=2097152:=fun i=>by
 obtain⟨_,hm⟩:=eU k.b.q k.b.v k.b.t k.b.s
 have:=rG (m:=1048576) da (fun i hi=>(hm i hi).1) k.w i
 unfold gE;omega
theorem Be {X:cG} {S:dw} (k:RI X S) (sun:Nat->Int):ky S (aF X sun) (fun _=>0)=dU X.h X.f (gE X):=by
 obtain⟨_,hm⟩:=eU k.b.q k.b.v k.b.t k.b.s
 have hr:∀i,i<3->jv (aF X sun) (pG (ee S (aF X sun)) S fun _=>0) i=aC X.Q X.T i:=fun i hi=>by
  have h1:=(hm i hi).2
  have h2:=uk k.d (ee S (aF X sun)) hi
  show cZ X.h i+((4*aX X i)/4-pG (ee S (aF X sun)) S (fun _=>0) i)=_
  rw[h2]
  have h3:aX X i=aC X.Q X.T i-cZ X.h i:=h1
  rw[h3];omega
 have hok:cx (jv (aF X sun) (pG (ee S (aF X sun)) S fun _=>0))=true:=(bK _).2 fun i hi=>(bE _).2 (by rw[hr i hi];have:=(hm i hi).1;omega)
 unfold ky oA zx
 rw[hok,show kN (aF X sun).f=true from k.w]
 show dU X.h X.f (bo _ X.f)=_
 rw[il hr k.w]
 rfl
theorem pV {X:cG} {S:dw} (k:RI X S) {sun:Nat->Int} (hs:ce (aF X sun)=true):d7 X S sun=iF X (dU X.h X.f (gE X)) (fun _=>0):=by
 unfold d7 GH
 rw[if_pos hs,Be k sun]
theorem gZ:aE (fun _=>0) 1048576=true:=da
theorem zE {X:cG} {S:dw} (k:RI X S) {sun:Nat->Int} (hs:ce (aF X sun)=true) (i:Nat):(d7 X S sun).h i=if(i:Int)=X.f then X.h i else iE (X.h i) (gx (X.h i) (gE X i)):=by
 rw[pV k hs]
 unfold iF
 rw[if_pos gZ]
 show jD X.h X.f (dU X.h X.f (gE X)) i=_
 unfold jD
 split
 ·rfl
 ·rename_i h
  show iE (X.h i) (dU X.h X.f (gE X) i)=_
  unfold dU
  rw[if_neg h]
theorem Ad {X:cG} {S:dw} (k:RI X S) {sun:Nat->Int} (hs:ce (aF X sun)=true):(d7 X S sun).f=X.f:=by
 rw[pV k hs];unfold iF;rw[if_pos gZ]
theorem Hm {X:cG} {S:dw} (k:RI X S) {sun:Nat->Int} (hs:ce (aF X sun)=true):(d7 X S sun).Q=bJ X.Q (iH X.Q X.T (d7 X S sun).h):=by
 rw[pV k hs];unfold iF;rw[if_pos gZ];rfl
theorem ID {X:cG} {S:dw} (k:RI X S) {sun:Nat->Int} (hs:ce (aF X sun)=true):∀i,i<3->(d7 X S sun).T i=X.T i:=fun i hi=>by
 rw[pV k hs]
 have hD:∀i,i<3->jZ X (dU X.h X.f (gE X)) (fun _=>0) i=0:=fun i hi=>by
  obtain⟨qI,qv⟩:=k.b.att (dU X.h X.f (gE X))
  obtain⟨_,_,hb⟩:=js qI qv da da (KW (v:=fun _=>0) (fun i hi=>rfl))
  have:=(hb i hi).2
  unfold jZ;omega
 have bT:=fun i hi=>(iP k.b.t).1 i hi
 obtain⟨_,hv⟩:=yW (f:=X.T) (g:=jZ X (dU X.h X.f (gE X)) (fun _=>0)) (fun i hi=>by have:=bT i hi;omega) (fun i hi=>by rw[hD i hi];decide)
 unfold iF
 rw[if_pos gZ]
 show(if fG (kY X (dU X.h X.f (gE X)) fun _=>0)=true then kY X (dU X.h X.f (gE X)) (fun _=>0)else X.T) i=X.T i
 split
 ·show dS X.T (jZ X (dU X.h X.f (gE X)) fun _=>0) i=_
  rw[hv i,hD i hi];omega
 ·rfl
theorem RI.tick {X:cG} {S:dw} (k:RI X S) {sun:Nat->Int} (hs:ce (aF X sun)=true):RI (d7 X S sun) (yq S (aF X sun)):=by
 refine⟨?_,(Fp k.s _).1,fun i hi e=>?_,fun i hi=>?_⟩
 ·unfold d7;exact k.b.tick _ _
 ·rw[Ad k hs]at e
  rw[zE k hs,if_pos e];exact k.z i hi e
 ·unfold yq;rw[if_pos hs];exact uk k.d _ hi
end
end Go.Proofs.YtbhahonkhiiilaaGreat
