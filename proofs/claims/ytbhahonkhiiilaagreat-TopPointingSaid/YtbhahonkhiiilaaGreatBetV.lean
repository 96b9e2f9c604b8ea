/-
  The rotation to an attitude that was turned, from any that is valid. No program in sight.
-/
import Derived.Test.YtbhahonkhiiilaaGreatKeep
set_option linter.unusedSimpArgs false
set_option linter.unusedVariables false
namespace Go.Proofs.YtbhahonkhiiilaaGreat
open Go.RowKit PM Dt
theorem qi {u R p t B e d f c:Nat->Int} {Pt Nt Pr Nr:Int} {r:Nat->Int}
 (hQ1:1073741820*1073741820<=nn u) (hQ2:nn u<1073741824*1073741824) (hR0:R 0=1073741824) (hRi:∀i,i<4->-1073741824<=R i/\R i<=1073741824) (hR1:1152921504606846976<=nn R) (hR2:nn R<=4611686018427387904)
 (hp:∀i,i<4->1073741824*p i=pe u R i+e i/\-536870912<=e i/\e i<=536870912)
 (hPt:0<Pt) (hNt:35184372088832<=Nt) (ht1:Nt*Nt<=Pt*Pt*nn p) (ht2:Pt*Pt*nn p<(Nt+1)* (Nt+1)) (ht:∀i,i<4->2* (Nt*t i)=2* (1073741824* (Pt*p i))+d i/\-Nt<=d i/\d i<=Nt)
 (hPr:0<Pr) (hNr:35184372088832<=Nr) (hr1:Nr*Nr<=Pr*Pr*nn R) (hr2:Pr*Pr*nn R<(Nr+1)* (Nr+1)) (hr:∀i,i<4->2* (Nr*r i)=2* (1073741824* (Pr*R i))+c i/\-Nr<=c i/\c i<=Nr)
 (hB:∀i,i<4->1073741824*B i=pe (cj u) t i+f i/\-536870912<=f i/\f i<=536870912):
 (∀i,i<4->B i<=r i+16/\r i<=B i+16)/\0<=B 0:=by
 obtain⟨Q,hQ⟩:∃Q,nn u=Q:=⟨_,rfl⟩
 have hQ0:0<=Q:=by rw[<-hQ];exact aT u
 have hne:nn e<=1073741824*1073741824:=gH (B:=536870912) fun i hi=>(hp i hi).2
 have hnd:nn d<=(2*Nt)* (2*Nt):=gH fun i hi=>(ht i hi).2
 rw[hQ]at hQ1 hQ2
 have r1:Pr*1073741824<=Nr:=by
  have h:(Pr*1073741824)* (Pr*1073741824)<(Nr+1)* (Nr+1):=by
   have:=mL hR1 (av Pr)
   have e:(Pr*1073741824)* (Pr*1073741824)=Pr*Pr*1152921504606846976:=by grind
   omega
  have:=kA oa oa h
  omega
 have r2:Nr<=Pr*2147483648:=by
  have h:Nr*Nr<=(Pr*2147483648)* (Pr*2147483648):=by
   have:=mL hR2 (av Pr)
   have e:(Pr*2147483648)* (Pr*2147483648)=Pr*Pr*4611686018427387904:=by grind
   omega
  exact(bI oa h).2
 have eE:nn (pe u R)=Q*nn R:=by rw[dR,hQ]
 have T1:Pr*1073741824*Nt<=Pt* (1073741824* (Nr+1)+Pr*1073741824):=by
  have t:=jX (x:=sc Pr (pe u R)) (y:=sc Pr e) (z:=sc (Pr*1073741824) p) (X:=1073741824* (Nr+1)) (Y:=Pr*1073741824) oa oa (by
   rw[c_,eE]
   have h1:=mM (show Q<=1073741824*1073741824 by omega) (show Pr*Pr*nn R<=(Nr+1)* (Nr+1) by omega) (mN (av Pr) (aT R)) da
   have e1:Pr*Pr* (Q*nn R)=Q* (Pr*Pr*nn R):=by grind
   have e2:1073741824* (Nr+1)* (1073741824* (Nr+1))=1073741824*1073741824* ((Nr+1)* (Nr+1)):=by grind
   rw[e1,e2];exact h1) (by
   rw[c_]
   have h1:=mL hne (av Pr)
   have e1:Pr*1073741824* (Pr*1073741824)=Pr*Pr* (1073741824*1073741824):=by grind
   rw[e1];exact h1) (fun i hi=>by
   show Pr*1073741824*p i=Pr*pe u R i+Pr*e i
   rw[Int.mul_assoc,(hp i hi).1,Int.mul_add])
  rw[c_]at t
  have h2:(Pr*1073741824*Nt)* (Pr*1073741824*Nt)<=(Pt* (1073741824* (Nr+1)+Pr*1073741824))* (Pt* (1073741824* (Nr+1)+Pr*1073741824)):=by
   have h3:=mL ht1 (av (Pr*1073741824))
   have h4:=mL t (av Pt)
   have e1:(Pr*1073741824*Nt)* (Pr*1073741824*Nt)=Pr*1073741824* (Pr*1073741824)* (Nt*Nt):=by grind
   have e2:Pt*Pt* (Pr*1073741824* (Pr*1073741824)*nn p)=Pr*1073741824* (Pr*1073741824)* (Pt*Pt*nn p):=by grind
   have e3:(Pt* (1073741824* (Nr+1)+Pr*1073741824))* (Pt* (1073741824* (Nr+1)+Pr*1073741824))=Pt*Pt* ((1073741824* (Nr+1)+Pr*1073741824)* (1073741824* (Nr+1)+Pr*1073741824)):=by grind
   rw[e1,e3]
   rw[e2]at h4
   exact iT h3 h4
  exact(bI (mN oa oa) h2).2
 have T2:Pt* (1073741820*Nr)<=Pr*1073741824* (Nt+1)+Pt* (Pr*1073741824):=by
  have t:=jX (x:=sc (Pt*Pr*1073741824) p) (y:=sc (-(Pt*Pr)) e) (z:=sc (Pt*Pr) (pe u R)) (X:=Pr*1073741824* (Nt+1)) (Y:=Pt* (Pr*1073741824)) (mN oa oa) (mN oa oa) (by
   rw[c_]
   have h1:=mL (show Pt*Pt*nn p<=(Nt+1)* (Nt+1) by omega) (av (Pr*1073741824))
   have e1:Pt*Pr*1073741824* (Pt*Pr*1073741824)*nn p=Pr*1073741824* (Pr*1073741824)* (Pt*Pt*nn p):=by grind
   have e2:Pr*1073741824* (Nt+1)* (Pr*1073741824* (Nt+1))=Pr*1073741824* (Pr*1073741824)* ((Nt+1)* (Nt+1)):=by grind
   rw[e1,e2];exact h1) (by
   rw[c_]
   have h1:=mL hne (av (Pt*Pr))
   have e0:-(Pt*Pr)*-(Pt*Pr)=Pt*Pr* (Pt*Pr):=by grind
   have e1:Pt* (Pr*1073741824)* (Pt* (Pr*1073741824))=Pt*Pr* (Pt*Pr)* (1073741824*1073741824):=by grind
   rw[e0,e1];exact h1) (fun i hi=>by
   show Pt*Pr*pe u R i=Pt*Pr*1073741824*p i+-(Pt*Pr)*e i
   have:Pt*Pr*1073741824*p i=Pt*Pr* (pe u R i+e i):=by rw[Int.mul_assoc,(hp i hi).1]
   rw[this];grind)
  rw[c_,eE]at t
  have h2:(Pt* (1073741820*Nr))* (Pt* (1073741820*Nr))<=(Pr*1073741824* (Nt+1)+Pt* (Pr*1073741824))* (Pr*1073741824* (Nt+1)+Pt* (Pr*1073741824)):=by
   refine iT ?_ t
   have h3:=mM hQ1 hr1 (av Nr) hQ0
   have h4:=mL h3 (av Pt)
   have e1:(Pt* (1073741820*Nr))* (Pt* (1073741820*Nr))=Pt*Pt* (1073741820*1073741820* (Nr*Nr)):=by grind
   have e2:Pt*Pr* (Pt*Pr)* (Q*nn R)=Pt*Pt* (Q* (Pr*Pr*nn R)):=by grind
   rw[e1,e2];exact h4
  exact(bI (Int.add_nonneg (mN oa oa) (mN oa oa)) h2).2
 have T3:Pt*1073741819<=Nt+1:=by
  have h1:Pt* (Pr*1073741824)<=Pt*Nr:=mL r1 oa
  have h2:Pr*1073741824* (Nt+1)<=Nr* (Nt+1):=mR r1 oa
  have h3:Nr* (Pt*1073741819)<=Nr* (Nt+1):=by
   have e1:Nr* (Pt*1073741819)=Pt* (1073741820*Nr)-Pt*Nr:=by grind
   omega
  exact mC h3 oa
 have Zlo:-(Pt* (8589934576*Nr+1152921504606846976+1152921504606846976*Pr))<=Pt*Q*Nr-1152921504606846976* (Nt*Pr):=by
  have h1:Pt* (1073741820*1073741820*Nr)<=Pt* (Q*Nr):=mL (mR hQ1 oa) oa
  have e1:Pt*Q*Nr=Pt* (Q*Nr):=Int.mul_assoc _ _ _
  have e2:1073741824* (Pr*1073741824*Nt)=1152921504606846976* (Nt*Pr):=by grind
  have e3:1073741824* (Pt* (1073741824* (Nr+1)+Pr*1073741824))=1152921504606846976* (Pt*Nr)+1152921504606846976*Pt+1152921504606846976* (Pt*Pr):=by grind
  have e4:Pt* (8589934576*Nr+1152921504606846976+1152921504606846976*Pr)=8589934576* (Pt*Nr)+1152921504606846976*Pt+1152921504606846976* (Pt*Pr):=by grind
  have e5:Pt* (1073741820*1073741820*Nr)=1152921496016912400* (Pt*Nr):=by grind
  omega
 have Zhi:Pt*Q*Nr-1152921504606846976* (Nt*Pr)<=Pt* (4294967296*Nr+2305843009213693952*Pr):=by
  have h1:Pt* (Q*Nr)<=Pt* (1073741824*1073741824*Nr):=mL (mR oa oa) oa
  have e1:Pt*Q*Nr=Pt* (Q*Nr):=Int.mul_assoc _ _ _
  have e2:1073741824* (Pr*1073741824* (Nt+1)+Pt* (Pr*1073741824))=1152921504606846976* (Nt*Pr)+1152921504606846976*Pr+1152921504606846976* (Pt*Pr):=by grind
  have e3:1073741824* (Pt* (1073741820*Nr))=1152921500311879680* (Pt*Nr):=by grind
  have e4:Pt* (4294967296*Nr+2305843009213693952*Pr)=4294967296* (Pt*Nr)+2305843009213693952* (Pt*Pr):=by grind
  have e5:Pt* (1073741824*1073741824*Nr)=1152921504606846976* (Pt*Nr):=by grind
  have h2:Pr<=Pt*Pr:=by
   have:=mR (show 1<=Pt by omega) (show 0<=Pr by omega)
   omega
  omega
 obtain⟨Z,hZ⟩:∃Z,Pt*Q*Nr-1152921504606846976* (Nt*Pr)=Z:=⟨_,rfl⟩
 rw[hZ]at Zlo Zhi
 have hZb:-(Pt* (9663676400*Nr+1152921504606846976))<=Z/\Z<=Pt* (9663676400*Nr+1152921504606846976):=by
  have h1:Pt* (2305843009213693952*Pr)<=Pt* (2147483648*Nr):=mL oa oa
  have h1':Pt* (1152921504606846976*Pr)<=Pt* (1073741824*Nr):=mL oa oa
  have n1:0<=Pt*Nr:=mN oa oa
  have e0:Pt* (1152921504606846976*Pr)=1152921504606846976* (Pt*Pr):=by grind
  have e0':Pt* (2305843009213693952*Pr)=2305843009213693952* (Pt*Pr):=by grind
  have e1:Pt* (8589934576*Nr+1152921504606846976+1152921504606846976*Pr)=8589934576* (Pt*Nr)+1152921504606846976*Pt+1152921504606846976* (Pt*Pr):=by grind
  have e2:Pt* (4294967296*Nr+2305843009213693952*Pr)=4294967296* (Pt*Nr)+2305843009213693952* (Pt*Pr):=by grind
  have e3:Pt* (9663676400*Nr+1152921504606846976)=9663676400* (Pt*Nr)+1152921504606846976*Pt:=by grind
  have e4:Pt* (2147483648*Nr)=2147483648* (Pt*Nr):=by grind
  have e5:Pt* (1073741824*Nr)=1073741824* (Pt*Nr):=by grind
  constructor<;>omega
 have hG:∀i,i<4->-1152921504606846976<=pe (cj u) e i/\pe (cj u) e i<=1152921504606846976:=fun i hi=>cK (X:=1152921504606846976) da (by
  rw[dR,i_,hQ]
  have:=mM (show Q<=1073741824*1073741824 by omega) hne (aT e) da
  omega) hi
 have hH:∀i,i<4->-(2147483648*Nt)<=pe (cj u) d i/\pe (cj u) d i<=2147483648*Nt:=fun i hi=>cK (X:=2147483648*Nt) oa (by
  rw[dR,i_,hQ]
  have h1:=mM (show Q<=1073741824*1073741824 by omega) hnd (aT d) da
  have e1:1073741824*1073741824* (2*Nt* (2*Nt))=2147483648*Nt* (2147483648*Nt):=by grind
  omega) hi
 have key:∀i,i<4->B i<=r i+16/\r i<=B i+16:=fun i hi=>by
  obtain⟨b1,b2,b3⟩:=hB i hi
  obtain⟨c1,c2,c3⟩:=hr i hi
  have g:=hG i hi
  have hh:=hH i hi
  have ri:=hRi i hi
  have x1:pe (cj u) (fun j=>2*Nt*t j+0*t j) i=2*Nt*pe (cj u) t i+0*pe (cj u) t i:=mY _ _ _ _ _ _ hi
  have x2:pe (cj u) (fun j=>2*Nt*t j+0*t j) i=pe (cj u) (fun j=>2*Pt* (1073741824*p j)+1*d j) i:=i7 (fun j hj=>by
   have:=(ht j hj).1
   have e1:2*Nt*t j=2* (Nt*t j):=Int.mul_assoc _ _ _
   have e2:2*Pt* (1073741824*p j)=2* (1073741824* (Pt*p j)):=by grind
   show 2*Nt*t j+0*t j=2*Pt* (1073741824*p j)+1*d j
   omega) i hi
  have x3:pe (cj u) (fun j=>2*Pt* (1073741824*p j)+1*d j) i=2*Pt*pe (cj u) (fun j=>1073741824*p j) i+1*pe (cj u) d i:=mY _ (fun j=>1073741824*p j) _ _ _ _ hi
  have x4:pe (cj u) (fun j=>1073741824*p j) i=pe (cj u) (fun j=>1*pe u R j+1*e j) i:=i7 (fun j hj=>by
   have:=(hp j hj).1
   show 1073741824*p j=1*pe u R j+1*e j
   omega) i hi
  have x5:pe (cj u) (fun j=>1*pe u R j+1*e j) i=1*pe (cj u) (pe u R) i+1*pe (cj u) e i:=mY _ _ _ _ _ _ hi
  have x6:=GR u R i hi
  rw[hQ]at x6
  rw[x6]at x5
  rw[x5]at x4
  rw[x4]at x3
  rw[<-x2,x1]at x3
  generalize pe (cj u) t i=TT at *
  generalize pe (cj u) e i=G at *
  generalize pe (cj u) d i=H at *
  have hmain:2*1073741824* (Nt*Nr)* (B i-r i)=2* (R i*Z)+2* (Pt*Nr*G)+Nr*H+2* (Nt*Nr*f i)-1073741824* (Nt*c i):=by
   have y1:2*Nt* (1073741824*B i)=2*Nt*TT+2*Nt*f i:=by rw[b1];grind
   have y2:2*Nt*TT=2*Pt* (Q*R i+G)+H:=by
    have:=x3
    simp only[Int.one_mul,Int.zero_mul,Int.add_zero]at this
    exact this
   have y3:2*1073741824* (Nt*Nr)*B i=Nr* (2*Nt* (1073741824*B i)):=by grind
   have y4:2*1073741824* (Nt*Nr)*r i=1073741824*Nt* (2* (Nr*r i)):=by grind
   rw[Int.mul_sub,y3,y4,y1,y2,c1,<-hZ]
   grind
  have m1:=bR ri.1 ri.2 hZb.1 hZb.2
  have m2:=bR (P:=Pt*Nr) (R:=1152921504606846976) (a:=Pt*Nr) (b:=G) (by have:=mN (show 0<=Pt by omega) (show 0<=Nr by omega);omega) (iR _) g.1 g.2
  have m3:=bR (P:=Nr) (R:=2147483648*Nt) (a:=Nr) (b:=H) oa (iR _) hh.1 hh.2
  have m4:=bR (P:=Nt*Nr) (R:=536870912) (a:=Nt*Nr) (b:=f i) (by have:=mN (show 0<=Nt by omega) (show 0<=Nr by omega);omega) (iR _) b2 b3
  have m5:=bR (P:=Nt) (R:=Nr) (a:=Nt) (b:=c i) oa (iR _) c2 c3
  have t1:1073741819* (Pt*Nr)<=Nt*Nr+Nr:=by
   have:=mR T3 (show 0<=Nr by omega)
   have e1:Pt*1073741819*Nr=1073741819* (Pt*Nr):=by grind
   have e2:(Nt+1)*Nr=Nt*Nr+Nr:=by grind
   omega
  have t2:35184372088832*Nr<=Nt*Nr:=mR hNt oa
  have t3:35184372088832*Nt<=Nt*Nr:=by
   have:=mL hNr (show 0<=Nt by omega)
   omega
  have e1:1073741824* (Pt* (9663676400*Nr+1152921504606846976))=10376293524281753600* (Pt*Nr)+1237940039285380274899124224*Pt:=by
   have:Pt* (9663676400*Nr+1152921504606846976)=9663676400* (Pt*Nr)+1152921504606846976*Pt:=by grind
   omega
  have e2:Pt*Nr*1152921504606846976=1152921504606846976* (Pt*Nr):=by grind
  have e3:Nr* (2147483648*Nt)=2147483648* (Nt*Nr):=by grind
  have e4:Nt*Nr*536870912=536870912* (Nt*Nr):=by grind
  rw[e1]at m1
  rw[e2]at m2
  rw[e3]at m3
  rw[e4]at m4
  have hX:0<Nt*Nr:=Int.mul_pos oa oa
  clear x1 x2 x3 x4 x5 x6 e1 e2 e3 e4 T1 T2 Zlo Zhi hZ hZb r1 r2 hr1 hr2 ht1 ht2 hne hnd hG hH
  generalize R i*Z=A1 at *
  generalize Pt*Nr*G=A2 at *
  generalize Nr*H=A3 at *
  generalize Nt*Nr*f i=A4 at *
  generalize Nt*c i=A5 at *
  generalize Pt*Nr=Y at *
  have hY:Y*1073741819<=Nt*Nr+Nr:=oa
  generalize Nt*Nr=X at *
  have up:2*1073741824*X* (B i-r i)<=2*1073741824*X*16:=by rw[hmain];omega
  have lo:2*1073741824*X* (-16)<=2*1073741824*X* (B i-r i):=by rw[hmain];omega
  have u':=mC up oa
  have l':=mC lo oa
  omega
 refine⟨key,?_⟩
 obtain⟨c1,c2,c3⟩:=hr 0 oa
 have k0:=(key 0 oa).2
 rw[hR0]at c1
 have:16<=r 0:=by
  apply bC;intro hc
  have h1:Nr*r 0<=Nr*15:=mL oa oa
  omega
 omega
theorem qo {u R p t B e d f c:Nat->Int} {Pt Nt Pr Nr:Int} {r:Nat->Int}
 (hQ1:1073741824*1073741824<=nn u) (hQ2:nn u<1073741829*1073741829) (hR0:R 0=1073741824) (hRi:∀i,i<4->-1073741824<=R i/\R i<=1073741824) (hR1:1152921504606846976<=nn R) (hR2:nn R<=4611686018427387904)
 (hp:∀i,i<4->1073741824*p i=pe u R i+e i/\-536870912<=e i/\e i<=536870912)
 (hPt:0<Pt) (hNt:35184372088832<=Nt) (ht1:Nt*Nt<=Pt*Pt*nn p) (ht2:Pt*Pt*nn p<(Nt+1)* (Nt+1)) (ht:∀i,i<4->2* (Nt*t i)=2* (1073741824* (Pt*p i))+d i/\-Nt<=d i/\d i<=Nt)
 (hPr:0<Pr) (hNr:35184372088832<=Nr) (hr1:Nr*Nr<=Pr*Pr*nn R) (hr2:Pr*Pr*nn R<(Nr+1)* (Nr+1)) (hr:∀i,i<4->2* (Nr*r i)=2* (1073741824* (Pr*R i))+c i/\-Nr<=c i/\c i<=Nr)
 (hB:∀i,i<4->1073741824*B i=pe (cj u) t i+f i/\-536870912<=f i/\f i<=536870912):
 (∀i,i<4->B i<=r i+16/\r i<=B i+16)/\0<=B 0:=by
 obtain⟨Q,hQ⟩:∃Q,nn u=Q:=⟨_,rfl⟩
 have hQ0:0<=Q:=by rw[<-hQ];exact aT u
 have hne:nn e<=1073741824*1073741824:=gH (B:=536870912) fun i hi=>(hp i hi).2
 have hnd:nn d<=(2*Nt)* (2*Nt):=gH fun i hi=>(ht i hi).2
 rw[hQ]at hQ1 hQ2
 have r1:Pr*1073741824<=Nr:=by
  have h:(Pr*1073741824)* (Pr*1073741824)<(Nr+1)* (Nr+1):=by
   have:=mL hR1 (av Pr)
   have e:(Pr*1073741824)* (Pr*1073741824)=Pr*Pr*1152921504606846976:=by grind
   omega
  have:=kA oa oa h
  omega
 have r2:Nr<=Pr*2147483648:=by
  have h:Nr*Nr<=(Pr*2147483648)* (Pr*2147483648):=by
   have:=mL hR2 (av Pr)
   have e:(Pr*2147483648)* (Pr*2147483648)=Pr*Pr*4611686018427387904:=by grind
   omega
  exact(bI oa h).2
 have eE:nn (pe u R)=Q*nn R:=by rw[dR,hQ]
 have T1:Pr*1073741824*Nt<=Pt* (1073741829* (Nr+1)+Pr*1073741824):=by
  have t:=jX (x:=sc Pr (pe u R)) (y:=sc Pr e) (z:=sc (Pr*1073741824) p) (X:=1073741829* (Nr+1)) (Y:=Pr*1073741824) oa oa (by
   rw[c_,eE]
   have h1:=mM (show Q<=1073741829*1073741829 by omega) (show Pr*Pr*nn R<=(Nr+1)* (Nr+1) by omega) (mN (av Pr) (aT R)) da
   have e1:Pr*Pr* (Q*nn R)=Q* (Pr*Pr*nn R):=by grind
   have e2:1073741829* (Nr+1)* (1073741829* (Nr+1))=1073741829*1073741829* ((Nr+1)* (Nr+1)):=by grind
   rw[e1,e2];exact h1) (by
   rw[c_]
   have h1:=mL hne (av Pr)
   have e1:Pr*1073741824* (Pr*1073741824)=Pr*Pr* (1073741824*1073741824):=by grind
   rw[e1];exact h1) (fun i hi=>by
   show Pr*1073741824*p i=Pr*pe u R i+Pr*e i
   rw[Int.mul_assoc,(hp i hi).1,Int.mul_add])
  rw[c_]at t
  have h2:(Pr*1073741824*Nt)* (Pr*1073741824*Nt)<=(Pt* (1073741829* (Nr+1)+Pr*1073741824))* (Pt* (1073741829* (Nr+1)+Pr*1073741824)):=by
   have h3:=mL ht1 (av (Pr*1073741824))
   have h4:=mL t (av Pt)
   have e1:(Pr*1073741824*Nt)* (Pr*1073741824*Nt)=Pr*1073741824* (Pr*1073741824)* (Nt*Nt):=by grind
   have e2:Pt*Pt* (Pr*1073741824* (Pr*1073741824)*nn p)=Pr*1073741824* (Pr*1073741824)* (Pt*Pt*nn p):=by grind
   have e3:(Pt* (1073741829* (Nr+1)+Pr*1073741824))* (Pt* (1073741829* (Nr+1)+Pr*1073741824))=Pt*Pt* ((1073741829* (Nr+1)+Pr*1073741824)* (1073741829* (Nr+1)+Pr*1073741824)):=by grind
   rw[e1,e3]
   rw[e2]at h4
   exact iT h3 h4
  exact(bI (mN oa oa) h2).2
 have T2:Pt* (1073741824*Nr)<=Pr*1073741824* (Nt+1)+Pt* (Pr*1073741824):=by
  have t:=jX (x:=sc (Pt*Pr*1073741824) p) (y:=sc (-(Pt*Pr)) e) (z:=sc (Pt*Pr) (pe u R)) (X:=Pr*1073741824* (Nt+1)) (Y:=Pt* (Pr*1073741824)) (mN oa oa) (mN oa oa) (by
   rw[c_]
   have h1:=mL (show Pt*Pt*nn p<=(Nt+1)* (Nt+1) by omega) (av (Pr*1073741824))
   have e1:Pt*Pr*1073741824* (Pt*Pr*1073741824)*nn p=Pr*1073741824* (Pr*1073741824)* (Pt*Pt*nn p):=by grind
   have e2:Pr*1073741824* (Nt+1)* (Pr*1073741824* (Nt+1))=Pr*1073741824* (Pr*1073741824)* ((Nt+1)* (Nt+1)):=by grind
   rw[e1,e2];exact h1) (by
   rw[c_]
   have h1:=mL hne (av (Pt*Pr))
   have e0:-(Pt*Pr)*-(Pt*Pr)=Pt*Pr* (Pt*Pr):=by grind
   have e1:Pt* (Pr*1073741824)* (Pt* (Pr*1073741824))=Pt*Pr* (Pt*Pr)* (1073741824*1073741824):=by grind
   rw[e0,e1];exact h1) (fun i hi=>by
   show Pt*Pr*pe u R i=Pt*Pr*1073741824*p i+-(Pt*Pr)*e i
   have:Pt*Pr*1073741824*p i=Pt*Pr* (pe u R i+e i):=by rw[Int.mul_assoc,(hp i hi).1]
   rw[this];grind)
  rw[c_,eE]at t
  have h2:(Pt* (1073741824*Nr))* (Pt* (1073741824*Nr))<=(Pr*1073741824* (Nt+1)+Pt* (Pr*1073741824))* (Pr*1073741824* (Nt+1)+Pt* (Pr*1073741824)):=by
   refine iT ?_ t
   have h3:=mM hQ1 hr1 (av Nr) hQ0
   have h4:=mL h3 (av Pt)
   have e1:(Pt* (1073741824*Nr))* (Pt* (1073741824*Nr))=Pt*Pt* (1073741824*1073741824* (Nr*Nr)):=by grind
   have e2:Pt*Pr* (Pt*Pr)* (Q*nn R)=Pt*Pt* (Q* (Pr*Pr*nn R)):=by grind
   rw[e1,e2];exact h4
  exact(bI (Int.add_nonneg (mN oa oa) (mN oa oa)) h2).2
 have T3:Pt*1073741823<=Nt+1:=by
  have h1:Pt* (Pr*1073741824)<=Pt*Nr:=mL r1 oa
  have h2:Pr*1073741824* (Nt+1)<=Nr* (Nt+1):=mR r1 oa
  have h3:Nr* (Pt*1073741823)<=Nr* (Nt+1):=by
   have e1:Nr* (Pt*1073741823)=Pt* (1073741824*Nr)-Pt*Nr:=by grind
   omega
  exact mC h3 oa
 have Zlo:-(Pt* (5368709120*Nr+1152921509975556096+1152921504606846976*Pr))<=Pt*Q*Nr-1152921504606846976* (Nt*Pr):=by
  have h1:Pt* (1073741824*1073741824*Nr)<=Pt* (Q*Nr):=mL (mR hQ1 oa) oa
  have e1:Pt*Q*Nr=Pt* (Q*Nr):=Int.mul_assoc _ _ _
  have e2:1073741824* (Pr*1073741824*Nt)=1152921504606846976* (Nt*Pr):=by grind
  have e3:1073741824* (Pt* (1073741829* (Nr+1)+Pr*1073741824))=1152921509975556096* (Pt*Nr)+1152921509975556096*Pt+1152921504606846976* (Pt*Pr):=by grind
  have e4:Pt* (5368709120*Nr+1152921509975556096+1152921504606846976*Pr)=5368709120* (Pt*Nr)+1152921509975556096*Pt+1152921504606846976* (Pt*Pr):=by grind
  have e5:Pt* (1073741824*1073741824*Nr)=1152921504606846976* (Pt*Nr):=by grind
  omega
 have Zhi:Pt*Q*Nr-1152921504606846976* (Nt*Pr)<=Pt* (10737418265*Nr+2305843009213693952*Pr):=by
  have h1:Pt* (Q*Nr)<=Pt* (1073741829*1073741829*Nr):=mL (mR oa oa) oa
  have e1:Pt*Q*Nr=Pt* (Q*Nr):=Int.mul_assoc _ _ _
  have e2:1073741824* (Pr*1073741824* (Nt+1)+Pt* (Pr*1073741824))=1152921504606846976* (Nt*Pr)+1152921504606846976*Pr+1152921504606846976* (Pt*Pr):=by grind
  have e3:1073741824* (Pt* (1073741824*Nr))=1152921504606846976* (Pt*Nr):=by grind
  have e4:Pt* (10737418265*Nr+2305843009213693952*Pr)=10737418265* (Pt*Nr)+2305843009213693952* (Pt*Pr):=by grind
  have e5:Pt* (1073741829*1073741829*Nr)=1152921515344265241* (Pt*Nr):=by grind
  have h2:Pr<=Pt*Pr:=by
   have:=mR (show 1<=Pt by omega) (show 0<=Pr by omega)
   omega
  omega
 obtain⟨Z,hZ⟩:∃Z,Pt*Q*Nr-1152921504606846976* (Nt*Pr)=Z:=⟨_,rfl⟩
 rw[hZ]at Zlo Zhi
 have hZb:-(Pt* (12884901913*Nr+1152921509975556096))<=Z/\Z<=Pt* (12884901913*Nr+1152921509975556096):=by
  have h1:Pt* (2305843009213693952*Pr)<=Pt* (2147483648*Nr):=mL oa oa
  have h1':Pt* (1152921504606846976*Pr)<=Pt* (1073741824*Nr):=mL oa oa
  have n1:0<=Pt*Nr:=mN oa oa
  have e0:Pt* (1152921504606846976*Pr)=1152921504606846976* (Pt*Pr):=by grind
  have e0':Pt* (2305843009213693952*Pr)=2305843009213693952* (Pt*Pr):=by grind
  have e1:Pt* (5368709120*Nr+1152921509975556096+1152921504606846976*Pr)=5368709120* (Pt*Nr)+1152921509975556096*Pt+1152921504606846976* (Pt*Pr):=by grind
  have e2:Pt* (10737418265*Nr+2305843009213693952*Pr)=10737418265* (Pt*Nr)+2305843009213693952* (Pt*Pr):=by grind
  have e3:Pt* (12884901913*Nr+1152921509975556096)=12884901913* (Pt*Nr)+1152921509975556096*Pt:=by grind
  have e4:Pt* (2147483648*Nr)=2147483648* (Pt*Nr):=by grind
  have e5:Pt* (1073741824*Nr)=1073741824* (Pt*Nr):=by grind
  constructor<;>omega
 have hG:∀i,i<4->-1152921509975556096<=pe (cj u) e i/\pe (cj u) e i<=1152921509975556096:=fun i hi=>cK (X:=1152921509975556096) da (by
  rw[dR,i_,hQ]
  have:=mM (show Q<=1073741829*1073741829 by omega) hne (aT e) da
  omega) hi
 have hH:∀i,i<4->-(2147483658*Nt)<=pe (cj u) d i/\pe (cj u) d i<=2147483658*Nt:=fun i hi=>cK (X:=2147483658*Nt) oa (by
  rw[dR,i_,hQ]
  have h1:=mM (show Q<=1073741829*1073741829 by omega) hnd (aT d) da
  have e1:1073741829*1073741829* (2*Nt* (2*Nt))=2147483658*Nt* (2147483658*Nt):=by grind
  omega) hi
 have key:∀i,i<4->B i<=r i+16/\r i<=B i+16:=fun i hi=>by
  obtain⟨b1,b2,b3⟩:=hB i hi
  obtain⟨c1,c2,c3⟩:=hr i hi
  have g:=hG i hi
  have hh:=hH i hi
  have ri:=hRi i hi
  have x1:pe (cj u) (fun j=>2*Nt*t j+0*t j) i=2*Nt*pe (cj u) t i+0*pe (cj u) t i:=mY _ _ _ _ _ _ hi
  have x2:pe (cj u) (fun j=>2*Nt*t j+0*t j) i=pe (cj u) (fun j=>2*Pt* (1073741824*p j)+1*d j) i:=i7 (fun j hj=>by
   have:=(ht j hj).1
   have e1:2*Nt*t j=2* (Nt*t j):=Int.mul_assoc _ _ _
   have e2:2*Pt* (1073741824*p j)=2* (1073741824* (Pt*p j)):=by grind
   show 2*Nt*t j+0*t j=2*Pt* (1073741824*p j)+1*d j
   omega) i hi
  have x3:pe (cj u) (fun j=>2*Pt* (1073741824*p j)+1*d j) i=2*Pt*pe (cj u) (fun j=>1073741824*p j) i+1*pe (cj u) d i:=mY _ (fun j=>1073741824*p j) _ _ _ _ hi
  have x4:pe (cj u) (fun j=>1073741824*p j) i=pe (cj u) (fun j=>1*pe u R j+1*e j) i:=i7 (fun j hj=>by
   have:=(hp j hj).1
   show 1073741824*p j=1*pe u R j+1*e j
   omega) i hi
  have x5:pe (cj u) (fun j=>1*pe u R j+1*e j) i=1*pe (cj u) (pe u R) i+1*pe (cj u) e i:=mY _ _ _ _ _ _ hi
  have x6:=GR u R i hi
  rw[hQ]at x6
  rw[x6]at x5
  rw[x5]at x4
  rw[x4]at x3
  rw[<-x2,x1]at x3
  generalize pe (cj u) t i=TT at *
  generalize pe (cj u) e i=G at *
  generalize pe (cj u) d i=H at *
  have hmain:2*1073741824* (Nt*Nr)* (B i-r i)=2* (R i*Z)+2* (Pt*Nr*G)+Nr*H+2* (Nt*Nr*f i)-1073741824* (Nt*c i):=by
   have y1:2*Nt* (1073741824*B i)=2*Nt*TT+2*Nt*f i:=by rw[b1];grind
   have y2:2*Nt*TT=2*Pt* (Q*R i+G)+H:=by
    have:=x3
    simp only[Int.one_mul,Int.zero_mul,Int.add_zero]at this
    exact this
   have y3:2*1073741824* (Nt*Nr)*B i=Nr* (2*Nt* (1073741824*B i)):=by grind
   have y4:2*1073741824* (Nt*Nr)*r i=1073741824*Nt* (2* (Nr*r i)):=by grind
   rw[Int.mul_sub,y3,y4,y1,y2,c1,<-hZ]
   grind
  have m1:=bR ri.1 ri.2 hZb.1 hZb.2
  have m2:=bR (P:=Pt*Nr) (R:=1152921509975556096) (a:=Pt*Nr) (b:=G) (by have:=mN (show 0<=Pt by omega) (show 0<=Nr by omega);omega) (iR _) g.1 g.2
  have m3:=bR (P:=Nr) (R:=2147483658*Nt) (a:=Nr) (b:=H) oa (iR _) hh.1 hh.2
  have m4:=bR (P:=Nt*Nr) (R:=536870912) (a:=Nt*Nr) (b:=f i) (by have:=mN (show 0<=Nt by omega) (show 0<=Nr by omega);omega) (iR _) b2 b3
  have m5:=bR (P:=Nt) (R:=Nr) (a:=Nt) (b:=c i) oa (iR _) c2 c3
  have t1:1073741823* (Pt*Nr)<=Nt*Nr+Nr:=by
   have:=mR T3 (show 0<=Nr by omega)
   have e1:Pt*1073741823*Nr=1073741823* (Pt*Nr):=by grind
   have e2:(Nt+1)*Nr=Nt*Nr+Nr:=by grind
   omega
  have t2:35184372088832*Nr<=Nt*Nr:=mR hNt oa
  have t3:35184372088832*Nt<=Nt*Nr:=by
   have:=mL hNr (show 0<=Nt by omega)
   omega
  have e1:1073741824* (Pt* (12884901913*Nr+1152921509975556096))=13835058082125709312* (Pt*Nr)+1237940045049987797933359104*Pt:=by
   have:Pt* (12884901913*Nr+1152921509975556096)=12884901913* (Pt*Nr)+1152921509975556096*Pt:=by grind
   omega
  have e2:Pt*Nr*1152921509975556096=1152921509975556096* (Pt*Nr):=by grind
  have e3:Nr* (2147483658*Nt)=2147483658* (Nt*Nr):=by grind
  have e4:Nt*Nr*536870912=536870912* (Nt*Nr):=by grind
  rw[e1]at m1
  rw[e2]at m2
  rw[e3]at m3
  rw[e4]at m4
  have hX:0<Nt*Nr:=Int.mul_pos oa oa
  clear x1 x2 x3 x4 x5 x6 e1 e2 e3 e4 T1 T2 Zlo Zhi hZ hZb r1 r2 hr1 hr2 ht1 ht2 hne hnd hG hH
  generalize R i*Z=A1 at *
  generalize Pt*Nr*G=A2 at *
  generalize Nr*H=A3 at *
  generalize Nt*Nr*f i=A4 at *
  generalize Nt*c i=A5 at *
  generalize Pt*Nr=Y at *
  have hY:Y*1073741823<=Nt*Nr+Nr:=oa
  generalize Nt*Nr=X at *
  have up:2*1073741824*X* (B i-r i)<=2*1073741824*X*16:=by rw[hmain];omega
  have lo:2*1073741824*X* (-16)<=2*1073741824*X* (B i-r i):=by rw[hmain];omega
  have u':=mC up oa
  have l':=mC lo oa
  omega
 refine⟨key,?_⟩
 obtain⟨c1,c2,c3⟩:=hr 0 oa
 have k0:=(key 0 oa).2
 rw[hR0]at c1
 have:16<=r 0:=by
  apply bC;intro hc
  have h1:Nr*r 0<=Nr*15:=mL oa oa
  omega
 omega
theorem KT {x:Int} (hx:-4611686018427387904<=x/\x<=4611686018427387904):wrap64 x=x:=by unfold wrap64;omega
theorem KS (u:Nat->Int):cw u 0=u 0:=rfl
theorem Lc (u:Nat->Int):cj u 0=u 0:=rfl
theorem nZ {u:Nat->Int} (ku:eX u=true):∀i,i<4->cw u i=cj u i:=fun i hi=>by
 have bd:=iB ku hi
 have:i=0\/i=1\/i=2\/i=3:=oa
 rcases this with rfl|rfl|rfl|rfl
 ·exact(KS u).trans (Lc u).symm
 ·exact(KT (x:=-u 1) oa)
 ·exact(KT (x:=-u 2) oa)
 ·exact(KT (x:=-u 3) oa)
theorem Hw {x y g:Nat->Int} (h0:x 0=y 0) (h1:x 1=y 1) (h2:x 2=y 2) (h3:x 3=y 3) (i:Nat):pe x g i=pe y g i:=by
 unfold pe
 split<;>rw[h0,h1,h2,h3]
theorem x8 {u:Nat->Int} (ku:eX u=true):eX (cw u)=true:=(bN _).2 fun i hi=>(bE _).2 (by
 rw[nZ ku i hi]
 have bd:=iB ku hi
 have:i=0\/i=1\/i=2\/i=3:=oa
 rcases this with rfl|rfl|rfl|rfl
 ·exact bd
 ·show _<=-u 1/\-u 1<=_
  omega
 ·show _<=-u 2/\-u 2<=_
  omega
 ·show _<=-u 3/\-u 3<=_
  omega)
set_option maxRecDepth 100000 in
theorem qD {u h:Nat->Int} (hIu:∀i,i<4->bu (u i)) (vu:au u=true) (hv:aE h 268435456=true):
 eX u=true/\eX (aR u h)=true/\u9 u h=0/\fF u (aR u h)=0/\te (rq h)=0/\
 ∀i,i<4->(-2199023255552<=am u (aR u h) i/\am u (aR u h) i<=2199023255552)/\(-2199023255552<=df (rq h) i/\df (rq h) i<=2199023255552)/\am u (aR u h) i<=df (rq h) i+16/\df (rq h) i<=am u (aR u h) i+16:=by
 have hh:aE h 1073741824=true:=(bp h _).2 fun i hi=>(cR _ _).2 (by have:=(cR _ _).1 ((bp h _).1 hv i hi);omega)
 obtain⟨ku,u1,u2⟩:=bm hIu vu
 obtain⟨t1,t2,tk,tz⟩:=ir hIu vu hh
 obtain⟨_,kt,⟨Nt,Pt,a1,a2,a3,a4,a5⟩,_⟩:=eF tk tz
 obtain⟨vt,_⟩:=ip tk tz
 obtain⟨rk,r1,r2⟩:=u6 hh
 have rz:zQ (rq h)=false:=by
  cases hz:zQ (rq h)with
  |false=>rfl
  | true=>
    unfold zQ at hz
    rw[List.all_eq_true]at hz
    have:=beq_iff_eq.1 (hz 0 (List.mem_range.2 oa))
    exact absurd (show(1073741824:Int)=0 from this) da
 obtain⟨re,rk',⟨Nr,Pr,b1,b2,b3,b4,b5⟩,_⟩:=eF rk rz
 have cje:=nZ ku
 have ck:=x8 ku
 have hp:∀i,i<4->1073741824*aY u (rq h) i=pe u (rq h) i+(1073741824*aY u (rq h) i-pe u (rq h) i)/\-536870912<=1073741824*aY u (rq h) i-pe u (rq h) i/\1073741824*aY u (rq h) i-pe u (rq h) i<=536870912:=fun i hi=>by
  obtain⟨e,h1,h2,h3⟩:=fD ku rk hi
  omega
 have hB:∀i,i<4->1073741824*aY (cw u) (aR u h) i=pe (cj u) (aR u h) i+(1073741824*aY (cw u) (aR u h) i-pe (cj u) (aR u h) i)/\-536870912<=1073741824*aY (cw u) (aR u h) i-pe (cj u) (aR u h) i/\1073741824*aY (cw u) (aR u h) i-pe (cj u) (aR u h) i<=536870912:=fun i hi=>by
  obtain⟨e,h1,h2,h3⟩:=fD ck (g:=aR u h) (by rw[t2];exact kt) hi
  have he:pe (cw u) (aR u h) i=pe (cj u) (aR u h) i:=by
   have e0:=cje 0 oa
   have e1:=cje 1 oa
   have e2:=cje 2 oa
   have e3:=cje 3 oa
   exact Hw e0 e1 e2 e3 i
  rw[he]at h1
  omega
 have ht:∀i,i<4->2* (Nt*aR u h i)=2* (1073741824* (Pt*aY u (rq h) i))+(2* (Nt*aR u h i)-2* (1073741824* (Pt*aY u (rq h) i)))/\-Nt<=2* (Nt*aR u h i)-2* (1073741824* (Pt*aY u (rq h) i))/\2* (Nt*aR u h i)-2* (1073741824* (Pt*aY u (rq h) i))<=Nt:=fun i hi=>by
  obtain⟨d,h1,h2,h3⟩:=a5 i hi
  rw[t2]
  generalize Nt*df (aY u (rq h)) i=X at *
  generalize Pt*aY u (rq h) i=Y at *
  omega
 have hr:∀i,i<4->2* (Nr*df (rq h) i)=2* (1073741824* (Pr*rq h i))+(2* (Nr*df (rq h) i)-2* (1073741824* (Pr*rq h i)))/\-Nr<=2* (Nr*df (rq h) i)-2* (1073741824* (Pr*rq h i))/\2* (Nr*df (rq h) i)-2* (1073741824* (Pr*rq h i))<=Nr:=fun i hi=>by
  obtain⟨d,h1,h2,h3⟩:=b5 i hi
  generalize Nr*df (rq h) i=X at *
  generalize Pr*rq h i=Y at *
  omega
 have hRi:∀i,i<4->-1073741824<=rq h i/\rq h i<=1073741824:=fun i hi=>by
  have b:=fun j hj=>(cR _ _).1 ((bp h 1073741824).1 hh j hj)
  have:i=0\/i=1\/i=2\/i=3:=oa
  rcases this with rfl|rfl|rfl|rfl
  ·show-1073741824<=(1073741824:Int)/\(1073741824:Int)<=1073741824
   omega
  ·exact b 0 oa
  ·exact b 1 oa
  ·exact b 2 oa
 obtain⟨core,B0⟩:(∀i,i<4->aY (cw u) (aR u h) i<=df (rq h) i+16/\df (rq h) i<=aY (cw u) (aR u h) i+16)/\0<=aY (cw u) (aR u h) 0:=by
  rcases Int.lt_or_le (nn u) (1073741824*1073741824)with hc|hc
  ·exact qi u1 hc rfl hRi r1 r2 hp a2 a1 a3 a4 ht b2 b1 b3 b4 hr hB
  ·exact qo hc u2 rfl hRi r1 r2 hp a2 a1 a3 a4 ht b2 b1 b3 b4 hr hB
 have hbx:am u (aR u h)=aY (cw u) (aR u h):=by
  unfold am qF
  have vt':au (aR u h)=true:=by rw[t2];exact vt
  rw[vu,vt']
  show(if aY (cw u) (aR u h) 0<0 then _ else _)=_
  rw[if_neg (Int.not_lt.2 B0)]
 have hbe:fF u (aR u h)=0:=by
  unfold fF
  rw[vu,t2,vt];rfl
 refine⟨ku,by rw[t2];exact kt,t1,hbe,re,fun i hi=>?_⟩
 rw[hbx]
 have c:=core i hi
 have bd:=iB rk' hi
 omega
end Go.Proofs.YtbhahonkhiiilaaGreat
