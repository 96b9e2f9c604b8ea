/-
  Behind the wheels' arrival, tick by tick: the first ticks, the run, the far slew. No program in sight.
-/
import Derived.Test.YtbhahonkhiiilaaGreatCnM
set_option linter.unusedSimpArgs false
set_option linter.unusedVariables false
namespace Go.Proofs.YtbhahonkhiiilaaGreat
section
open Go.RowKit PM Dt
variable{B q A b Q p D R p' L:Nat->Int} {j:Nat} {k k' y y':Int}
theorem Fo.mono {W:Nat->Int} (h:Fo k y D W) (hk:k'<=k) (hy:y<=y'):Fo k' y' D W:=fun i hi=>by have:=h i hi;omega
theorem Fo.two (h:Fo k 0 D (aB L)) (hk:0<=k) (hL:nn L<=1073741836*1073741836):vv (fun i=>2*D i)<=8388608*8388608:=by
 have a:=Bt.vv fun i hi=>h.bt hk i hi
 have e:vv (aB L)<=4194304*4194304:=(fE (gY hL).1).2.2
 rw[oT];omega
theorem tf.step (h:tf j D) (hL:nn L<=1073741836*1073741836):tf (j+1) (cS D (aB L)):=by
 refine⟨fun i hi=>by have:=zd (W:=aB L) h.u i hi;omega,fun i hi=>?_⟩
 have e:vv (aB L)<=4194304*4194304:=(fE (gY hL).1).2.2
 have w:=bY da e hi
 have d:=h.b i hi
 have c:=lO (aB L i-D i)
 show-4194304<=D i+aI (aB L i-D i) (-262144) 262144/\D i+aI (aB L i-D i) (-262144) 262144<=4194304
 omega
theorem IQ (h:7<=j):Ex j<=930680:=by
 have t:∀j:Nat,j<28->7<=j->nC j<=930680:=da
 by_cases hj:j<28
 ·simp only[Ex,dT hj,cond_true];exact t j hj h
 ·simp only[Ex,dF hj,cond_false];decide
theorem Wk.full (w:Wk B q A b Q p D R p') (f:Fl j A b B Q) (bx:tf j D) (h7:7<=j) (hk:0<=k) (fo:Fo k 0 D (aB (am (aU A p) q))):
 Fl (j+1) (dL A b B p R) (b9 A b p) B (bJ Q D)/\∃g,Tc D (am (aU A p) q) (am (aU (dL A b B p R) p') q) g 8388608 930680:=by
 obtain⟨f2,P⟩:=f.step w bx
 have F2:=f.fi.cor w.st.I
 have hL:=(fZ F2.i F2.v w.hK w.hq).2
 exact⟨f2,w.tc f.fi f2.fi (P.mono (IQ h7)) da da (fo.two hk hL) da da⟩
structure Sa (j:Nat) (A b B Q D L:Nat->Int):Prop where
 lt:j<8
 f:Fl j A b B Q
 o:Fo (j+1) 0 D (aB L)
structure Rn (j:Nat) (k:Int) (A b B Q D L:Nat->Int):Prop where
 f:Fl j A b B Q
 o:Fo k 0 D (aB L)
 k2:2<=k
 k16:k<=16
 l:(k=j+1/\8<=j)\/L 0<=88200000+9400000* (k-2)
 c:L 0<=1062500000
 t:j<=106+k
 s:7<=j
 kj:k<=j+1
def fs:Nat->Int
 |0=>0
 |n+1=>fs n+gI (fs n)
structure Fa (j n:Nat) (A b B Q D L:Nat->Int):Prop where
 f:Fl j A b B Q
 o:Fo 17 0 D (aB L)
 l:fs n<=L 0
 c:L 0<=1062500000
 t:j<=123+n
 s:16<=j
structure En (j:Nat) (A b B Q D L:Nat->Int):Prop where
 f:Fl j A b B Q
 o:∃k:Int,(k=17\/k=j+1)/\k<=17/\(17<=k\/j<17)/\Fo k 29200 D (aB L)
 l:1062500000<L 0
 t:j<=410
 s:8<=j
theorem Tc.de {g:Int} {L':Nat->Int} (tc:Tc D L L' 1 8388608 930680) (fo:Fo k 0 D (aB L)):Fo (k+1) 29200 (cS D (aB L')) (aB L'):=
 fo.step (de:=291299) (s9 tc.hL tc.hL' da tc.same) da da da
theorem I2:∀k:Int,2<=k->1073741824* (930680+sE 8388608 930680 95000000)+12*930680<2* (33419998* (8388608*k-128)-256):=fun k hk=>by
 have e:1073741824* (930680+sE 8388608 930680 95000000)+12*930680<1121000000000000:=by decide+kernel
 omega
theorem Rn.step (h:Rn j k A b B Q D (am (aU A p) q)) (w:Wk B q A b Q p D R p') (bx:tf j D):
 Rn (j+1) (k+1) (dL A b B p R) (b9 A b p) B (bJ Q D) (cS D (aB (am (aU (dL A b B p R) p') q))) (am (aU (dL A b B p R) p') q)\/
  Fa (j+1) 0 (dL A b B p R) (b9 A b p) B (bJ Q D) (cS D (aB (am (aU (dL A b B p R) p') q))) (am (aU (dL A b B p R) p') q)\/
  En (j+1) (dL A b B p R) (b9 A b p) B (bJ Q D) (cS D (aB (am (aU (dL A b B p R) p') q))) (am (aU (dL A b B p R) p') q):=by
 have k2:=h.k2;have k16:=h.k16;have hl:=h.l;have ht:=h.t;have h7:=h.s;have hkj:=h.kj
 obtain⟨f2,g,tc⟩:=w.full h.f bx h.s oa h.o
 have e:=tc.keep oa h.o da k16 (I2 k k2)
 subst e
 have m0:=tc.m0
 by_cases c:am (aU (dL A b B p R) p') q 0<=1062500000
 ·have o:=tc.runF h.o h.c c da
  by_cases e:k=16
  ·subst e
   refine .inr (.inl ⟨f2,o,tc.h0',c,oa,oa⟩)
  ·refine .inl ⟨f2,o,oa,oa,?_,c,oa,oa,oa⟩
   rcases hl with⟨a,a2⟩|a
   ·exact .inl ⟨oa,oa⟩
   ·exact .inr oa
 ·refine .inr (.inr ⟨f2,⟨k+1,?_,oa,?_,tc.de (g:=1) h.o⟩,oa,oa,oa⟩)
  ·rcases hl with⟨a,a2⟩|a
   ·exact .inr oa
   ·omega
  ·rcases hl with⟨a,a2⟩|a
   ·omega
   ·omega
theorem wk (f:Int):970000<=gI f:=by unfold gI;(repeat' split)<;>decide
theorem Bp:∀n:Nat,0<=fs n
 |0=>da
 |n+1=>by have:=Bp n;have:=wk (fs n);show 0<=fs n+gI (fs n);omega
theorem tI:∀n m:Nat,fs n<=fs (n+m)
 |n,0=>by exact iR _
 |n,m+1=>by have:=tI n m;have:=wk (fs (n+m));show fs n<=fs (n+m)+gI (fs (n+m));omega
theorem DB:1062500000<fs 283:=by decide+kernel
theorem Fa.step {n:Nat} (h:Fa j n A b B Q D (am (aU A p) q)) (w:Wk B q A b Q p D R p') (bx:tf j D):
 Fa (j+1) (n+1) (dL A b B p R) (b9 A b p) B (bJ Q D) (cS D (aB (am (aU (dL A b B p R) p') q))) (am (aU (dL A b B p R) p') q)\/
  En (j+1) (dL A b B p R) (b9 A b p) B (bJ Q D) (cS D (aB (am (aU (dL A b B p R) p') q))) (am (aU (dL A b B p R) p') q):=by
 have hs:=h.s;have ht:=h.t;have hf:=h.l;have hc:=h.c
 have n283:n<283:=by
  apply bC;intro hn
  have:=tI 283 (n-283)
  rw[show 283+(n-283)=n by omega]at this
  have:=DB
  omega
 obtain⟨f2,g,tc⟩:=w.full h.f bx oa da h.o
 have gn:=CI tc.mv tc.hl tc.hL tc.h0 h.c (fun i hi=>(h.o.bt da i hi).mono da) h.l
 have gp:=wk (fs n)
 have fp:=Bp n
 have e:=tx tc.hg tc.h0' oa
 subst e
 rw[Int.one_mul]at gn
 by_cases c:am (aU (dL A b B p R) p') q 0<=1062500000
 ·exact .inl ⟨f2,(tc.runF h.o h.c c da).mono da da,gn,c,oa,oa⟩
 ·exact .inr ⟨f2,⟨17,.inl rfl,da,.inl da,(tc.de (g:=1) h.o).mono da da⟩,oa,oa,oa⟩
theorem JN (hj:j<8) (bx:tf j D):vv (fun i=>2*D i)<=mF j*mF j:=by
 obtain⟨n0,n1,n2,_⟩:=x_ j oa
 have v:=Iy bx.sl
 rw[oT];omega
theorem Ia:∀j:Nat,j<8->mF j+nC j<=12600000/\(j<3->qA (mF j+nC j+2040)<=27000):=by decide+kernel
structure Sb (j:Nat) (A b B Q D L:Nat->Int):Prop where
 lt:j=8
 f:Fl j A b B Q
 o:Fo 9 0 D (aB L)
theorem Sa.step (h : Sa j A b B Q D (am (aU A p) q)) (w:Wk B q A b Q p D R p') (bx:tf j D):
 Sa (j+1) (dL A b B p R) (b9 A b p) B (bJ Q D) (cS D (aB (am (aU (dL A b B p R) p') q))) (am (aU (dL A b B p R) p') q)\/
  Sb (j+1) (dL A b B p R) (b9 A b p) B (bJ Q D) (cS D (aB (am (aU (dL A b B p R) p') q))) (am (aU (dL A b B p R) p') q)\/
  ∃t,Ch (j+1) t (dL A b B p R) (b9 A b p) B (bJ Q D) (cS D (aB (am (aU (dL A b B p R) p') q))) (am (aU (dL A b B p R) p') q):=by
 have hj:=h.lt
 have e:Ex j=nC j:=by simp only[Ex,decide_eq_true (show j<28 by omega),cond_true]
 obtain⟨f2,P⟩:=h.f.step w bx
 rw[e]at P
 have tp:=xl j (by omega)
 obtain⟨n0,n1,n2,_⟩:=x_ j (by omega)
 obtain⟨n3,n4⟩:=Ia j hj
 obtain⟨g,tc⟩:=w.tc h.f.fi f2.fi P tp.1 n0 (JN hj bx) n3 tp.2
 rcases F5 hj tc h.o bx.u with⟨_,o,_⟩|⟨hg,h3,a⟩
 ·by_cases e:j=7
  ·subst e
   exact .inr (.inl ⟨rfl,f2,o⟩)
  ·exact .inl ⟨by omega, f2, by have x:((j+1:Nat):Int)+1=j+2:=by omega
                                rw[x];exact o⟩
 ·refine .inr (.inr ⟨1-(j+1),?_,by omega,by omega,by omega,by omega,?_,.inl (by omega)⟩)
  ·have b1:=(GT j hj).2.1
   have d:=n4 h3
   have fe:=(kK (j+1) (1-((j:Int)+1))).1 (by omega)
   rcases a.step (fr':=lY (j+1) (1-(j+1))) (by omega) (by omega) tc b1 (by omega) (by omega) (fun x=>by omega) (by decide) (fun x=>by omega)with⟨x,_⟩|⟨_,_,x⟩
   ·omega
   ·exact x
  ·rcases f2 with⟨x,y⟩|⟨x,y⟩
   ·exact .inl ⟨x,y⟩
   ·omega
theorem Sb.next (h:Sb j A b B Q D L):Rn j 9 A b B Q D L\/En j A b B Q D L:=by
 have hj:=h.lt
 by_cases c:L 0<=1062500000
 ·exact .inl ⟨h.f,h.o,da,da,.inl ⟨oa,oa⟩,c,oa,oa,oa⟩
 ·exact .inr ⟨h.f,⟨9,.inr oa,da,.inr oa,h.o.mono da da⟩,oa,oa,oa⟩
end
section
open Go.RowKit PM Dt
variable{B q A b Q p D R p' L:Nat->Int} {j:Nat} {s t z:Nb} {x V:Int}
theorem s_ (F:FI A b) (hJ:∀i,i<4->bu (Q i)) (hQ:au Q=true) (st:qr p Q) (hx0:0<=x) (hx:x<=4200000) (hn:Nr A Q x) (h0:0<=eD A Q 0):Nr (aU A p) Q (tR x)/\0<=eD (aU A p) Q 0:=by
 have E0:=sB F.i F.v hJ hQ hx0 hx hn h0
 have so:=jg F.i F.v hJ hQ st.I st.v oa (z:=101) da da st.z
 have hbe:fF A p=0:=by unfold fF;rw[F.v,st.v];rfl
 have eq:aU A p=cC A (aS (bO (am A p)) 4):=by unfold aU;rw[if_pos hbe];rfl
 have t:=cE (z:=fun i=>1073741824*am A p (i+1)) da oa so hn fun i hi=>by
  show 1073741824*am A p (i+1)=(1073741824*am A p (i+1)-eD A Q (i+1))+eD A Q (i+1);omega
 have t2:vv (fun i=>am A p (i+1))<=(x+125)* (x+125):=cF (v:=fun i=>am A p (i+1)) (N:=1073741824) da oa t oa
 have cb:=fun i (hi:i<3)=>bY oa t2 hi
 have pb:∀i,i<3->-2<=4*aS (bO (am A p)) 4 i-am A p (i+1)/\4*aS (bO (am A p)) 4 i-am A p (i+1)<=2:=fun i hi=>by
  have b1:=cb i hi
  have:=ia (a:=am A p (i+1)) (d:=4) da da ⟨oa,oa⟩
  show-2<=4*bG (am A p (i+1)) 1 4-am A p (i+1)/\4*bG (am A p (i+1)) 1 4-am A p (i+1)<=2
  omega
 have e4:vv (fun i=>1073741824* (4*aS (bO (am A p)) 4 i-am A p (i+1)))<=(1073741824*4)* (1073741824*4):=by
  rw[ef 1073741824 fun i=>4*aS (bO (am A p)) 4 i-am A p (i+1)]
  have:=dI (B:=2) da pb
  omega
 obtain⟨c,hc⟩:∃c,c=aS (bO (am A p)) 4:=⟨_,rfl⟩
 rw[<-hc]at pb e4 eq
 have t3:=cE (z:=fun i=>4294967296*c i-eD A Q (i+1)) da da e4 so fun i hi=>by
  show 4294967296*c i-eD A Q (i+1)=1073741824* (4*c i-am A p (i+1))+(1073741824*am A p (i+1)-eD A Q (i+1));omega
 have cs:∀i,i<3->-1060000<=c i/\c i<=1060000:=fun i hi=>by
  have a:=pb i hi
  have d:=cb i hi
  omega
 have cq:=dI da cs
 rw[eq]
 exact sF F.i F.v hJ hQ (cP fun i hi=>by have:=cs i hi;omega) (by have:=eS c;unfold vv at cq;omega) (x:=x) (z:=129) (y:=tR x) da da t3 hx0 oa E0.2 hn (by unfold tR;omega)
theorem BS {x y:Nat->Int} {X:Int} (h:nn (fun i=>x i-y i)<=X*X):vv (fun i=>x (i+1)-y (i+1))<=X*X:=by
 have e:=jC fun i=>x i-y i
 have a:=av (x 0-y 0)
 have e2:vv (qw fun i=>x i-y i)=vv (fun i=>x (i+1)-y (i+1)):=rfl
 omega
theorem Ll {g:Int} {Lt La:Nat->Int} (hV0:0<=V) (hx0:0<=x) (hg:g=1\/g=-1) (h:nn (fun i=>g*La i-Lt i)<=x*x):
 (vv (qw Lt)<=V*V->vv (qw La)<=(V+x)* (V+x))/\(vv (qw La)<=V*V->vv (qw Lt)<=(V+x)* (V+x)):=by
 have o:=BS (x:=fun i=>g*La i) (y:=Lt) h
 have ss:=lh hg
 have e:vv (qw fun i=>g*La i)=vv (qw La):=by
  have x:vv (qw fun i=>g*La i)=g*g*vv (qw La):=by unfold vv qw;grind
  rw[x,ss];omega
 constructor
 ·intro hv
  have t:=cE (z:=qw fun i=>g*La i) hV0 hx0 hv o fun i hi=>by show g*La (i+1)=Lt (i+1)+(g*La (i+1)-Lt (i+1));omega
  rw[<-e];exact t
 ·intro hv
  rw[<-e]at hv
  have o2:vv (fun i=>-(g*La (i+1)-Lt (i+1)))<=x*x:=by rw[jS fun i=>g*La (i+1)-Lt (i+1)];exact o
  exact cE (z:=qw Lt) hV0 hx0 hv o2 fun i hi=>by show Lt (i+1)=g*La (i+1)+-(g*La (i+1)-Lt (i+1));omega
def Nb.xr (s:Nb) (j:Nat):Int:=bif decide (j<28)then tJ (tS j) (17321*oC j/10000+1)else 17321*s.x.o/10000+1
structure Nc (j:Nat) (s:Nb) (A b B q Q D L:Nat->Int):Prop where
 V:vv (qw (am Q q))<=s.V*s.V
 V0:0<=s.V
 y0:0<=s.y
 k:s.k=jF (j+1) 17
 o:Fo s.k s.y D (aB L)
 f:(j<28/\s.x=ny/\PG j A b B Q)\/(28<=j/\jK s.x A b B Q)
 j8:8<=j
theorem Nc.fi (h:Nc j s A b B q Q D L):FI A b:=by
 rcases h.f with⟨_,_,h⟩|⟨_,h⟩
 ·exact h.fi
 ·exact h.F
theorem Cg:∀j:Nat,j<28->8<=j->0<=tS j/\0<=tJ (tS j) (17321*oC j/10000+1)/\tJ (tS j) (17321*oC j/10000+1)<=2700000:=da
theorem PG.nr (h:PG j A b B Q) (hj:j<28) (h8:8<=j):Nr A Q (tJ (tS j) (17321*oC j/10000+1))/\0<=eD A Q 0:=by
 have m:=iM (tS j) (17321*oC j/10000+1)
 have xn:=Cg j hj h8
 rcases h with h|⟨x,M,g⟩
 ·exact⟨h.n.mono xn.1 m.1,h.s⟩
 ·have o:=Cj oa g
  have o0:=M.o0
  exact⟨(M.nr o0).mono oa oa,M.s⟩
theorem Nc.est (h:Nc j s A b B q Q D L) (hJ:∀i,i<4->bu (Q i)) (hQ:au Q=true) (st:qr p Q) (ho:28<=j->s.x.fit=true):
 0<=s.xr j/\s.xr j<=4200000/\Nr (aU A p) Q (tR (s.xr j))/\0<=eD (aU A p) Q 0:=by
 rcases h.f with⟨hj,_,f⟩|⟨hj,f⟩
 ·have e:s.xr j=tJ (tS j) (17321*oC j/10000+1):=by simp only[Nb.xr,dT hj,cond_true]
  have xn:=Cg j hj h.j8
  have n:=f.nr hj h.j8
  rw[e]
  exact⟨xn.2.1,oa,s_ f.fi hJ hQ st xn.2.1 oa n.1 n.2⟩
 ·have e:s.xr j=17321*s.x.o/10000+1:=by simp only[Nb.xr,dF (show¬j<28 by omega),cond_false]
  have fo:=Bn.fit_iff.1 (ho hj)
  rw[e]
  exact⟨oa,oa,s_ f.F hJ hQ st oa oa (f.nr fo.1) f.s⟩
theorem I7 (s:Nb) (j:Nat):s.ok j=true↔(s.V<=185000000/\s.y<=2000000)/\(s.ep j<=2000000/\s.d j<=5500000)/\s.pi j<=1600000/\(j<28\/EK s.x (2*s.d j)=true):=by
 simp only[Nb.ok,Bool.and_eq_true,Bool.or_eq_true,decide_eq_true_eq]
theorem JI {k y d ep:Int} (hk:0<=k) (hy:0<=y) (hV:0<=V) (he:0<=ep):0<=Jj k y V d ep:=by
 have m:=iJ (262144*k) 4194304
 have m2:=iJ (jF (262144*k) 4194304) (V/32+2)
 have a:0<=Jp k y V ep:=by unfold Jp qu yF;omega
 have b:=ea (av (2*d*V/1073741824+1)) (show 0<=2*Jp k y V ep by omega)
 unfold Jj;omega
theorem Nc.step (h:Nc j s A b B q Q D (am (aU A p) q)) (ok:s.ok j=true) (w:Wk B q A b Q p D R p') (bx:tf j D):
 Nc (j+1) (s.step j) (dL A b B p R) (b9 A b p) B q (bJ Q D) (cS D (aB (am (aU (dL A b B p R) p') q))) (am (aU (dL A b B p R) p') q):=by
 obtain⟨⟨k1,k2⟩,⟨k3,k4⟩,k5,k6⟩:=(I7 s j).1 ok
 have V0:=h.V0;have y0:=h.y0;have hk:=h.k
 have F:=h.fi
 have F2:=F.cor w.st.I
 obtain⟨x0,x1,nr,e0⟩:=h.est w.hJ w.hQ w.st fun h28=>by
  rcases k6 with a|a
  ·omega
  ·exact(mm.1 a).1
 have th:s.th j=Aw (tR (s.xr j)):=rfl
 have c0:0<=tR (s.xr j)/\tR (s.xr j)<=3300000:=by unfold tR;omega
 have th0:0<=s.th j/\s.th j<=3400000:=by rw[th];unfold Aw;omega
 obtain⟨g,hg,hth⟩:=Gz F2.i F2.v w.hJ w.hQ w.hK w.hq c0.1 oa nr e0
 rw[<-th]at hth
 obtain⟨hl,hL⟩:=fZ w.hJ w.hQ w.hK w.hq
 have t0:=(dJ w.hJ w.hQ w.hK w.hq).1
 have l0:=za hl t0 V0 oa h.V
 obtain⟨hl2,hL2⟩:=fZ F2.i F2.v w.hK w.hq
 have a0:=(dJ F2.i F2.v w.hK w.hq).1
 have z0:=cK th0.1 hth (show 0<4 by omega)
 have g1:g=1:=by rcases hg with e|e<;>rw[e]at z0<;>omega
 subst g1
 have hth2:nn (fun i=>am (aU A p) q i-am Q q i)<=s.th j*s.th j:=by
  have e:(fun i=>(1:Int)*am (aU A p) q i-am Q q i)=fun i=>am (aU A p) q i-am Q q i:=by funext i;omega
  rw[<-e];exact hth
 have hVe:=(Ll V0 th0.1 hg hth).1 h.V
 have ep0:s.ep j=(s.th j+64)/32+6:=rfl
 have he:vv (fun i=>aB (am (aU A p) q) i-aB (am Q q) i)<=s.ep j*s.ep j:=by
  have a:=o7 (gY hL2).1 (gY hL).1 da oa (pJ th0.1 (BS hth2))
  have e:(s.th j+64)/32+1+5=s.ep j:=oa
  rw[e]at a;exact a
 have pl:=IH hL2 (show 0<=s.V+s.th j by omega) hVe
 have m1:=iJ (17321* (262144*s.k)/10000+1) (jF 4194304 ((s.V+s.th j)/32+2)+yF s.y)
 have m2:=iJ 4194304 ((s.V+s.th j)/32+2)
 have m3:=iJ ((j:Int)+1) 17
 have hd:s.d j=jF (17321* (262144*s.k)/10000+1) (jF 4194304 ((s.V+s.th j)/32+2)+yF s.y):=rfl
 have yn:0<=yF s.y:=by unfold yF;omega
 have vD:vv D<=s.d j*s.d j:=by
  rw[hd]
  rcases m1.2.2 with e|e
  ·rw[e]
   exact xA (c:=262144*s.k) oa fun i hi=>by
    have a:=bx.u i hi
    have c:=bx.b i hi
    rw[hk]
    rcases m3.2.2 with e|e<;>rw[e]<;>omega
  ·rw[e]
   refine h.o.len oa y0 oa ?_
   rcases m2.2.2 with e|e
   ·rw[e];exact pl.1
   ·rw[e];exact pl.2
 have d0:0<=s.d j:=oa
 have nt:=AJ w.hJ w.hQ w.hK w.hq w.hJ' w.hQ' V0 oa h.V h.o oa y0 k2 oa k3 he d0 oa vD
 have fl:((j+1<28/\(s.step j).x=ny/\PG (j+1) (dL A b B p R) (b9 A b p) B (bJ Q D))\/(28<=j+1/\jK (s.step j).x (dL A b B p R) (b9 A b p) B (bJ Q D)))/\0<=s.pi j/\mU (s.pi j) A b B Q D R p (dL A b B p R) (bJ Q D):=by
  rcases h.f with⟨hj,hx,f⟩|⟨hj,f⟩
  ·obtain⟨g,P⟩:=f.tick hj w bx
   have e1:s.pi j=nC j:=by simp only[Nb.pi,dT hj,cond_true]
   have e2:(s.step j).x=s.x:=by simp only[Nb.step,dT hj,cond_true]
   rw[e1,e2]
   refine⟨?_,(xl j hj).1,P⟩
   rcases Fl.of hj g with⟨a,f2⟩|⟨a,f2⟩
   ·exact .inl ⟨a,hx,f2⟩
   ·exact .inr ⟨a,by rw[hx];exact f2⟩
  ·have e1:s.pi j=r5 s.x (2*s.d j):=by simp only[Nb.pi,dF (show¬j<28 by omega),cond_false]
   have e2:(s.step j).x=s.x.step (2*s.d j):=by simp only[Nb.step,dF (show¬j<28 by omega),cond_false]
   rw[e1,e2]
   obtain⟨f1,f2,f3⟩:=mm.1 (k6.resolve_left oa)
   have v2:4*vv D<=2*s.d j* (2*s.d j):=by
    have e:2*s.d j* (2*s.d j)=4* (s.d j*s.d j):=by grind
    omega
   obtain⟨M,P⟩:=f.tick (L:=2*s.d j) w.hJ w.hQ w.hB f1 f2 f3 w.st oa oa v2 (w.lg _ oa oa v2) w.hR w.hJ' w.hQ'
   have o0:=M.o0
   have p0:0<=(s.x.step (2*s.d j)).P0:=by have:=(M.h 0 oa).a;omega
   exact⟨.inr ⟨oa,M⟩,Dh o0 p0 oa,P⟩
 obtain⟨f2,pi0,P⟩:=fl
 have F':FI (dL A b B p R) (b9 A b p):=by
  rcases f2 with⟨_,_,h⟩|⟨_,h⟩
  ·exact h.fi
  ·exact h.F
 have ln:vv (fun i=>2*D i)<=2*s.d j* (2*s.d j):=by
  have e:2*s.d j* (2*s.d j)=4* (s.d j*s.d j):=by grind
  rw[oT];omega
 obtain⟨g,tc⟩:=w.tc F F' P pi0 oa ln oa oa
 have m0:=tc.m0
 have g1:g=1:=by
  have h0':=tc.h0'
  rcases tc.hg with e|e<;>rw[e]at m0<;>omega
 subst g1
 have fo:=h.o.step (de:=(2*s.d j+s.pi j+2040+64)/32+6) (y':=(s.step j).y) (s9 tc.hL tc.hL' oa tc.same) y0 (iM _ _).1 (by
  have:=(iM 0 (s.y+((2*s.d j+s.pi j+2104)/32+6)-262144)).2
  have e:(s.step j).y=tJ 0 (s.y+((2*s.d j+s.pi j+2104)/32+6)-262144):=rfl
  rw[e];omega)
 have ek:(s.step j).k=jF (s.k+1) 17:=rfl
 have m4:=iJ (s.k+1) 17
 refine⟨nt,JI oa y0 V0 oa,(iM _ _).1,?_,fo.mono (by rw[ek];omega) (iR _),f2,by have:=h.j8;omega⟩
 rw[ek,hk]
 unfold jF
 (repeat' split)<;>omega
end
end Go.Proofs.YtbhahonkhiiilaaGreat
