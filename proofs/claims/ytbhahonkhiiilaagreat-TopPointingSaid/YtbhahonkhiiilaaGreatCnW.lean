/-
  Behind the wheels' arrival, tick by tick: all phases together, up to the end. No program in sight.
-/
import Derived.Test.YtbhahonkhiiilaaGreatCnU
import Derived.Test.YtbhahonkhiiilaaGreatLbF
set_option linter.unusedSimpArgs false
set_option linter.unusedVariables false
set_option linter.unnecessarySimpa false
set_option maxHeartbeats 8000000
namespace Go.Proofs.YtbhahonkhiiilaaGreat
section
open Go.RowKit PM Dt
variable{B q A b Q p D R p' L:Nat->Int} {j:Nat} {s t z:Nb} {x V:Int}
theorem jM (s t:Nb):s.le t=true↔(t.k<=s.k/\s.V<=t.V)/\s.y<=t.y/\s.x.le t.x=true:=by simp only[Nb.le,Bool.and_eq_true,decide_eq_true_eq]
theorem Nc.mono (h:Nc j s A b B q Q D L) (le:s.le t=true) (hk:t.k=jF (j+1) 17) (hx:j<28->t.x=ny):Nc j t A b B q Q D L:=by
 obtain⟨⟨l1,l2⟩,l3,l4⟩:=(jM s t).1 le
 have V0:=h.V0;have y0:=h.y0
 refine⟨iT h.V (bW V0 l2),oa,oa,hk,h.o.mono l1 l3,?_,h.j8⟩
 rcases h.f with⟨a,e,f⟩|⟨a,f⟩
 ·exact .inl ⟨a,hx a,f⟩
 ·exact .inr ⟨a,f.mono l4⟩
theorem qN (s:Nb) (hj:28<=j):s.ok j=s.ok 28/\s.step j=s.step 28:=by
 have e:decide (j<28)=decide (28<28):=by rw[dF (show¬j<28 by omega)];rfl
 have t:s.th j=s.th 28:=by unfold Nb.th;rw[e];rfl
 have d:s.d j=s.d 28:=by unfold Nb.d;rw[t]
 have ep:s.ep j=s.ep 28:=by unfold Nb.ep;rw[t]
 have pi:s.pi j=s.pi 28:=by unfold Nb.pi;rw[e,d];rfl
 constructor
 ·unfold Nb.ok;rw[ep,d,pi,e]
 ·unfold Nb.step;rw[ep,d,pi,e]
theorem qf:∀(f j:Nat) (s:Nb),28<=j->Nb.run z f j s=Nb.run z f 28 s
 |0,_,_,_=>rfl
 | f+1,j,s,h=>by
   obtain⟨e1,e2⟩:=qN s h
   show(s.ok j&&Nb.run z f (j+1) (s.step j))=(s.ok 28&&Nb.run z f 29 (s.step 28))
   rw[e1,e2,qf f (j+1) _ oa,qf f 29 _ oa]
def Ns (j:Nat) (A b B q Q D L:Nat->Int):Prop:=∃z f s,Nc j s A b B q Q D L/\Nb.run z f j s=true/\((∃i,i<3/\z=GF i/\j+f=28)\/(z=k8/\28<=j/\(f=0\/j+f<=650)))
theorem KM (h:28<=j):jF (j+1) 17=17:=by unfold jF;split<;>omega
theorem Ga {L:Nat->Int} (hL:nn L<=1073741836*1073741836) (h:1062500000<L 0):vv (qw L)<=155000000*155000000:=by
 have e:=jC L
 have:=bW (show(0:Int)<=1062500000 by decide) (show 1062500000<=L 0 by omega)
 omega
theorem En.start (h:En j A b B Q D (am (aU A p) q)) (hJ:∀i,i<4->bu (Q i)) (hQ:au Q=true) (hK:∀i,i<4->bu (q i)) (hq:au q=true) (st:qr p Q):Ns j A b B q Q D (am (aU A p) q):=by
 have h8:=h.s;have ht:=h.t
 have F:=h.f.fi
 have F2:=F.cor st.I
 have hL:=(fZ F2.i F2.v hK hq).2
 have v1:=Ga hL h.l
 obtain⟨k,hk,k17,kj,o⟩:=h.o
 have m:=iJ ((j:Int)+1) 17
 have o2:=o.mono (show jF ((j:Int)+1) 17<=k by omega) (iR _)
 have tr:∀x,0<=x->x<=4200000->Nr A Q x->0<=eD A Q 0->vv (qw (am Q q))<=(155000000+Aw (tR x))* (155000000+Aw (tR x))/\0<=Aw (tR x):=fun x x0 x1 nr e0=>by
  obtain⟨n,e⟩:=s_ F hJ hQ st x0 x1 nr e0
  have c0:0<=tR x/\tR x<=3300000:=by unfold tR;omega
  have t0:0<=Aw (tR x):=by unfold Aw;omega
  obtain⟨g,hg,hth⟩:=Gz F2.i F2.v hJ hQ hK hq c0.1 oa n e
  exact⟨(Ll da t0 hg hth).2 v1,t0⟩
 rcases h.f with⟨hj,f⟩|⟨hj,f⟩
 ·have xn:=Cg j hj h8
  have n:=f.nr hj h8
  obtain⟨a,a0⟩:=tr _ xn.2.1 oa n.1 n.2
  exact⟨GF (if j<25 then 0 else 1),28-j,Ls j,⟨a,by show 0<=155000000+Aw (tR (tJ (tS j) (17321*oC j/10000+1)));omega,by show(0:Int)<=29200;decide,rfl,o2,.inl ⟨hj,rfl,f⟩,h8⟩,xI j hj h8,.inl ⟨_,by split<;>decide,rfl,oa⟩⟩
 ·obtain⟨a,a0⟩:=tr (17321*984968/10000+1) da da (f.nr da) f.s
  have c:Nc j (GF 2) A b B q Q D (am (aU A p) q):=⟨iT a (bW (by decide+kernel) (by decide+kernel)),da,da,(KM hj).symm,by rw[KM hj]at o2;exact o2,.inr ⟨hj,f⟩,h8⟩
  exact⟨k8,200,GF 2,c,by rw[qf _ _ _ hj];exact rD 2 da,.inr ⟨rfl,hj,.inr oa⟩⟩
theorem Ns.step (h:Ns j A b B q Q D (am (aU A p) q)) (w:Wk B q A b Q p D R p') (bx:tf j D):
 Ns (j+1) (dL A b B p R) (b9 A b p) B q (bJ Q D) (cS D (aB (am (aU (dL A b B p R) p') q))) (am (aU (dL A b B p R) p') q):=by
 obtain⟨z,f,s,c,r,e⟩:=h
 have go:∀(z:Nb) (f:Nat) (s:Nb),Nc j s A b B q Q D (am (aU A p) q)->Nb.run z (f+1) j s=true->((∃i,i<3/\z=GF i/\j+(f+1)=28)\/(z=k8/\28<=j/\j+(f+1)<=650))->
  Ns (j+1) (dL A b B p R) (b9 A b p) B q (bJ Q D) (cS D (aB (am (aU (dL A b B p R) p') q))) (am (aU (dL A b B p R) p') q):=fun z f s c r e=>by
  have r:(s.ok j&&Nb.run z f (j+1) (s.step j))=true:=r
  rw[Bool.and_eq_true]at r
  refine⟨z,f,s.step j,c.step r.1 w bx,r.2,?_⟩
  rcases e with e|⟨a,b,c⟩
  ·obtain⟨i,i3,a,b⟩:=e
   exact .inl ⟨i,i3,a,oa⟩
  ·exact .inr ⟨a,oa,.inr oa⟩
 cases f with
 | zero=>
   have r:s.le z=true:=r
   rcases e with⟨i,i3,a,b⟩|⟨a,b,_⟩
   ·subst a
    have hj:j=28:=oa
    subst hj
    exact go k8 199 (GF i) (c.mono r rfl fun x=>rfl) (rD i i3) (.inr ⟨rfl,da,da⟩)
   ·subst a
    have c2:=c.mono r (KM b).symm fun x=>oa
    obtain⟨e1,e2⟩:=qN k8 b
    have c3:=c2.step (by rw[e1];exact qp.2.1) w bx
    rw[e2]at c3
    exact⟨k8,0,k8,c3.mono qp.1 (KM oa).symm fun x=>by omega,qp.2.2,.inr ⟨rfl,oa,.inl rfl⟩⟩
 | succ f=>
   refine go z f s c r ?_
   rcases e with a|⟨a,b,e|e⟩
   ·exact .inl a
   ·exact absurd e oa
   ·exact .inr ⟨a,b,e⟩
theorem Ns.end (h:Ns j A b B q Q D L) (hj:650<j):vv (qw (am Q q))<=6000*6000:=by
 obtain⟨z,f,s,c,r,e⟩:=h
 rcases e with⟨i,i3,a,b⟩|⟨a,b,e⟩
 ·omega
 ·have f0:f=0:=oa
  subst f0;subst a
  have r:s.le k8=true:=r
  exact iT c.V (bW c.V0 ((jM s k8).1 r).1.2)
structure Ph (j:Nat) (A b B q Q p D:Nat->Int):Prop where
 bx:tf j D
 ph:Sa j A b B Q D (am (aU A p) q)\/(∃t,Ch j t A b B Q D (am (aU A p) q))\/(∃k,Rn j k A b B Q D (am (aU A p) q))\/(∃n,Fa j n A b B Q D (am (aU A p) q))\/Ns j A b B q Q D (am (aU A p) q)
theorem Ph.fi (h:Ph j A b B q Q p D):FI A b:=by
 rcases h.ph with h|⟨t,h⟩|⟨k,h⟩|⟨n,h⟩|⟨z,f,s,h,_⟩
 ·exact h.f.fi
 ·exact h.fi
 ·exact h.f.fi
 ·exact h.f.fi
 ·exact h.fi
theorem Ph.first (f:PG 0 A b B Q) (hK:∀i,i<4->bu (q i)) (hq:au q=true) (st:qr p Q):Ph 0 A b B q Q p (cS (fun _=>0) (aB (am (aU A p) q))):=by
 have F2:=f.fi.cor st.I
 have hL:=(fZ F2.i F2.v hK hq).2
 have e:vv (aB (am (aU A p) q))<=4194304*4194304:=(fE (gY hL).1).2.2
 have s:∀i,i<3->-262144<=cS (fun _=>0) (aB (am (aU A p) q)) i/\cS (fun _=>0) (aB (am (aU A p) q)) i<=262144/\
  (cS (fun _=>0) (aB (am (aU A p) q)) i=aB (am (aU A p) q) i\/(262144<=cS (fun _=>0) (aB (am (aU A p) q)) i/\cS (fun _=>0) (aB (am (aU A p) q)) i<=aB (am (aU A p) q) i)\/(cS (fun _=>0) (aB (am (aU A p) q)) i<=-262144/\aB (am (aU A p) q) i<=cS (fun _=>0) (aB (am (aU A p) q)) i)):=fun i hi=>by
  have x:cS (fun _=>0) (aB (am (aU A p) q)) i=0+aI (aB (am (aU A p) q) i-0) (-262144) 262144:=rfl
  have c:=lO (aB (am (aU A p) q) i-0)
  omega
 refine⟨⟨fun i hi=>by have:=s i hi;omega,fun i hi=>by have:=s i hi;omega⟩,.inl ⟨da,.inl ⟨da,f⟩,fun i hi=>by have:=s i hi;omega⟩⟩
theorem Ph.step (h:Ph j A b B q Q p D) (w:Wk B q A b Q p D R p'):Ph (j+1) (dL A b B p R) (b9 A b p) B q (bJ Q D) p' (cS D (aB (am (aU (dL A b B p R) p') q))):=by
 have bx:=h.bx
 have mk:∀F':FI (dL A b B p R) (b9 A b p),tf (j+1) (cS D (aB (am (aU (dL A b B p R) p') q))):=fun F'=>by
  have F3:=F'.cor w.st'.I
  exact bx.step (fZ F3.i F3.v w.hK w.hq).2
 have en:En (j+1) (dL A b B p R) (b9 A b p) B (bJ Q D) (cS D (aB (am (aU (dL A b B p R) p') q))) (am (aU (dL A b B p R) p') q)->Ph (j+1) (dL A b B p R) (b9 A b p) B q (bJ Q D) p' (cS D (aB (am (aU (dL A b B p R) p') q))):=fun e=>
  ⟨mk e.f.fi,.inr (.inr (.inr (.inr (e.start w.hJ' w.hQ' w.hK w.hq w.st'))))⟩
 rcases h.ph with h|⟨t,h⟩|⟨k,h⟩|⟨n,h⟩|h
 ·rcases h.step w bx with a|a|⟨t,a⟩
  ·exact⟨mk a.f.fi,.inl a⟩
  ·rcases a.next with e|e
   ·exact⟨mk e.f.fi,.inr (.inr (.inl ⟨_,e⟩))⟩
   ·exact en e
  ·exact⟨mk a.fi,.inr (.inl ⟨t,a⟩)⟩
 ·rcases h.step w bx with⟨t,a⟩|⟨f,o,l,h107,h6⟩
  ·exact⟨mk a.fi,.inr (.inl ⟨t,a⟩)⟩
  ·exact⟨mk f.fi,.inr (.inr (.inl ⟨2,f,o,da,da,.inr oa,oa,oa,oa,oa⟩))⟩
 ·rcases h.step w bx with e|e|e
  ·exact⟨mk e.f.fi,.inr (.inr (.inl ⟨_,e⟩))⟩
  ·exact⟨mk e.f.fi,.inr (.inr (.inr (.inl ⟨_,e⟩)))⟩
  ·exact en e
 ·rcases h.step w bx with e|e
  ·exact⟨mk e.f.fi,.inr (.inr (.inr (.inl ⟨_,e⟩)))⟩
  ·exact en e
 ·have e:=h.step w bx
  obtain⟨z,f,s,c,_⟩:=e
  exact⟨mk c.fi,.inr (.inr (.inr (.inr (h.step w bx))))⟩
theorem Ph.end (h:Ph j A b B q Q p D) (hj:650<j):vv (qw (am Q q))<=6000*6000:=by
 rcases h.ph with h|⟨t,h⟩|⟨k,h⟩|⟨n,h⟩|h
 ·have:=h.lt;omega
 ·have:=h.s;have:=h.t1;omega
 ·have:=h.t;have:=h.k16;omega
 ·have:=h.t
  have hc:=h.c;have hl:=h.l
  have n283:n<283:=by
   apply bC;intro hn
   have:=tI 283 (n-283)
   rw[show 283+(n-283)=n by omega]at this
   have:=DB
   omega
  omega
 ·exact h.end hj
end
section
open Go.RowKit PM Dt
variable{X:cG} {S:dw} {A b Ah bh B q p p' M0 s0 Ax:Nat->Int} {m0:Int} {k j n:Nat}
def eW:Nat->Int:=fun _=>0
def GD (X:cG) (A:Nat->Int):n_:=⟨aJ 4 (aX X),X.h,X.f,fun _=>0,A⟩
def Lp (X:cG) (B:Nat->Int):Nat->Int:=fun i=>4*aX X i+B i
theorem Gq (r:BI X) (hn:gj X.h X.f=true):ce (aF X eW)=true:=by
 have m:=gB r
 obtain⟨_,_,hb⟩:=js r.q r.v (V:=0) da da (KW (v:=eW) fun i hi=>rfl)
 have a:aE (aJ 4 (aX X)) 268435456=true:=cP fun i hi=>by have:=m i hi;show-268435456<=4*aX X i/\4*aX X i<=268435456;omega
 have c:aE (aC X.Q eW) 2147483648=true:=cP fun i hi=>by have:=(hb i hi).1;omega
 show(gj X.h X.f&&(aE (aJ 4 (aX X)) 268435456&&aE (aC X.Q eW) 2147483648))=true
 rw[hn,a,c];rfl
theorem Ja (r:BI X) (hn:gj X.h X.f=true) (A:Nat->Int):ce (GD X A)=true:=by
 have m:=gB r
 have a:aE (aJ 4 (aX X)) 268435456=true:=cP fun i hi=>by have:=m i hi;show-268435456<=4*aX X i/\4*aX X i<=268435456;omega
 show(gj X.h X.f&&(aE (aJ 4 (aX X)) 268435456&&aE (fun _=>0) 2147483648))=true
 rw[hn,a];decide
def fV (X:cG) (Ah bh B:Nat->Int):Nat->Int:=eg Ah bh (Lp X B)
structure Hp (k:Nat) (X:cG) (S:dw) (Ah bh B M0 s0:Nat->Int) (m0:Int):Prop where
 pre:Gl k X S eW
 k20:k<=20
 pf:PF k X (fV X Ah bh B) bh B m0
 pm:k<=9->kS k X M0 m0
 sm:∀i,i<3->-(2129920* (k:Int))<=X.h i+X.h 3-s0 i/\X.h i+X.h 3-s0 i<=2129920*k
 M:vv M0<=m0*m0
 n0:0<=m0
 n1:m0<=60000000
 n2:∀Z,0<=Z->vv M0<=Z*Z->m0-1<=Z
 s:∀i,i<3->-1048576<=M0 i+s0 i/\M0 i+s0 i<=1048576
structure Hs (j:Nat) (X:cG) (S:dw) (Ah bh B q:Nat->Int):Prop where
 f:FJ X S
 a:ee S (aF X eW)=true
 p:∀p',qr p' X.Q->Ph j (fV X Ah bh B) bh B q X.Q p' (cS S.D (aB (am (aU (fV X Ah bh B) p') q)))
theorem Hp.start (r:RI X dw.zero) (hB:∀i,i<3->-262144<=B i/\B i<=262144):∃M0 s0 m0,Hp 0 X dw.zero X.Q (fun _=>0) B M0 s0 m0:=by
 obtain⟨m0,a,c,d,e,f⟩:=PF.start r hB
 have me:=DR r
 exact⟨aX X,fun i=>X.h i+X.h 3,m0,Gl.start r,da,f,fun _=>kS.start r d,fun i hi=>by show-(2129920* (0:Int))<=X.h i+X.h 3-(X.h i+X.h 3)/\X.h i+X.h 3-(X.h i+X.h 3)<=2129920*0;omega,d,a,c,e,fun i hi=>by have:=me i hi;show-1048576<=aX X i+(X.h i+X.h 3)/\aX X i+(X.h i+X.h 3)<=1048576;omega⟩
theorem F8.go {h g:Int} (w:F8 h g):-1064960<=g-h/\g-h<=1064960:=by
 by_cases h1:h< -2097152
 ·have:=w.neg h1;omega
 ·by_cases h2:2097152<h
  ·have:=w.pos h2;omega
  ·exact(w.band oa oa).2
theorem Hp.step (h:Hp k X S Ah bh B M0 s0 m0) (ha:ee S (aF X eW)=false) (hA:∀i,i<3->-1073741824<=Ax i/\Ax i<=1073741824) {To:Nat->Int} (hT:∀i,i<3->-4194304<=To i/\To i<=4194304) (hB:∀i,i<3->-262144<=B i/\B i<=262144) (sq:qr p X.Q):
 Hp (k+1) (gR X (ky S (aF X eW) To)) (mo S (aF X eW) Ax To) (aU (fV X Ah bh B) p) (b9 (fV X Ah bh B) bh p) B M0 s0 m0:=by
 have r:=h.pre.k
 have hs:=Gq r.b r.new
 have hk:k<20:=by
  apply bC;intro hc
  have:=h.pre.a oa
  rw[ha]at this;cases this
 have pst:=h.pre.step hs ha hA hT
 have e:=Df r hs ha To
 rw[e]at pst|-
 refine⟨pst,oa,?_,fun h9=>?_,fun i hi=>?_,h.M,h.n0,h.n1,h.n2,h.s⟩
 ·exact h.pf.step r hs h.pre.st hk h.pm h.M h.n0 h.n1 hB sq
 ·exact(h.pm oa).step r hs h.n0 h.n1 oa
 ·have a:=h.sm i hi
  have c:=(ge r hs i oa).1.go
  have d:=(ge r hs 3 oa).1.go
  omega
theorem Jz:∀k:Nat,k<21->0<=tP k/\0<=tQ k:=da
theorem Fj:∀k:Nat,k<21->tP k* (17321* (2097152+2129920* (k:Int))/10000+2)+tQ k<=14500000000000:=by decide+kernel
theorem Ph.first0 (f:PG 0 A b B X.Q) (hK:∀i,i<4->bu (q i)) (hq:au q=true) (st:qr p X.Q) {D:Nat->Int} (hD:∀i,i<3->D i=0):Ph 0 A b B q X.Q p (cS D (aB (am (aU A p) q))):=by
 have h:=Ph.first f hK hq st
 have e:∀i,i<3->cS D (aB (am (aU A p) q)) i=cS (fun _=>0) (aB (am (aU A p) q)) i:=fun i hi=>by
  unfold cS;rw[hD i hi]
 refine⟨⟨fun i hi=>by rw[e i hi];exact h.bx.u i hi,fun i hi=>by rw[e i hi];exact h.bx.b i hi⟩,?_⟩
 rcases h.ph with a|⟨t,a⟩|⟨k,a⟩|⟨n,a⟩|⟨z,f,s,a,_⟩
 ·exact .inl ⟨a.lt,a.f,fun i hi=>by rw[e i hi];exact a.o i hi⟩
 ·have:=a.t2;have:=a.t3;have:=a.t0;omega
 ·have:=a.s;omega
 ·have:=a.s;omega
 ·have:=a.j8;omega
theorem Hp.arrive (h:Hp k X S Ah bh B M0 s0 m0) (ha:ee S (aF X eW)=true) (hK:∀i,i<4->bu (q i)) (hq:au q=true):Hs 0 X S Ah bh B q:=by
 have r:=h.pre.k
 have R:=h.pre.r ha
 have k20:=h.k20
 have n0:=h.n0
 have me:=DR r
 have ts:=fun i (hi:i<3)=>Eo X hi
 have c:∀i,i<3->-(2097152+2129920* (k:Int))<=M0 i/\M0 i<=2097152+2129920* (k:Int):=fun i hi=>by
  have a:=h.sm i hi
  have d:=h.s i hi
  have e:=(me i hi).1
  have f:=ts i hi
  have g:=R i oa
  have g3:=R 3 oa
  omega
 have m1:=h.n2 _ oa (xA oa c)
 have an:=Fj k oa
 have t0:=(Jz k oa).1
 have pg:PG 0 (fV X Ah bh B) bh B X.Q:=by
  rcases h.pf with P|⟨M,_⟩
  ·refine .inl ⟨P.F,P.z,P.u 14500000 ?_,P.s,fun x=>by omega,da⟩
   have:=mL (show m0<=17321* (2097152+2129920* (k:Int))/10000+2 by omega) t0
   omega
  ·exact .inr ⟨_,M,Cn k k20⟩
 exact⟨h.pre.fi ha,ha,fun p' sp=>Ph.first0 pg hK hq sp r.d⟩
theorem Hs.step (h:Hs j X S Ah bh B q) (hA:∀i,i<3->-1073741824<=Ax i/\Ax i<=1073741824) (hB:∀i,i<3->-262144<=B i/\B i<=262144) (hK:∀i,i<4->bu (q i)) (hq:au q=true) (sq:qr p X.Q)
 (hT:∀i,i<3->-4194304<=aB (am (aU (fV X Ah bh B) p) q) i/\aB (am (aU (fV X Ah bh B) p) q) i<=4194304):
 Hs (j+1) (gR X (ky S (aF X eW) (aB (am (aU (fV X Ah bh B) p) q)))) (mo S (aF X eW) Ax (aB (am (aU (fV X Ah bh B) p) q))) (aU (fV X Ah bh B) p) (b9 (fV X Ah bh B) bh p) B q:=by
 obtain⟨To,hTo⟩:∃To,To=aB (am (aU (fV X Ah bh B) p) q):=⟨_,rfl⟩
 rw[<-hTo]at hT|-
 obtain⟨f2,a2,eQ⟩:=BM h.f h.a hA hT
 obtain⟨X2,hX2⟩:∃X2,X2=gR X (ky S (aF X eW) To):=⟨_,rfl⟩
 obtain⟨S2,hS2⟩:∃S2,S2=mo S (aF X eW) Ax To:=⟨_,rfl⟩
 have eT:∀i,i<3->X2.T i=X.T i:=by rw[hX2];exact H6 h.f.b _
 have eh:X2.Q=bJ X.Q (zn X X2.h):=by rw[hX2];exact Hv X _
 have own:∀i,i<3->zn X X2.h i=S2.D i:=by
  have hD:=fun i hi=>sC h.f.s (ee S (aF X eW)) hT (i:=i) hi
  have k2:vQ (mo S (aF X eW) Ax To):=h.f.s.step _ hA hT
  have e1:(mo S (aF X eW) Ax To).D=pG (ee S (aF X eW)) S To:=rfl
  have e2:=yA h.f eW To fun i hi=>(hD i hi).1
  rw[<-e1]at e2
  obtain⟨_,own⟩:=vJ h.f k2 (fun i hi=>(hD i hi).2)
  rw[<-e2]at own
  rw[hX2,hS2];exact own
 have eD:S2.D=cS S.D To:=by
  rw[hS2]
  funext i
  show pG (ee S (aF X eW)) S To i=_
  rw[h.a];rfl
 rw[<-hX2,<-hS2]at f2 a2 eQ|-
 refine⟨f2,a2,fun p' sp=>?_⟩
 have hp:=h.p p sq
 rw[<-hTo,<-eD]at hp
 have w:Wk B q (fV X Ah bh B) bh X.Q p S2.D (aX X2) p':=by
  refine⟨h.f.b.q,h.f.b.v,hB,sq,fun L L0 L1 hL=>?_,gB f2.b,by rw[<-eQ];exact f2.b.q,by rw[<-eQ];exact f2.b.v,by rw[<-eQ];exact sp,hK,hq⟩
  have e:∀i,i<3->65536* (aX X2 i-S2.D i)=65536* (aC (bJ X.Q S2.D) X.T i-aC X.Q X.T i):=fun i hi=>by
   have a:=(eU f2.b.q f2.b.v f2.b.t f2.b.s).2 i hi
   have c:zn X X2.h i=aC X.Q X.T i-cZ X2.h i:=((eU h.f.b.q h.f.b.v h.f.b.t f2.b.s).2 i hi).2
   have o:=own i hi
   have d:aC X2.Q X2.T=aC (bJ X.Q S2.D) X.T:=by rw[gM _ eT,eQ]
   have a2:aX X2 i=aC X2.Q X2.T i-cZ X2.h i:=a.2
   rw[a2,d]
   omega
  rw[yu e]
  exact o5 h.f.b.q h.f.b.v (iP h.f.b.t).1 (iP h.f.b.t).2 L0 oa hL
 have st:=hp.step w
 rw[<-eQ]at st
 exact st
theorem Hs.end (h:Hs j X S Ah bh B q) (hj:650<j):vv (fun i=>am X.Q q (i+1))<=6000*6000:=by
 obtain⟨_,i,v,z⟩:=La.og h.f.b.q h.f.b.v
 exact(h.p _ ⟨i,v,z⟩).end hj
def Hd (n:Nat) (X:cG) (S:dw) (Ah bh B q:Nat->Int):Prop:=(∃M0 s0 m0,Hp n X S Ah bh B M0 s0 m0)\/∃j,n<=j+20/\Hs j X S Ah bh B q
theorem Hd.bi (h:Hd n X S Ah bh B q):BI X/\vQ S/\gj X.h X.f=true/\FI (fV X Ah bh B) bh:=by
 rcases h with⟨M0,s0,m0,h⟩|⟨j,_,h⟩
 ·refine⟨h.pre.k.b,h.pre.k.s,h.pre.k.new,?_⟩
  rcases h.pf with P|⟨M,_⟩
  ·exact P.F
  ·exact M.F
 ·obtain⟨_,i,v,z⟩:=La.og h.f.b.q h.f.b.v
  exact⟨h.f.b,h.f.s,h.f.ri.new,(h.p _ ⟨i,v,z⟩).fi⟩
theorem Hd.step (h:Hd n X S Ah bh B q) (hA:∀i,i<3->-1073741824<=Ax i/\Ax i<=1073741824) (hB:∀i,i<3->-262144<=B i/\B i<=262144) (hK:∀i,i<4->bu (q i)) (hq:au q=true) (sq:qr p X.Q)
 (hT:∀i,i<3->-4194304<=aB (am (aU (fV X Ah bh B) p) q) i/\aB (am (aU (fV X Ah bh B) p) q) i<=4194304):
 Hd (n+1) (gR X (ky S (aF X eW) (aB (am (aU (fV X Ah bh B) p) q)))) (mo S (aF X eW) Ax (aB (am (aU (fV X Ah bh B) p) q))) (aU (fV X Ah bh B) p) (b9 (fV X Ah bh B) bh p) B q:=by
 rcases h with⟨M0,s0,m0,h⟩|⟨j,hj,h⟩
 ·cases ha:ee S (aF X eW)with
  |false=>exact .inl ⟨M0,s0,m0,h.step ha hA hT hB sq⟩
  | true=>
    have k20:=h.k20
    exact .inr ⟨1,oa,(h.arrive ha hK hq).step hA hB hK hq sq hT⟩
 ·exact .inr ⟨j+1,oa,h.step hA hB hK hq sq hT⟩
theorem Hd.end (h:Hd n X S Ah bh B q) (hn:1000<=n):vv (fun i=>am X.Q q (i+1))<=6000*6000:=by
 rcases h with⟨M0,s0,m0,h⟩|⟨j,hj,h⟩
 ·have:=h.k20;omega
 ·exact h.end oa
end
section
open Go.RowKit PM Dt
variable{X:cG} {S:dw} {A b B q p r r':Nat->Int} {n:Nat}
theorem jw {m:Int} (h:∀i,i<3->r i=r' i):aE r m=aE r' m:=by
 rw[Bool.eq_iff_iff,bp,bp]
 exact⟨fun k i hi=>by rw[<-h i hi];exact k i hi,fun k i hi=>by rw[h i hi];exact k i hi⟩
theorem zj {Q l l':Nat->Int} (h:∀i,i<3->l i=l' i):fL Q l=fL Q l':=by
 have a:=h 0 oa;have c:=h 1 oa;have d:=h 2 oa
 have e:zV l=zV l':=by
  unfold zV
  rw[Bool.eq_iff_iff,List.all_eq_true,List.all_eq_true]
  constructor
  ·intro k i hi;rw[<-h i (List.mem_range.1 hi)];exact k i hi
  ·intro k i hi;rw[h i (List.mem_range.1 hi)];exact k i hi
 have er:rq l=rq l':=by
  funext i
  unfold rq
  rw[a,c,d]
 have et:aR Q l=aR Q l':=by unfold aR ls;rw[er,jw h]
 unfold fL;rw[e,et]
theorem vC (hb:∀i,i<3->-16777216<=b i/\b i<=16777216) (h:∀i,i<3->r i=r' i):eg A b r=eg A b r':=by
 unfold eg
 rw[jw h]
 split
 ·rename_i k
  have k1:aE r 268435456=true:=by rw[jw h];exact k
  exact zj fun i hi=>by unfold aS;rw[ff k1 hb i hi,ff k hb i hi,h i hi]
 ·rfl
def G_ (X:cG) (B:Nat->Int):Nat->Int:=xQ (r4 B 1099511627776) (aJ 4 (aX X)) (fun _=>0)
theorem IT (k:BI X) (hB:∀i,i<3->-262144<=B i/\B i<=262144):∀i,i<3->G_ X B i=Lp X B i:=fun i hi=>by
 have m:=gB k i hi
 have h:=hB i hi
 have e:ec (fq (aJ 4 (aX X)) (r4 B 1099511627776) (fun _=>0)) 3 i=4*aX X i+B i:=by
  rcases(show i=0\/i=1\/i=2 by omega)with rfl|rfl|rfl<;>simp[ec,fq,r4,aJ]
 unfold G_ xQ
 rw[e]
 show aI (4*aX X i+B i) (-1099511627776) 1099511627776=4*aX X i+B i
 unfold aI
 split<;>(try split)<;>omega
theorem KD (hB:∀i,i<3->-262144<=B i/\B i<=262144):GI (r4 B 1099511627776):=⟨fun i hi=>by
 have:=hB i hi
 rcases(show i=0\/i=1\/i=2 by omega)with rfl|rfl|rfl<;>(show-16777216<=B _/\B _<=16777216)<;>omega,by show(1:Int)<=1099511627776;omega,by show(1099511627776:Int)<=1099511627776;omega⟩
structure ut (X:cG) (S:dw) (A b B q:Nat->Int):Prop where
 k:BI X
 s:vQ S
 n:gj X.h X.f=true
 F:FI A b
 F2:FI (fV X A b B) b
 hB:∀i,i<3->-262144<=B i/\B i<=262144
 hK:∀i,i<4->bu (q i)
 hq:au q=true
def ji (X:cG):Nat->Int:=s7 (La.gS X.Q) 2
theorem ut.st (t:ut X S A b B q):qr (ji X) X.Q:=by
 obtain⟨_,i,v,z⟩:=La.og t.k.q t.k.v
 exact⟨i,v,z⟩
theorem ut.rate (t:ut X S A b B q):∀i,i<3->-268435456<=aJ 4 (aX X) i/\aJ 4 (aX X) i<=268435456:=fun i hi=>by have:=gB t.k i hi;show-268435456<=4*aX X i/\4*aX X i<=268435456;omega
theorem ut.okR (t:ut X S A b B q):cx (aJ 4 (aX X))=true:=(bK _).2 fun i hi=>(bE _).2 (by have:=t.rate i hi;omega)
theorem ut.rd (t:ut X S A b B q):yI (G_ X B)=0/\eg A b (G_ X B)=fV X A b B:=by
 have e:=IT t.k t.hB
 refine⟨?_,vC t.F.b e⟩
 unfold yI
 rw[cP fun i hi=>by have:=gB t.k i hi;have:=t.hB i hi;rw[e i hi];show-268435456<=4*aX X i+B i/\4*aX X i+B i<=268435456;omega]
 rfl
theorem wQ {f g:Nat->Int} (hf:au f=true) (hg:au g=true):fF f g=0:=by unfold fF;rw[hf,hg];rfl
def vP (X:cG) (A b B q:Nat->Int):Nat->Int:=aB (am (aU (fV X A b B) (ji X)) q)
theorem ut.to (t:ut X S A b B q):FI (aU (fV X A b B) (ji X)) (b9 (fV X A b B) b (ji X))/\∀i,i<3->-4194304<=vP X A b B q i/\vP X A b B q i<=4194304:=by
 have F3:=t.F2.cor t.st.I
 have hL:=(fZ F3.i F3.v t.hK t.hq).2
 have e:vv (aB (am (aU (fV X A b B) (ji X)) q))<=4194304*4194304:=(fE (gY hL).1).2.2
 exact⟨F3,fun i hi=>bY da e hi⟩
def Ew (X:cG) (S:dw) (A b B q:Nat->Int):cG:=gR X (ky S (aF X eW) (vP X A b B q))
def Ha (X:cG) (S:dw) (A b B q:Nat->Int):dw:=mo S (aF X eW) (fun _=>0) (vP X A b B q)
theorem Hd.tk (h:Hd n X S A b B q) (F:FI A b) (hB:∀i,i<3->-262144<=B i/\B i<=262144) (hK:∀i,i<4->bu (q i)) (hq:au q=true):ut X S A b B q:=
 have⟨a,c,d,e⟩:=h.bi
 ⟨a,c,d,F,e,hB,hK,hq⟩
theorem Hd.go (h:Hd n X S A b B q) (t:ut X S A b B q):Hd (n+1) (Ew X S A b B q) (Ha X S A b B q) (aU (fV X A b B) (ji X)) (b9 (fV X A b B) b (ji X)) B q/\ut (Ew X S A b B q) (Ha X S A b B q) (aU (fV X A b B) (ji X)) (b9 (fV X A b B) b (ji X)) B q:=by
 have s:=h.step (Ax:=fun _=>0) (fun i hi=>by decide) t.hB t.hK t.hq t.st t.to.2
 exact⟨s,s.tk t.to.1 t.hB t.hK t.hq⟩
theorem ut.T (t:ut X S A b B q):∀i,i<3->(Ew X S A b B q).T i=X.T i:=H6 t.k _
end
section
open Go.RowKit PM Dt
def Ev (x:Nat×Nat×Nat×Nat):Array Value:=#[.pointer (some ⟨x.1,0,none⟩),.pointer (some ⟨x.2.1,0,none⟩),.pointer (some ⟨x.2.2.1,0,none⟩),.pointer (some ⟨x.2.2.2,0,none⟩)]
theorem ug (x:Nat×Nat×Nat×Nat):(Ev x).size=4:=rfl
structure m_ (P:Nat×Nat×Nat×Nat) (lo lb:Nat) (w:World) (x:cG×dw×((Nat->Int)×(Nat->Int))×(Nat->Int)):Prop where
 a:P.1<P.2.1
 b:P.2.1<P.2.2.1
 c:P.2.2.1<P.2.2.2
 d:P.2.2.2<lb
 o:gh lo P.1 w x.1
 y:af w P.2.1 (aj x.2.2.2) 83
 f:af w P.2.2.1 (bU x.2.2.1) 85
 s:af w P.2.2.2 (d9 x.2.1) 89
 g:af w lb (Ev P) 37
variable{P:Nat×Nat×Nat×Nat} {lo lb:Nat} {w w':World} {x:cG×dw×((Nat->Int)×(Nat->Int))×(Nat->Int)}
theorem m_.lt (h:m_ P lo lb w x):lb<w.heap.size:=h.g.lt
theorem m_.below {B:Nat} (h:m_ P lo lb w x) (hm:Below B w w') (hl:lb<B):m_ P lo lb w' x:=let⟨a,b,c,d,o,y,f,t,g⟩:=h;⟨a,b,c,d,o.below hm oa,y.below hm oa,f.below hm oa,t.below hm oa,g.below hm hl⟩
theorem m_.alloc (h:m_ P lo lb w x) (k:Obj):m_ P lo lb (w.alloc k) x:=let⟨a,b,c,d,o,y,f,t,g⟩:=h;⟨a,b,c,d,o.alloc k,y.alloc k,f.alloc k,t.alloc k,g.alloc k⟩
theorem m_.drew (h:m_ P lo lb w x):m_ P lo lb w.drew x:=⟨h.a,h.b,h.c,h.d,h.o.drew,h.y.drew,h.f.drew,h.s.drew,h.g.drew⟩
theorem m_.rowOther (h:m_ P lo lb w x) {q:Nat} (hq:q<lo\/lb<q) (k:Array Value):m_ P lo lb (w.setRow q k) x:=
 have hl:=h.o.lolt
 let⟨a,b,c,d,o,y,f,t,g⟩:=h;⟨a,b,c,d,o.rowOther oa k,y.rowOther oa k,f.rowOther oa k,t.rowOther oa k,g.rowOther oa k⟩
end
section
open Go.RowKit PM Dt
def CV (S:Nat->e_):Nat->List Value
 |0=>[]
 |k+1=>CV S k++(cT (S k)).toList
theorem ym (S:Nat->e_):∀k,(CV S k).length=k*7
 |0=>rfl
 |k+1=>by rw[CV,List.length_append,ym S k];show k*7+7=_;omega
theorem yV (S:Nat->e_) {i j:Nat}:∀{k},i<k->j<7->(CV S k)[i*7+j]?=(cT (S i)).toList[j]?
 |0,h,_=>oa
 | k+1,h,hj=>by
   have hl:=ym S k
   rw[CV]
   by_cases e:i=k
   ·subst e
    rw[List.getElem?_append_right oa,hl,show i*7+j-i*7=j by omega]
   ·rw[List.getElem?_append_left oa]
    exact yV S oa hj
theorem IB {w:World} {base n:Nat} {e:TypeId} {v:Value} {S:Nat->e_} (hn:0<n) (h:w.ownsRow base e 7 v n (CV S n)):∃nb cap,v=.slice (some ⟨nb,0,none⟩) n cap/\base<=nb/\iy w (some ⟨nb,0,none⟩) n 7 (fun k=>(cT (S k)).toList):=by
 obtain⟨hl,⟨rfl,h0⟩|⟨g,cap,cur,rfl,hb,hg,h1,h2,h3,h4⟩⟩:=h
 ·omega
 ·refine⟨g,cap,rfl,hb,fun k hk=>⟨g,0,rfl,(Array.getElem?_eq_some_iff.1 hg).1,fun j u hj=>?_⟩⟩
  have hj7:j<7:=by
   have:=(List.getElem?_eq_some_iff.1 hj).1
   simpa[cT]using this
  have hc:=World.ownsRow.cells (w:=w) (base:=base) (e:=e) (size:=7) (v:=.slice (some ⟨g,0,none⟩) n cap) (n:=n) (xs:=CV S n) ⟨hl,.inr ⟨g,cap,cur,rfl,hb,hg,h1,h2,h3,h4⟩⟩ (g:=g) rfl (k*7+j) u (by rw[yV S hk hj7];exact hj)
  have hadd:(⟨g,0,none⟩:Addr).add (k*7+j)=⟨g,0+k*7+j,none⟩:=by
   rw[Nat.zero_add];unfold Addr.add;split<;>simp_all
  rw[hadd]at hc
  exact hc
section
variable{P:Program} {ops:Array Oper} {Q:Exit->Act->World->Prop} {op:Oper} {rest:List Oper} {a:Act} {w:World}
theorem mJ (hw:Region.wanted op (yielded ops a.tmps)=true) (ty:TypeId) (x:Operand) (ho:op.op=.load ty x) (b o:Nat) (hx:a.eval x=.pointer (some ⟨b,o,none⟩))
 (cs:Array Value) (hr:w.rangeAt b o cs.toList) (d:TypeDesc) (hu:P.underlying ty=some d) (hd:d.isRow=true) (hi:(P.info? ty).map (·.size)=some cs.size)
 (h:wpList P ops Q rest (a.put op.dst (.agg cs)) w):wpList P ops Q (op::rest) a w:=
 wpList_step fun K hK=>by
  rw[if_pos hw]
  exact wp_load_mid ty x ho b o hx cs.toList d hr hu hd (by simpa using hi) (by simpa using hK _ _ h)
end
theorem Cf (s:e_):∀u∈(cT s).toList,u.oneCell'=true:=by
 intro u hu
 have:=lP s
 rw[Array.all_eq_true]at this
 obtain⟨i,hi,rfl⟩:=List.mem_iff_getElem.1 hu
 exact this i (by simpa using hi)
theorem rO {w w':World} {base n sz:Nat} {e:TypeId} {v:Value} {xs:List Value} (h:w.ownsRow base e sz v n xs) (hb:Below w.heap.size w w'):w'.ownsRow base e sz v n xs:=
 h.kept (row:=none) ⟨hb.os,hb.tape,hb.output,hb.size,fun k hk _=>hb.block k hk⟩ (by cases v.ownBlock<;>simp)
theorem Al (w:World) (cs:Array Value) (t:TypeId):∀j u,cs.toList[j]?=some u->(w.alloc (.cells cs t)).cell? ((⟨w.heap.size,0,none⟩:Addr).add j)=some u:=fun j u hj=>by
 have h:=(af.new w cs t).cellIs (i:=j) (v:=u) (by simpa using hj)
 have hadd:(⟨w.heap.size,0,none⟩:Addr).add j=⟨w.heap.size,j,none⟩:=by unfold Addr.add;split<;>simp_all
 rw[hadd];exact h
theorem oQ (f:Nat->Int):ah f=#[.int .i64 (f 0),.int .i64 (f 1),.int .i64 (f 2)]:=by unfold ah;rfl
def J5 (_:Nat):Array Value:=#[Value.int .i64 1073741824,.int .i64 0,.int .i64 0,.int .i64 0,.int .i64 1073741824,.int .i64 0]
theorem JK {w:World} {nb K:Nat} (hK:K<2) (h:af w nb (J5 0) 25):w.rangeAt nb (K*3) (ah (La.dy K)).toList:=fun j u hj=>by
 have hj3:j<3:=by
  have:=(List.getElem?_eq_some_iff.1 hj).1
  simpa[ah]using this
 rcases(show K=0\/K=1 by omega)with rfl|rfl<;>rcases(show j=0\/j=1\/j=2 by omega)with rfl|rfl|rfl<;>(rw[oQ]at hj;exact h.cellIs (by simpa[La.dy,J5]using hj))
set_option maxRecDepth 100000 in
theorem wA (X:cG) (lo ob gb fb sb lb:Nat) (w:World) (o:gh lo ob w X) (g:af w lb (Ev (ob,gb,fb,sb)) 37) (lob:ob<lb) (hQ:∀i,i<4->bu (X.Q i)):Calls Tryz.prog 19 #[.pointer (some ⟨lb,0,none⟩)] w fun e w'=>∃a c,e=.returned (.slice a 2 c)/\iy w' a 2 7 (fun k=>(cT (La.gS X.Q k)).toList)/\Below w.heap.size w w':=by
 have SE:=aa (fun v w (h:gh lo ob w X)=>CH X lo ob v w h hQ)
 obtain⟨i0,hi,hz0,hz1,hz2⟩:=info_parts (P:=Tryz.prog) (e:=111) (by kernel_rfl:(Tryz.prog.info? 111).map (fun i=>(i.zero,i.size,i.bytes))=some (some (.agg #[.int .i64 0,.int .i64 0,.int .i64 0,.int .i64 0,.int .i64 0,.int .i64 0,.int .i64 0]),7,56))
 clear hQ
 go_enter Tryz.func19,Tryz.ntmps19
 go_upto_region 2 with(fail)
 go_wp2_with (fail)
 have hB:Below w.heap.size w (w.alloc (.cells #[Value.int .i64 1073741824,.int .i64 0,.int .i64 0,.int .i64 0,.int .i64 1073741824,.int .i64 0] 25)):=(Below.refl _ _).alloc (ns _) _
 have nv:af (w.alloc (.cells #[Value.int .i64 1073741824,.int .i64 0,.int .i64 0,.int .i64 0,.int .i64 1073741824,.int .i64 0] 25)) w.heap.size (J5 0) 25:=af.new w #[Value.int .i64 1073741824,.int .i64 0,.int .i64 0,.int .i64 0,.int .i64 1073741824,.int .i64 0] 25
 have gl:lb<w.heap.size:=g.lt
 replace g:=g.below hB g.lt
 replace o:=o.below hB o.lt
 have hsz:w.heap.size+1<=(w.alloc (.cells #[Value.int .i64 1073741824,.int .i64 0,.int .i64 0,.int .i64 0,.int .i64 1073741824,.int .i64 0] 25)).heap.size:=by simp
 generalize w.alloc (.cells #[Value.int .i64 1073741824,.int .i64 0,.int .i64 0,.int .i64 0,.int .i64 1073741824,.int .i64 0] 25)=w0 at *
 obtain⟨nb,hnb⟩:∃x,x=w.heap.size:=⟨_,rfl⟩
 rw[<-hnb]at nv hsz gl|-
 replace hnb:=aa hnb
 obtain⟨SK,hSK⟩:∃s,La.gS X.Q=s:=⟨_,rfl⟩
 replace hSK:=aa hSK
 have hS:Hid (∀K,SK K=⟨La.dy K,aC X.Q (La.dy K),1⟩):=fun K=>by rw[<-hSK.out];rfl
 go_loopg [12,3] 2 (fun g_ iv jo wr=>∃K:Nat,g_+K=2/\iv=.int .i64 K/\wr.ownsRow (nb+1) 111 7 jo K (CV SK K)/\nb+1<=wr.heap.size/\af wr nb (J5 0) 25/\gh lo ob wr X/\af wr lb (Ev (ob,gb,fb,sb)) 37/\Below w.heap.size w wr)
 case atStart=>exact⟨0,rfl,rfl,World.ownsRow_nil _ _ _ _,hsz,nv,o,g,hB⟩
 case round=>
  clear nv o g hB hsz
  obtain⟨K,hK,rfl,hrow,hsz,nv,o,g,hB⟩:=hrel
  by_cases hKn:K<2
  ·have hdK:decide ((K:Int)<2)=true:=dT oa
   have hdK':decide (K<2)=true:=dT hKn
   have hk3:(K:Int)<2:=oa
   have hk0:(0:Int)<=K:=oa
   have hwK:IntKind.i64.wrap ((K:Int)+1)=((K+1:Nat):Int):=by rw[wI];omega
   have hE:wr.rangeAt nb (K*3) (ah (La.dy K)).toList:=JK hKn nv
   have hfl:Hid (CV SK (K+1)=CV SK K++(cT ⟨La.dy K,aC X.Q (La.dy K),1⟩).toList):=by
    show CV SK K++(cT (SK K)).toList=_
    rw[hS.out K]
   clear hS
   generalize La.dy K=ax at *
   go_upto_region 5 with(first|(refine mJ ?hw _ _ rfl _ _ rfl (ah ax) hE _ yc rfl ?hi ?_;(case hw=>exact rW);(case hi=>exact rI))|(rw[aQ];refine ag rfl _ _ _ rfl _ rfl _ rfl _ _ (af.new _ _ _) rI (by first|rfl|simp only[ad]) (by first|exact aG _|rfl) ?_))
   clear hE
   have hM:Below wr.heap.size wr ((wr.alloc (.cells (ah fun _=>0) 25)).setRow wr.heap.size (ah ax)):=Below.setRow ((Below.refl _ _).alloc (ns _) _) (ns _) _
   have hlt:=hrow.lt
   replace hrow:=rO hrow hM
   replace hsz:=nk hsz hM.size
   clear hM
   have x:=(af.new wr (ah fun _=>0) 25).row (ah ax)
   replace hB:=Below.setRow (hB.alloc hB.size (.cells (ah fun _=>0) 25)) (g:=wr.heap.size) hB.size (ah ax)
   have hne:∀x,x<wr.heap.size->x≠wr.heap.size:=fun x hx=>nN hx
   have out_x:ob<wr.heap.size:=o.lt
   replace nv:=(nv.alloc (.cells (ah fun _=>0) 25)).rowOther (hne _ nv.lt) (ah ax)
   replace o:=(o.alloc (.cells (ah fun _=>0) 25)).rowOther (.inr o.lt) (ah ax)
   replace g:=(g.alloc (.cells (ah fun _=>0) 25)).rowOther (hne _ g.lt) (ah ax)
   clear hne
   generalize(wr.alloc (.cells (ah fun _=>0) 25)).setRow wr.heap.size (ah ax)=wrx at *
   generalize wr.heap.size=x_b at *
   have hB0:=aa hB
   clear hB
   obtain⟨w,hw⟩:∃x,x=wrx:=⟨_,rfl⟩
   subst hw
   have hB:Below w.heap.size w w:=Below.refl _ _
   have lt_nv:=nv.lt
   have lt_o:=o.lt
   have lt_g:=g.lt
   have lt_x:=x.lt
   have hW0:w.heap.size<=w.heap.size:=by simpa using hB.size
   apply a_ 12 [0,1,3,7,0,31,63,127,127,0,767,2047] [9] [_,_,_,_,_,_,_,_,_,(fun p=>.pointer (some ⟨p 9,0,none⟩)),(fun _=>undef),_] (fun p L w'=>w.heap.size<=w'.heap.size/\Below w.heap.size w w'/\af w' nb (J5 0) 25/\gh lo ob w' (X)/\af w' lb (Ev (ob,gb,fb,sb)) 37/\af w' x_b (ah ax) 25/\(L 9=true->w.heap.size<=p 9/\af w' (p 9) (bif L 10 then(ah (aC X.Q ax))else(ah fun _=>0)) 25)) _ [(0,17),(1,18),(2,19),(3,20),(4,21),(5,22),(6,16),(7,23),(8,24),(9,6),(11,7)] [0,1,2,3,4,5,6,7,8,9,10,11]
   case hn|hm|hB|hds|hA=>exact rA
   case h0=>exact rH
   case hmore=>exact rM
   case hs=>
    intro more
    iterate 3 (refine aH ?_)
    refine cm ?_ ?_
    ·rintro p L w1 ⟨hsz,hB,nv,o,g,x,h_y⟩ hk
     have hc:w1.cell? ⟨lb,0,none⟩=some (.pointer (some ⟨ob,0,none⟩)):=g.cellIs rfl
     go_simp
     exact⟨rfl,rfl⟩
    refine cm ?_ ?_
    ·rintro p L w1 ⟨hsz,hB,nv,o,g,x,h_y⟩ hk
     first|exact br _ _ rfl _ rfl _ _ x _ yc rfl rI rfl|(have hc:=x.cellIs (az _ (show 0<3 by omega));go_simp;exact⟨rfl,rfl⟩)
    refine bS 5 rfl (fun p=>rfl) (fun _ _ _ h=>h) more ?_ ?_
    ·rintro p L w1 ⟨hsz,hB,nv,o,g,x,h_y⟩ hk
     go_simp
     exact(SE.out _ _ o).mono rC
    iterate 3 (refine aH ?_)
    refine aw.cons ?_ ?_
    ·refine aP 9 rfl (fun p=>rfl) rfl (ah fun _=>0) 25 (fun p=>rfl) ?_ ?_
     ·intro p w1
      go_simp
      first|done|rfl|rw[aQ]
     rintro p L w1 ⟨hsz,hB,nv,o,g,x,h_y⟩ hk
     have L10:L 10=false:=hk.2.2 10 rfl
     refine⟨nk hsz sd,hB.alloc (nk hW0 hsz) _,nv.alloc _,o.alloc _,g.alloc _,x.alloc _,fun _=>⟨hsz,?_⟩⟩
     rw[show cD L 9 10=false from L10]
     exact af.new _ _ _
    refine aw.cons ?_ ?_
    ·refine aA 10 rfl (fun p=>rfl) (fun p=>rfl) _ _ _ rfl (fun p=>p 9) 0 (fun p=>rfl) (fun p=>(ah (aC X.Q ax))) (fun p=>rfl) (fun p=>(ah fun _=>0)) (fun p=>(ah (aC X.Q ax))) 25 (fun p=>dH _ _) (fun p=>by first|(rw[ad,ad];decide)|simp[ad,ad]) (fun p=>by rw[ad];kernel_rfl) (fun p=>aG _) ?_ ?_
     ·rintro p L w1 ⟨hsz,hB,nv,o,g,x,h_y⟩ hk
      exact cg (h_y (hk.2.1 9 rfl)).2 hk.1
     ·rintro p L w1 ⟨hsz,hB,nv,o,g,x,h_y⟩ hk
      have hp:=h_y (hk.2.1 9 rfl)
      refine⟨(by simpa using hsz),Below.setRow hB (nk hW0 hp.1) _,nv.rowOther (nL lt_nv hp.1) _,o.rowOther (.inr (nq lt_o hp.1)) _,g.rowOther (nL lt_g hp.1) _,x.rowOther (nL lt_x hp.1) _,fun _=>⟨hp.1,?_⟩⟩
      rw[show cD L 10 10=true from rfl]
      exact hp.2.row _
    refine aH ?_
    exact aw.nil
   case hV0=>exact rV
   case he=>
   clear hB nv o g x
   rintro p wr ⟨hsz,hB,nv,o,g,x,h_y⟩
   obtain⟨le_y,y⟩:=h_y rfl
   clear h_y
   replace y:af wr (p 9) (ah (aC X.Q ax)) 25:=y
   have ne_nv_y:nb≠p 9:=nN (nq lt_nv le_y)
   have ne_o_y:ob≠p 9:=nN (nq lt_o le_y)
   have ne_g_y:lb≠p 9:=nN (nq lt_g le_y)
   have ne_x_y:x_b≠p 9:=nN (nq lt_x le_y)
   have ge_y:w.heap.size<=p 9:=nk hW0 le_y
   have out_y:ob<p 9:=nq lt_o le_y
   generalize p 9=y_b at *
   clear lt_nv lt_o lt_g lt_x hsz hW0
   generalize aC X.Q ax=yv at *
   rw[oQ ax]at x
   rw[oQ yv]at y
   replace hrow:=rO hrow hB
   replace hsz:=nk hsz hB.size
   have hk17:K+1<=maxLen:=nk (show K+1<=5 by omega) da
   have hk56:(K+1)*56<=140737488355328:=oa
   go_wp2_with (first|(refine ac ?hw _ _ rfl _ rfl _ _ _ _ x yc rfl ?hi ?_;(case hw=>exact rW);(case hi=>exact rI))|(refine ac ?hw _ _ rfl _ rfl _ _ _ _ y yc rfl ?hi ?_;(case hw=>exact rW);(case hi=>exact rI))|(at_builtin;refine wpList_append_own _ rfl _ _ 58 rfl (nb+1) 111 i0 (.agg #[.int .i64 0,.int .i64 0,.int .i64 0,.int .i64 0,.int .i64 0,.int .i64 0,.int .i64 0]) 7 56 yh hi hz0 hz1 hz2 rfl da _ _ _ rfl (hrow.alloc _) ⟨wr.heap.size,0,none⟩ 1 1 (cT ⟨ax,yv,1⟩).toList rfl rfl (Al _ (cT ⟨ax,yv,1⟩) _) (Cf _) hk17 hk56 (nk hsz sd) ?_;intro v2 w3 hown2 hgrow hnil))
   rw[<-hfl.out]at hown2
   have hG:Below (nb+1) (wr.alloc (.cells (cT ⟨ax,yv,1⟩) 111)) w3:=(Below.refl _ _).grown hgrow (nk hsz sd) (fun k hk=>(hlt k hk).1)
   have hBa:=hB0.out.trans ((hB.alloc hB.size (.cells (cT ⟨ax,yv,1⟩) 111)).mono hB0.out.size)
   replace hB:=hBa.grown hgrow hBa.size (fun k hk=>by have:=hnb.out;have:=(hlt k hk).1;omega)
   replace nv:=(nv.alloc (.cells (cT ⟨ax,yv,1⟩) 111)).below hG (nw nb)
   replace o:=(o.alloc (.cells (cT ⟨ax,yv,1⟩) 111)).below hG oa
   replace g:=(g.alloc (.cells (cT ⟨ax,yv,1⟩) 111)).below hG oa
   replace hsz:=nk hsz (nk sd hgrow.size)
   go_roundg (2-(K+1))
   case rel=>exact⟨K+1,oa,rfl,hown2,hsz,nv,o,g,hB⟩
   case measure=>omega
  ·obtain rfl:K=2:=oa
   have hdK:decide (((2:Nat):Int)<2)=false:=da
   obtain⟨nb2,cap2,rfl,hnb2,hel2⟩:=IB da hrow
   replace hel2:=aa hel2
   clear hrow nv o g
   go_wp2_with (fail)
   go_ret
   exact⟨_,_,rfl,by rw[hSK.out];exact hel2.out,hB⟩
end
end Go.Proofs.YtbhahonkhiiilaaGreat
