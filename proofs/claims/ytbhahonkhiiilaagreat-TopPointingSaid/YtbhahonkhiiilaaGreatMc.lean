/-
  Short names.
-/
import Derived.Test.YtbhahonkhiiilaaGreatShelf
import Derived.Lib.Hide
set_option linter.unusedSimpArgs false
set_option linter.unusedVariables false
namespace Go.Proofs.YtbhahonkhiiilaaGreat
open Go.RowKit
theorem oa {p:Prop} (h:p:=by omega):p:=h
theorem da {p:Prop} (h:p:=by decide):p:=h
theorem ke {p:Prop} (h:p:=by kernel_rfl):p:=h
theorem sd {p:Prop} (h:p:=by simp):p:=h
abbrev mL:=@Int.mul_le_mul_of_nonneg_left
abbrev mR:=@Int.mul_le_mul_of_nonneg_right
abbrev mM:=@Int.mul_le_mul
abbrev mN:=@Int.mul_nonneg
abbrev nk:=@Nat.le_trans
abbrev iT:=@Int.le_trans
abbrev nq:=@Nat.lt_of_lt_of_le
abbrev nN:=@Nat.ne_of_lt
abbrev nG:=@Nat.ne_of_gt
abbrev ns:=@Nat.le_refl
abbrev iR:=@Int.le_refl
abbrev dT:=@decide_eq_true
abbrev dF:=@decide_eq_false
abbrev bC:=@Classical.byContradiction
abbrev aa:=@Lib.hid
abbrev wI:=@IntKind.wrap_i64
abbrev mC:=@Int.le_of_mul_le_mul_left
abbrev nw:=@Nat.lt_succ_self
abbrev ea:=@Int.ediv_nonneg
abbrev ya:=@Tryz.underlying22
abbrev yb:=@Tryz.underlying23
abbrev yc:=@Tryz.underlying25
abbrev ye:=@Tryz.underlying143
abbrev yg:=@Tryz.underlying111
abbrev yh:=@Tryz.underlying58
abbrev yi:=@Tryz.underlying67
end Go.Proofs.YtbhahonkhiiilaaGreat
namespace Go.Proofs.YtbhahonkhiiilaaGreat.La
theorem eZ (x:Int):0<=x*x:=by
 rcases Int.le_total 0 x with h|h
 ·exact mN h h
 ·have:=mN (show 0<=-x by omega) (show 0<=-x by omega);rwa [Int.neg_mul_neg]at this
theorem gF {x y:Int} (hy:0<=y) (h:x*x<=y*y):x<=y:=by
 apply Int.not_lt.1;intro hc
 have:y*y<x*x:=Int.mul_lt_mul' (Int.le_of_lt hc) hc hy oa
 omega
theorem o8 {x y:Int} (h0:-y<=x) (h1:x<=y):x*x<=y*y:=by
 have a:=mN (show 0<=y-x by omega) (show 0<=y+x by omega)
 have e:(y-x)* (y+x)=y*y-x*x:=by grind
 omega
theorem jr {a b c d:Int} (h0:0<=a) (h1:a<=b) (h2:0<=c) (h3:c<=d):a*c<=b*d:=
 mM h1 h3 h2 oa
def sm:Nat->(Nat->Int)->Int
 |0,_=>0
 |n+1,f=>sm n f+f n
theorem yr (n:Nat) (f:Nat->Int):sm (n+1) f=sm n f+f n:=rfl
theorem iA {n:Nat} {f:Nat->Int} (h:∀i,i<n->0<=f i):0<=sm n f:=by
 induction n with
 |zero=>exact iR _
 |succ n ih=>have:=ih fun i hi=>h i oa;have:=h n oa;unfold sm;omega
theorem qW {n:Nat} {f g:Nat->Int} (h:∀i,i<n->f i<=g i):sm n f<=sm n g:=by
 induction n with
 |zero=>exact iR _
 |succ n ih=>have:=ih fun i hi=>h i oa;have:=h n oa;unfold sm;omega
theorem dY {n:Nat} {f g:Nat->Int} (h:∀i,i<n->f i=g i):sm n f=sm n g:=by
 induction n with
 |zero=>rfl
 |succ n ih=>unfold sm;rw[ih fun i hi=>h i oa,h n oa]
theorem Es (n:Nat) (f g:Nat->Int):sm n (fun i=>f i+g i)=sm n f+sm n g:=by
 induction n with
 |zero=>rfl
 |succ n ih=>simp only[yr];rw[ih];omega
theorem gr (n:Nat) (c:Int) (f:Nat->Int):sm n (fun i=>c*f i)=c*sm n f:=by
 induction n with
 |zero=>simp[sm]
 |succ n ih=>unfold sm;rw[ih,Int.mul_add]
theorem qk (n:Nat) (c:Int):sm n (fun _=>c)=n*c:=by
 induction n with
 |zero=>simp[sm]
 |succ n ih=>unfold sm;rw[ih];grind
theorem wK {n:Nat} {f:Nat->Int} (h:∀i,i<n->0<=f i) {k:Nat} (hk:k<n):f k<=sm n f:=by
 induction n with
 |zero=>omega
 | succ n ih=>
   have h0:=iA fun i hi=>h i (by omega:i<n+1)
   unfold sm
   by_cases e:k=n
   ·subst e;have:=iA (n:=k) (f:=f) fun i hi=>h i oa;omega
   ·have:=ih (fun i hi=>h i oa) oa;have:=h n oa;omega
theorem cs (n:Nat) (f g:Nat->Int):sm n (fun i=>f i*g i)*sm n (fun i=>f i*g i)<=sm n (fun i=>f i*f i)*sm n (fun i=>g i*g i):=by
 induction n with
 |zero=>exact iR _
 | succ n ih=>
   simp only[yr]
   have hF:=iA (n:=n) (f:=fun i=>f i*f i) fun i _=>eZ _
   have hG:=iA (n:=n) (f:=fun i=>g i*g i) fun i _=>eZ _
   generalize sm n (fun i=>f i*g i)=A at *
   generalize sm n (fun i=>f i*f i)=F at *
   generalize sm n (fun i=>g i*g i)=G at *
   generalize f n=a
   generalize g n=b
   have hb:=eZ b
   have ha:=eZ a
   have h1:2* (A* (a*b))<=F* (b*b)+G* (a*a):=by
    apply gF
    ·have:=mN hF hb;have:=mN hG ha;omega
    ·have k1:(F* (b*b)+G* (a*a))* (F* (b*b)+G* (a*a))-4* ((F*G)* ((a*a)* (b*b)))=(F* (b*b)-G* (a*a))* (F* (b*b)-G* (a*a)):=by grind
     have k2:=eZ (F* (b*b)-G* (a*a))
     have k3:(2* (A* (a*b)))* (2* (A* (a*b)))=4* ((A*A)* ((a*a)* (b*b))):=by grind
     have k4:=mR ih (mN ha hb)
     omega
   have e1:(A+a*b)* (A+a*b)=A*A+2* (A* (a*b))+(a*a)* (b*b):=by grind
   have e2:(F+a*a)* (G+b*b)=F*G+(F* (b*b)+G* (a*a))+(a*a)* (b*b):=by grind
   omega
def NB (n:Nat) (v:Nat->Int) (a:Int):Prop:=0<=a/\sm n (fun i=>v i*v i)<=a*a
theorem nD {n:Nat} {v w:Nat->Int} {a b:Int} (hv:NB n v a) (hw:NB n w b):-(a*b)<=sm n (fun i=>v i*w i)/\sm n (fun i=>v i*w i)<=a*b:=by
 have h:=cs n v w
 have ha:=iA (n:=n) (f:=fun i=>v i*v i) fun i _=>eZ _
 have hb:=iA (n:=n) (f:=fun i=>w i*w i) fun i _=>eZ _
 have h2:=jr ha hv.2 hb hw.2
 generalize sm n (fun i=>v i*w i)=t at *
 have hab:=mN hv.1 hw.1
 have e:(a*a)* (b*b)=(a*b)* (a*b):=by grind
 constructor
 ·have:=gF (x:=-t) hab (by rw[Int.neg_mul_neg];omega)
  omega
 ·exact gF hab oa
theorem NB.add {n:Nat} {v w:Nat->Int} {a b:Int} (hv:NB n v a) (hw:NB n w b):NB n (fun i=>v i+w i) (a+b):=by
 refine⟨by have:=hv.1;have:=hw.1;omega,?_⟩
 have d:=nD hv hw
 have e:sm n (fun i=>(v i+w i)* (v i+w i))=sm n (fun i=>v i*v i)+2*sm n (fun i=>v i*w i)+sm n (fun i=>w i*w i):=by
  rw[<-gr,<-Es,<-Es]
  exact dY fun i _=>by grind
 have e2:(a+b)* (a+b)=a*a+2* (a*b)+b*b:=by grind
 have:=hv.2
 have:=hw.2
 rw[e,e2]
 omega
theorem NB.mul {n:Nat} {v:Nat->Int} {a:Int} (hv:NB n v a) {c:Int} (hc:0<=c):NB n (fun i=>c*v i) (c*a):=by
 refine⟨mN hc hv.1,?_⟩
 have e:sm n (fun i=>(c*v i)* (c*v i))=(c*c)*sm n (fun i=>v i*v i):=by
  rw[<-gr];exact dY fun i _=>by grind
 rw[e,show c*a* (c*a)=(c*c)* (a*a) by grind]
 exact mL hv.2 (eZ c)
theorem NB.neg {n:Nat} {v:Nat->Int} {a:Int} (hv:NB n v a):NB n (fun i=>-v i) a:=by
 refine⟨hv.1,?_⟩
 rw[dY fun i _=>Int.neg_mul_neg (v i) (v i)]
 exact hv.2
theorem NB.mono {n:Nat} {v:Nat->Int} {a b:Int} (hv:NB n v a) (h:a<=b):NB n v b:=
 ⟨by have:=hv.1;omega,iT hv.2 (jr hv.1 h hv.1 h)⟩
theorem NB.congr {n:Nat} {v w:Nat->Int} {a:Int} (hv:NB n v a) (h:∀i,i<n->v i=w i):NB n w a:=
 ⟨hv.1,by rw[<-dY (f:=fun i=>v i*v i) fun i hi=>by rw[h i hi]];exact hv.2⟩
theorem gi {a b c:Int} (hc:0<c) (h:c*a<=c*b):a<=b:=mC h hc
theorem NB.cancel {n:Nat} {v:Nat->Int} {a c:Int} (hc:0<c) (h:NB n (fun i=>c*v i) (c*a)):NB n v a:=by
 obtain⟨h0,h1⟩:=h
 refine⟨gi hc (by rw[Int.mul_zero];exact h0),?_⟩
 have e:sm n (fun i=>(c*v i)* (c*v i))=(c*c)*sm n (fun i=>v i*v i):=by
  rw[<-gr];exact dY fun i _=>by grind
 rw[e,show c*a* (c*a)=(c*c)* (a*a) by grind]at h1
 exact gi (Int.mul_pos hc hc) h1
theorem NB.at {n:Nat} {v:Nat->Int} {a:Int} (h:NB n v a) {i:Nat} (hi:i<n):-a<=v i/\v i<=a:=by
 have h1:=wK (f:=fun i=>v i*v i) (fun i _=>eZ _) hi
 have h2:v i*v i<=a*a:=iT h1 h.2
 exact⟨by have:=gF (x:=-v i) h.1 (by rw[Int.neg_mul_neg];exact h2);omega,gF h.1 h2⟩
theorem NB.of {n:Nat} {v:Nat->Int} {c a:Int} (h:∀i,i<n->-c<=v i/\v i<=c) (ha:0<=a) (hc:n* (c*c)<=a*a):NB n v a:=by
 refine⟨ha,iT (qW (g:=fun _=>c*c) fun i hi=>o8 (h i hi).1 (h i hi).2) ?_⟩
 rw[qk];exact hc
theorem Jx (f:Nat->Int):sm 9 f=sm 3 (fun j=>sm 3 (fun k=>f (j*3+k))):=by
 simp[sm];omega
theorem NB.app {B r:Nat->Int} {b p:Int} (hB:NB 9 B b) (hr:NB 3 r p):NB 3 (fun j=>sm 3 (fun k=>B (j*3+k)*r k)) (b*p):=by
 refine⟨mN hB.1 hr.1,?_⟩
 have h1:sm 3 (fun j=>sm 3 (fun k=>B (j*3+k)*r k)*sm 3 (fun k=>B (j*3+k)*r k))<=sm 3 (fun j=>sm 3 (fun k=>r k*r k)*sm 3 (fun k=>B (j*3+k)*B (j*3+k))):=
  qW fun j _=>by rw[Int.mul_comm (sm 3 fun k=>r k*r k)];exact cs 3 (fun k=>B (j*3+k)) r
 rw[gr]at h1
 have e:=Jx (fun i=>B i*B i)
 have h2:=hB.2
 rw[e]at h2
 have hn:0<=sm 3 (fun j=>sm 3 (fun k=>B (j*3+k)*B (j*3+k))):=iA fun j _=>iA fun k _=>eZ _
 have hr0:=iA (n:=3) (f:=fun i=>r i*r i) fun i _=>eZ _
 have h3:=jr hr0 hr.2 hn h2
 rw[show b*p* (b*p)=(p*p)* (b*b) by grind]
 exact iT h1 h3
theorem NB.sqr {B C:Nat->Int} {b c:Int} (hB:NB 9 B b) (hC:NB 9 C c):NB 9 (fun i=>sm 3 (fun l=>B (i/3*3+l)*C (i % 3*3+l))) (b*c):=by
 refine⟨mN hB.1 hC.1,?_⟩
 rw[Jx]
 have h1:sm 3 (fun j=>sm 3 (fun k=>sm 3 (fun l=>B ((j*3+k)/3*3+l)*C ((j*3+k) % 3*3+l))*sm 3 (fun l=>B ((j*3+k)/3*3+l)*C ((j*3+k) % 3*3+l))))<=
  sm 3 (fun j=>sm 3 (fun k=>sm 3 (fun l=>B (j*3+l)*B (j*3+l))*sm 3 (fun l=>C (k*3+l)*C (k*3+l)))):=by
  refine qW fun j hj=>qW fun k hk=>?_
  rw[show(j*3+k)/3=j by omega,show(j*3+k) % 3=k by omega]
  exact cs 3 (fun l=>B (j*3+l)) (fun l=>C (k*3+l))
 refine iT h1 ?_
 rw[dY (g:=fun j=>sm 3 (fun k=>sm 3 fun l=>C (k*3+l)*C (k*3+l))*sm 3 (fun l=>B (j*3+l)*B (j*3+l))) fun j _=>by rw[gr,Int.mul_comm],gr]
 rw[<-Jx (fun i=>C i*C i),<-Jx (fun i=>B i*B i),show b*c* (b*c)=(c*c)* (b*b) by grind]
 exact jr (iA fun i _=>eZ _) hC.2 (iA fun i _=>eZ _) hB.2
theorem NB.out {r q:Nat->Int} {a b:Int} (hr:NB 3 r a) (hq:NB 3 q b):NB 9 (fun i=>r (i/3)*q (i % 3)) (a*b):=by
 refine⟨mN hr.1 hq.1,?_⟩
 rw[Jx,dY (g:=fun j=>sm 3 (fun k=>q k*q k)* (r j*r j)) fun j hj=>by
  rw[Int.mul_comm,<-gr]
  exact dY fun k hk=>by show r ((j*3+k)/3)*q ((j*3+k) % 3)* (r ((j*3+k)/3)*q ((j*3+k) % 3))=_;rw[show(j*3+k)/3=j by omega,show(j*3+k) % 3=k by omega];grind]
 rw[gr,show a*b* (a*b)=(b*b)* (a*a) by grind]
 exact jr (iA fun i _=>eZ _) hq.2 (iA fun i _=>eZ _) hr.2
structure yw (D p b h p' b':Int):Prop where
 D0:0<D
 p0:0<=p
 b0:0<=b
 h0:0<=h
 hD:h<D
 p1:D*p+b*p+D*h<=p'* (D-h)
 b1:p*p+b*b+D*h<=b'* (D-h)
theorem H7 {D p b h p' b' N s l l' R x X:Int} (H:yw D p b h p' b') (hR:0<=R) (hl:0<l) (hs:0<s) (hN:0<N)
 (e:2*s*N*l'=2* (l*l+R)+N*x) (hx:-X<=x) (hX:D* (N*X)<=2* (h* (l*l))):2* ((l*l)* (D-h))<=(2*s*N)* (D*l'):=by
 have h1:N* (-X)<=N*x:=mL hx oa
 have h2:D* (2*s*N*l')=2* (D* (l*l))+2* (D*R)+D* (N*x):=by rw[e];grind
 have h3:D* (N* (-X))<=D* (N*x):=mL h1 (by have:=H.D0;omega)
 have h4:D* (N* (-X))=-(D* (N*X)):=by grind
 have h5:0<=D*R:=mN (by have:=H.D0;omega) hR
 have e1:(l*l)* (D-h)=D* (l*l)-h* (l*l):=by grind
 have e2:(2*s*N)* (D*l')=D* (2*s*N*l'):=by grind
 rw[e1,e2,h2]
 omega
theorem A9 {D h s N l l':Int} (hh:h<D) (hD:0<D) (hl:0<l) (hs:0<s) (hN:0<N) (h1:2* ((l*l)* (D-h))<=(2*s*N)* (D*l')):0<l':=by
 apply Int.not_le.1;intro hc
 have a:0<(l*l)* (D-h):=Int.mul_pos (Int.mul_pos hl hl) oa
 have b:(2*s*N)* (D*l')<=0:=Int.mul_nonpos_of_nonneg_of_nonpos (mN (mN oa oa) oa) (Int.mul_nonpos_of_nonneg_of_nonpos oa hc)
 omega
theorem vw {n:Nat} {D q c h s N l l':Int} {v:Nat->Int} (hh:h<D) (hD:0<D) (hs:0<s) (hN:0<N) (hq:0<=q) (hl':0<l') (h1:2* ((l*l)* (D-h))<=(2*s*N)* (D*l')) (hc:c<=q* (D-h))
 (hv:NB n (fun i=>(2*s*N*D)* (D*v i)) (2* ((l*l)*c))):NB n (fun i=>D*v i) (q*l'):=by
 have hk:0<2*s*N*D:=Int.mul_pos (Int.mul_pos (Int.mul_pos oa hs) hN) hD
 refine NB.cancel hk (hv.mono ?_)
 have a1:(l*l)*c<=(l*l)* (q* (D-h)):=mL hc (eZ l)
 have a2:q* (2* ((l*l)* (D-h)))<=q* ((2*s*N)* (D*l')):=mL h1 hq
 have e1:q* (2* ((l*l)* (D-h)))=2* ((l*l)* (q* (D-h))):=by grind
 have e2:q* ((2*s*N)* (D*l'))=2*s*N*D* (q*l'):=by grind
 omega
theorem H8 {D p b h p' b' N s l l' X:Int} {r B r' x:Nat->Int} (H:yw D p b h p' b') (hp':0<=p') (hl:0<l) (hs:0<s) (hN:0<N) (hl':0<l')
 (h1:2* ((l*l)* (D-h))<=(2*s*N)* (D*l'))
 (hr:NB 3 (fun i=>D*r i) (p*l)) (hB:NB 9 (fun i=>D*B i) (b*l)) (hx:NB 3 x X) (hX:D* (N*X)<=2* (h* (l*l)))
 (e:∀j,j<3->2*s*N*r' j=2* (l*r j+sm 3 (fun k=>B (j*3+k)*r k))+N*x j):NB 3 (fun i=>D*r' i) (p'*l'):=by
 have D0:=H.D0
 refine vw H.hD D0 hs hN hp' hl' h1 H.p1 ?_
 have a1:NB 3 (fun i=>(2* (D*l))* (D*r i)) ((2* (D*l))* (p*l)):=hr.mul (mN oa (mN oa oa))
 have a2:=(NB.app hB hr).mul (c:=2) oa
 have a3:=hx.mul (c:=D*D*N) (mN (mN oa oa) oa)
 refine((a1.add (a2.add a3)).congr fun j hj=>?_).mono ?_
 ·have e0:=e j hj
  have e1:sm 3 (fun k=>D*B (j*3+k)* (D*r k))=(D*D)*sm 3 (fun k=>B (j*3+k)*r k):=by
   rw[<-gr];exact dY fun k _=>by grind
  rw[e1]
  generalize sm 3 (fun k=>B (j*3+k)*r k)=S at *
  have e2:2*s*N*D* (D*r' j)=D*D* (2*s*N*r' j):=by grind
  rw[e2,e0]
  grind
 ·have:D* (D* (N*X))<=D* (2* (h* (l*l))):=mL hX oa
  have e1:D*D*N*X=D* (D* (N*X)):=by grind
  have e2:2* ((l*l)* (D*p+b*p+D*h))=2* (D*l)* (p*l)+(2* (b*l* (p*l))+D* (2* (h* (l*l)))):=by grind
  omega
theorem In {D p b h p' b' N s l l' X:Int} {r B B' x:Nat->Int} (H:yw D p b h p' b') (hb':0<=b') (hl:0<l) (hs:0<s) (hN:0<N) (hl':0<l')
 (h1:2* ((l*l)* (D-h))<=(2*s*N)* (D*l'))
 (hr:NB 3 (fun i=>D*r i) (p*l)) (hB:NB 9 (fun i=>D*B i) (b*l)) (hx:NB 9 x X) (hX:D* (N*X)<=2* (h* (l*l)))
 (e:∀i,i<9->2*s*N*B' i=2* (r (i/3)*r (i % 3)+sm 3 (fun k=>B (i/3*3+k)*B (i % 3*3+k)))+N*x i):NB 9 (fun i=>D*B' i) (b'*l'):=by
 have D0:=H.D0
 refine vw H.hD D0 hs hN hb' hl' h1 H.b1 ?_
 have a1:=(NB.out hr hr).mul (c:=2) oa
 have a2:=(NB.sqr hB hB).mul (c:=2) oa
 have a3:=hx.mul (c:=D*D*N) (mN (mN oa oa) oa)
 refine((a1.add (a2.add a3)).congr fun i hi=>?_).mono ?_
 ·have e0:=e i hi
  have e1:sm 3 (fun k=>D*B (i/3*3+k)* (D*B (i % 3*3+k)))=(D*D)*sm 3 (fun k=>B (i/3*3+k)*B (i % 3*3+k)):=by
   rw[<-gr];exact dY fun k _=>by grind
  rw[e1]
  generalize sm 3 (fun k=>B (i/3*3+k)*B (i % 3*3+k))=S at *
  have e2:2*s*N*D* (D*B' i)=D*D* (2*s*N*B' i):=by grind
  rw[e2,e0]
  grind
 ·have:D* (D* (N*X))<=D* (2* (h* (l*l))):=mL hX oa
  have e1:D*D*N*X=D* (D* (N*X)):=by grind
  have e2:2* ((l*l)* (p*p+b*b+D*h))=2* (p*l* (p*l))+(2* (b*l* (b*l))+D* (2* (h* (l*l)))):=by grind
  omega
def dt (v w:Nat->Int):Int:=v 0*w 0+v 1*w 1+v 2*w 2+v 3*w 3
def iK (S v:Nat->Int):Nat->Int:=fun i=>S (i*4)*v 0+S (i*4+1)*v 1+S (i*4+2)*v 2+S (i*4+3)*v 3
def sK (S:Nat->Int):Prop:=S 1=S 4/\S 2=S 8/\S 3=S 12/\S 6=S 9/\S 7=S 13/\S 11=S 14
def En (u:Nat->Int):Nat->Nat->Int
 |0=>fun i=>match i with|0=>u 0|1=>u 1|2=>u 2|_=>u 3
 |1=>fun i=>match i with|0=>-u 1|1=>u 0|2=>u 3|_=>-u 2
 |2=>fun i=>match i with|0=>-u 2|1=>-u 3|2=>u 0|_=>u 1
 |_=>fun i=>match i with|0=>-u 3|1=>u 2|2=>-u 1|_=>u 0
def Tn (S u:Nat->Int) (a b:Nat):Int:=dt (iK S (En u a)) (En u b)
def SQ (S:Nat->Int):Nat->Int:=fun j=>S (j/4*4)*S (j % 4)+S (j/4*4+1)*S (4+j % 4)+S (j/4*4+2)*S (8+j % 4)+S (j/4*4+3)*S (12+j % 4)
theorem ml (u v w:Nat->Int):dt u u*dt v w=dt v (En u 0)*dt w (En u 0)+dt v (En u 1)*dt w (En u 1)+dt v (En u 2)*dt w (En u 2)+dt v (En u 3)*dt w (En u 3):=by
 unfold dt
 simp only[En]
 generalize u 0=a0;generalize u 1=a1;generalize u 2=a2;generalize u 3=a3
 generalize v 0=b0;generalize v 1=b1;generalize v 2=b2;generalize v 3=b3
 generalize w 0=c0;generalize w 1=c1;generalize w 2=c2;generalize w 3=c3
 grind
theorem sS {S:Nat->Int} (h:sK S) (v w:Nat->Int):dt (iK S v) w=dt v (iK S w):=by
 obtain⟨h1,h2,h3,h4,h5,h6⟩:=h
 simp only[dt,iK,Nat.zero_mul,Nat.zero_add,Nat.one_mul,Nat.reduceMul,Nat.reduceAdd,h1,h2,h3,h4,h5,h6]
 grind
theorem eR (v w:Nat->Int):dt v w=dt w v:=by unfold dt;grind
theorem dV {S:Nat->Int} (h:sK S) (u:Nat->Int) (a b:Nat):Tn S u a b=Tn S u b a:=by
 unfold Tn;rw[sS h,eR]
theorem Ht (S v:Nat->Int):∀i,i<4->iK (SQ S) v i=iK S (iK S v) i:=by
 intro i hi
 have d0:∀k,k<4->(i*4+k)/4=i:=fun k hk=>oa
 have d1:∀k,k<4->(i*4+k) % 4=k:=fun k hk=>oa
 have q0:=d0 0 oa;have q1:=d1 0 oa
 rw[Nat.add_zero]at q0 q1
 simp only[iK,SQ,q0,q1,d0 1 oa,d0 2 oa,d0 3 oa,d1 1 oa,d1 2 oa,d1 3 oa,Nat.zero_mul,Nat.zero_add,Nat.one_mul,Nat.reduceMul,Nat.reduceAdd]
 generalize S (i*4)=s0;generalize S (i*4+1)=s1;generalize S (i*4+2)=s2;generalize S (i*4+3)=s3
 generalize v 0=b0;generalize v 1=b1;generalize v 2=b2;generalize v 3=b3
 grind
theorem uZ {v v' w:Nat->Int} (h:∀i,i<4->v i=v' i):dt v w=dt v' w:=by
 unfold dt;rw[h 0 oa,h 1 oa,h 2 oa,h 3 oa]
theorem Kl {S:Nat->Int} (h:sK S) (u:Nat->Int) (a b:Nat):dt u u*Tn (SQ S) u a b=Tn S u a 0*Tn S u b 0+Tn S u a 1*Tn S u b 1+Tn S u a 2*Tn S u b 2+Tn S u a 3*Tn S u b 3:=by
 have e:Tn (SQ S) u a b=dt (iK S (En u a)) (iK S (En u b)):=by
  unfold Tn
  rw[uZ (Ht S (En u a)),sS h]
 rw[e,ml]
 rfl
theorem Ip {S S' X:Nat->Int} {s:Int} (h:∀j,j<16->s*S' j=2*S j+X j) (u:Nat->Int) (a b:Nat):s*Tn S' u a b=2*Tn S u a b+Tn X u a b:=by
 have key:∀v w:Nat->Int,s*dt (iK S' v) w=2*dt (iK S v) w+dt (iK X v) w:=fun v w=>by
  have x:∀i,i<16->X i=s*S' i-2*S i:=fun i hi=>by have:=h i hi;omega
  simp only[dt,iK,Nat.zero_mul,Nat.zero_add,Nat.one_mul,Nat.reduceMul,Nat.reduceAdd,x 0 oa,x 1 oa,x 2 oa,x 3 oa,x 4 oa,x 5 oa,x 6 oa,x 7 oa,x 8 oa,x 9 oa,x 10 oa,x 11 oa,x 12 oa,x 13 oa,x 14 oa,x 15 oa]
  grind
 exact key _ _
theorem I1 (X u:Nat->Int):sm 4 (fun a=>sm 4 (fun b=>Tn X u a b*Tn X u a b))=(dt u u*dt u u)*sm 16 (fun j=>X j*X j):=by
 have h1:∀a,sm 4 (fun b=>Tn X u a b*Tn X u a b)=dt u u*dt (iK X (En u a)) (iK X (En u a)):=fun a=>by
  rw[ml];simp only[sm,Tn];omega
 rw[dY fun a _=>h1 a,gr]
 have h2:sm 4 (fun a=>dt (iK X (En u a)) (iK X (En u a)))=dt u u*sm 16 (fun j=>X j*X j):=by
  have c:=fun i=>ml u (fun k=>X (i*4+k)) (fun k=>X (i*4+k))
  have e:∀i,dt (fun k=>X (i*4+k)) (fun k=>X (i*4+k))=X (i*4)*X (i*4)+X (i*4+1)*X (i*4+1)+X (i*4+2)*X (i*4+2)+X (i*4+3)*X (i*4+3):=fun i=>rfl
  have e2:∀a i,dt (fun k=>X (i*4+k)) (En u a)=iK X (En u a) i:=fun a i=>rfl
  have c0:=c 0;have c1:=c 1;have c2:=c 2;have c3:=c 3
  simp only[e,e2]at c0 c1 c2 c3
  simp only[sm,dt,Nat.zero_mul,Nat.zero_add,Nat.one_mul,Nat.reduceMul,Nat.reduceAdd]at c0 c1 c2 c3|-
  generalize u 0*u 0+u 1*u 1+u 2*u 2+u 3*u 3=N at *
  simp only[Int.mul_add,Int.mul_zero,Int.zero_add]at c0 c1 c2 c3|-
  omega
 rw[h2];grind
theorem uH {X u:Nat->Int} {c:Int} (hc:0<=c) (h:∀j,j<16->-c<=X j/\X j<=c):NB 16 (fun i=>Tn X u (i/4) (i % 4)) (4*c*dt u u):=by
 have hN:0<=dt u u:=by
  have a:=eZ (u 0);have b:=eZ (u 1);have d:=eZ (u 2);have e:=eZ (u 3)
  show 0<=u 0*u 0+u 1*u 1+u 2*u 2+u 3*u 3
  omega
 refine⟨mN oa hN,?_⟩
 have e:sm 16 (fun i=>Tn X u (i/4) (i % 4)*Tn X u (i/4) (i % 4))=sm 4 (fun a=>sm 4 (fun b=>Tn X u a b*Tn X u a b)):=by
  simp only[sm,Nat.reduceDiv,Nat.reduceMod];omega
 rw[e,I1]
 have h2:sm 16 (fun j=>X j*X j)<=16* (c*c):=by
  refine iT (qW (g:=fun _=>c*c) fun i hi=>o8 (h i hi).1 (h i hi).2) ?_
  rw[qk];exact iR _
 have:=mL h2 (eZ (dt u u))
 have e3:4*c*dt u u* (4*c*dt u u)=dt u u*dt u u* (16* (c*c)):=by grind
 omega
theorem NB.sub3 {v:Nat->Nat->Int} {a:Int} (h:NB 16 (fun i=>v (i/4) (i % 4)) a):NB 3 (fun j=>v 0 (j+1)) a/\NB 3 (fun j=>v (j+1) 0) a/\NB 9 (fun i=>v (i/3+1) (i % 3+1)) a/\-a<=v 0 0/\v 0 0<=a:=by
 have h0:=h.at (i:=0) oa
 obtain⟨ha,h⟩:=h
 simp only[sm,Nat.reduceDiv,Nat.reduceMod]at h
 have q:=fun i k=>eZ (v i k)
 have q00:=q 0 0;have q01:=q 0 1;have q02:=q 0 2;have q03:=q 0 3
 have q10:=q 1 0;have q11:=q 1 1;have q12:=q 1 2;have q13:=q 1 3
 have q20:=q 2 0;have q21:=q 2 1;have q22:=q 2 2;have q23:=q 2 3
 have q30:=q 3 0;have q31:=q 3 1;have q32:=q 3 2;have q33:=q 3 3
 refine⟨⟨ha,?_⟩,⟨ha,?_⟩,⟨ha,?_⟩,h0⟩
 ·simp only[sm,Nat.reduceAdd];omega
 ·simp only[sm,Nat.reduceAdd];omega
 ·simp only[sm,Nat.reduceDiv,Nat.reduceMod,Nat.reduceAdd];omega
end Go.Proofs.YtbhahonkhiiilaaGreat.La
