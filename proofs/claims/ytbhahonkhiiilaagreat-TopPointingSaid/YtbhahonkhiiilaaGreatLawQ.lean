/-
  Vectors turned by a quaternion, in the package and in the specification. What the statements on quaternions ask for first, and the equality of quaternions. A quaternion of four numbers as a row's argument: opened and shut.
-/
import Derived.Test.YtbhahonkhiiilaaGreatQuatE
import Derived.Test.YtbhahonkhiiilaaGreatVTow
import Derived.Test.YtbhahonkhiiilaaGreatSkB
set_option linter.unusedSimpArgs false
set_option linter.unusedVariables false
set_option maxRecDepth 100000
set_option maxHeartbeats 4000000
namespace Go.Proofs.YtbhahonkhiiilaaGreat
section
open Go.RowKit PM Dt
def cM (f v:Nat->Int):Nat->Int:=if au f then l5 (bL f) v else fun _=>0
def yG (f v:Nat->Int):Int:=if au f then lQ (bL f) v else 2
def aC (f v:Nat->Int):Nat->Int:=if au f then jt (bL f) v else fun _=>0
def mq (f v:Nat->Int):Int:=if au f then p6 (bL f) v else 2
theorem DF (f v:Nat->Int) (w:World) (hI:∀i,i<4->bu (f i)):Calls Tryz.prog 66 #[.agg (aj f),.agg (ah v)] w fun e w'=>e=.returned (.tuple #[.agg (ah (cM f v)),.int .i64 (yG f v)])/\Below w.heap.size w w':=by
 have M:=aa (fun w=>uG f w hI)
 have AP:=aa (fun w=>wY (bL f) v w)
 unfold xW yO at M
 unfold cM yG
 obtain⟨bv,hv⟩:∃b,au f=b:=⟨_,rfl⟩
 rw[hv]at M|-
 clear hv hI
 generalize l5 (bL f) v=F at *
 generalize lQ (bL f) v=E at *
 generalize bL f=X at *
 cases bv
 ·replace M:Hid (∀w,Calls Tryz.prog 96 #[.agg (aj f)] w fun e w'=>e=.returned (.tuple #[.agg (cH fun _=>0),.int .i64 2])/\Below w.heap.size w w'):=M
  go_enter Tryz.func66,Tryz.ntmps66
  go_upto_region 1 with(fail)
  rw[aQ]
  have p:af (((w.alloc (.cells (aj f) 23)).alloc (.cells (ah v) 25)).alloc (.cells (ah fun _=>0) 25)) w.heap.size (aj f) 23:=((af.new _ _ _).alloc _).alloc _
  have q:af (((w.alloc (.cells (aj f) 23)).alloc (.cells (ah v) 25)).alloc (.cells (ah fun _=>0) 25)) (w.heap.size+1) (ah v) 25:=(af.new' sd).alloc _
  have r:af (((w.alloc (.cells (aj f) 23)).alloc (.cells (ah v) 25)).alloc (.cells (ah fun _=>0) 25)) (w.heap.size+1+1) (ah fun _=>0) 25:=af.new' sd
  have hB:Below w.heap.size w (((w.alloc (.cells (aj f) 23)).alloc (.cells (ah v) 25)).alloc (.cells (ah fun _=>0) 25)):=by go_grown
  generalize((w.alloc (.cells (aj f) 23)).alloc (.cells (ah v) 25)).alloc (.cells (ah fun _=>0) 25)=w0 at *
  go_upto_region 2 with(first|(refine ac ?hw _ _ rfl _ rfl _ _ _ _ p yb rfl ?hi ?_;(case hw=>exact rW);(case hi=>exact rI))|(go_at_call 96;with_reducible refine(M.out _).mono ?_;rintro e w1 ⟨rfl,hb⟩;replace hB:=hB.trans (hb.mono hB.size);replace p:=p.below hb p.lt;replace q:=q.below hb q.lt;replace r:=r.below hb r.lt;clear hb)|(rw[ix];refine ag rfl _ _ _ rfl _ rfl _ rfl _ _ (af.new _ _ _) rI (by simp only[ex]) (kl _) ?_))
  have m:=(af.new w1 (cH fun _=>0) 143).row (cH (fun _=>0))
  have hne:∀x,x<w1.heap.size->x≠w1.heap.size:=fun x hx=>nN hx
  replace p:=(p.alloc (.cells (cH fun _=>0) 143)).rowOther (hne _ p.lt) (cH (fun _=>0))
  replace q:=(q.alloc (.cells (cH fun _=>0) 143)).rowOther (hne _ q.lt) (cH (fun _=>0))
  replace r:=(r.alloc (.cells (cH fun _=>0) 143)).rowOther (hne _ r.lt) (cH (fun _=>0))
  replace hB:=Below.setRow (hB.alloc hB.size (.cells (cH fun _=>0) 143)) (g:=w1.heap.size) hB.size (cH (fun _=>0))
  clear hne
  generalize(w1.alloc (.cells (cH fun _=>0) 143)).setRow w1.heap.size (cH (fun _=>0))=w2 at *
  generalize w1.heap.size=mb at *
  go_wp2_with ((rw[aQ];refine ag rfl _ _ _ rfl _ rfl _ rfl _ _ r rI (by simp only[ad]) (aG _) ?_))
  refine bodyPost_ret (aq rfl _ _ _ _ _ _ _ rfl (r.row (ah (fun _=>0))) yc rfl rI) rfl ?_;refine⟨?_,Below.setRow hB oa _⟩
  rfl
 ·replace M:Hid (∀w,Calls Tryz.prog 96 #[.agg (aj f)] w fun e w'=>e=.returned (.tuple #[.agg (cH X),.int .i64 0])/\Below w.heap.size w w'):=M
  go_enter Tryz.func66,Tryz.ntmps66
  go_upto_region 1 with(fail)
  rw[aQ]
  have p:af (((w.alloc (.cells (aj f) 23)).alloc (.cells (ah v) 25)).alloc (.cells (ah fun _=>0) 25)) w.heap.size (aj f) 23:=((af.new _ _ _).alloc _).alloc _
  have q:af (((w.alloc (.cells (aj f) 23)).alloc (.cells (ah v) 25)).alloc (.cells (ah fun _=>0) 25)) (w.heap.size+1) (ah v) 25:=(af.new' sd).alloc _
  have r:af (((w.alloc (.cells (aj f) 23)).alloc (.cells (ah v) 25)).alloc (.cells (ah fun _=>0) 25)) (w.heap.size+1+1) (ah fun _=>0) 25:=af.new' sd
  have hB:Below w.heap.size w (((w.alloc (.cells (aj f) 23)).alloc (.cells (ah v) 25)).alloc (.cells (ah fun _=>0) 25)):=by go_grown
  generalize((w.alloc (.cells (aj f) 23)).alloc (.cells (ah v) 25)).alloc (.cells (ah fun _=>0) 25)=w0 at *
  go_upto_region 2 with(first|(refine ac ?hw _ _ rfl _ rfl _ _ _ _ p yb rfl ?hi ?_;(case hw=>exact rW);(case hi=>exact rI))|(go_at_call 96;with_reducible refine(M.out _).mono ?_;rintro e w1 ⟨rfl,hb⟩;replace hB:=hB.trans (hb.mono hB.size);replace p:=p.below hb p.lt;replace q:=q.below hb q.lt;replace r:=r.below hb r.lt;clear hb)|(rw[ix];refine ag rfl _ _ _ rfl _ rfl _ rfl _ _ (af.new _ _ _) rI (by simp only[ex]) (kl _) ?_))
  have m:=(af.new w1 (cH fun _=>0) 143).row (cH X)
  have hne:∀x,x<w1.heap.size->x≠w1.heap.size:=fun x hx=>nN hx
  replace p:=(p.alloc (.cells (cH fun _=>0) 143)).rowOther (hne _ p.lt) (cH X)
  replace q:=(q.alloc (.cells (cH fun _=>0) 143)).rowOther (hne _ q.lt) (cH X)
  replace r:=(r.alloc (.cells (cH fun _=>0) 143)).rowOther (hne _ r.lt) (cH X)
  replace hB:=Below.setRow (hB.alloc hB.size (.cells (cH fun _=>0) 143)) (g:=w1.heap.size) hB.size (cH X)
  clear hne
  generalize(w1.alloc (.cells (cH fun _=>0) 143)).setRow w1.heap.size (cH X)=w2 at *
  generalize w1.heap.size=mb at *
  go_wp2_with (first|(refine ac ?hw _ _ rfl _ rfl _ _ _ _ m ye rfl ?hi ?_;(case hw=>exact rW);(case hi=>exact rI))|(refine ac ?hw _ _ rfl _ rfl _ _ _ _ q yc rfl ?hi ?_;(case hw=>exact rW);(case hi=>exact rI))|(go_at_call 97;with_reducible refine(AP.out _).mono ?_;rintro e w3 ⟨rfl,hb⟩;replace hB:=hB.trans (hb.mono hB.size);replace r:=r.below hb r.lt;clear hb)|(refine ag rfl _ _ _ rfl _ rfl _ rfl _ _ r rI (by simp only[ad]) (aG _) ?_))
  refine bodyPost_ret (aq rfl _ _ _ _ _ _ _ rfl (r.row (ah F)) yc rfl rI) rfl ?_;refine⟨?_,Below.setRow hB oa _⟩
  rfl
theorem qS (f v:Nat->Int) (w:World) (hI:∀i,i<4->bu (f i)):Calls Tryz.prog 73 #[.agg (aj f),.agg (ah v)] w fun e w'=>e=.returned (.tuple #[.agg (ah (aC f v)),.int .i64 (mq f v)])/\Below w.heap.size w w':=by
 have M:=aa (fun w=>uG f w hI)
 have AP:=aa (fun w=>zt (bL f) v w)
 unfold xW yO at M
 unfold aC mq
 obtain⟨bv,hv⟩:∃b,au f=b:=⟨_,rfl⟩
 rw[hv]at M|-
 clear hv hI
 generalize jt (bL f) v=F at *
 generalize p6 (bL f) v=E at *
 generalize bL f=X at *
 cases bv
 ·replace M:Hid (∀w,Calls Tryz.prog 96 #[.agg (aj f)] w fun e w'=>e=.returned (.tuple #[.agg (cH fun _=>0),.int .i64 2])/\Below w.heap.size w w'):=M
  go_enter Tryz.func73,Tryz.ntmps73
  go_upto_region 1 with(fail)
  rw[aQ]
  have p:af (((w.alloc (.cells (aj f) 23)).alloc (.cells (ah v) 25)).alloc (.cells (ah fun _=>0) 25)) w.heap.size (aj f) 23:=((af.new _ _ _).alloc _).alloc _
  have q:af (((w.alloc (.cells (aj f) 23)).alloc (.cells (ah v) 25)).alloc (.cells (ah fun _=>0) 25)) (w.heap.size+1) (ah v) 25:=(af.new' sd).alloc _
  have r:af (((w.alloc (.cells (aj f) 23)).alloc (.cells (ah v) 25)).alloc (.cells (ah fun _=>0) 25)) (w.heap.size+1+1) (ah fun _=>0) 25:=af.new' sd
  have hB:Below w.heap.size w (((w.alloc (.cells (aj f) 23)).alloc (.cells (ah v) 25)).alloc (.cells (ah fun _=>0) 25)):=by go_grown
  generalize((w.alloc (.cells (aj f) 23)).alloc (.cells (ah v) 25)).alloc (.cells (ah fun _=>0) 25)=w0 at *
  go_upto_region 2 with(first|(refine ac ?hw _ _ rfl _ rfl _ _ _ _ p yb rfl ?hi ?_;(case hw=>exact rW);(case hi=>exact rI))|(go_at_call 96;with_reducible refine(M.out _).mono ?_;rintro e w1 ⟨rfl,hb⟩;replace hB:=hB.trans (hb.mono hB.size);replace p:=p.below hb p.lt;replace q:=q.below hb q.lt;replace r:=r.below hb r.lt;clear hb)|(rw[ix];refine ag rfl _ _ _ rfl _ rfl _ rfl _ _ (af.new _ _ _) rI (by simp only[ex]) (kl _) ?_))
  have m:=(af.new w1 (cH fun _=>0) 143).row (cH (fun _=>0))
  have hne:∀x,x<w1.heap.size->x≠w1.heap.size:=fun x hx=>nN hx
  replace p:=(p.alloc (.cells (cH fun _=>0) 143)).rowOther (hne _ p.lt) (cH (fun _=>0))
  replace q:=(q.alloc (.cells (cH fun _=>0) 143)).rowOther (hne _ q.lt) (cH (fun _=>0))
  replace r:=(r.alloc (.cells (cH fun _=>0) 143)).rowOther (hne _ r.lt) (cH (fun _=>0))
  replace hB:=Below.setRow (hB.alloc hB.size (.cells (cH fun _=>0) 143)) (g:=w1.heap.size) hB.size (cH (fun _=>0))
  clear hne
  generalize(w1.alloc (.cells (cH fun _=>0) 143)).setRow w1.heap.size (cH (fun _=>0))=w2 at *
  generalize w1.heap.size=mb at *
  go_wp2_with ((rw[aQ];refine ag rfl _ _ _ rfl _ rfl _ rfl _ _ r rI (by simp only[ad]) (aG _) ?_))
  refine bodyPost_ret (aq rfl _ _ _ _ _ _ _ rfl (r.row (ah (fun _=>0))) yc rfl rI) rfl ?_;refine⟨?_,Below.setRow hB oa _⟩
  rfl
 ·replace M:Hid (∀w,Calls Tryz.prog 96 #[.agg (aj f)] w fun e w'=>e=.returned (.tuple #[.agg (cH X),.int .i64 0])/\Below w.heap.size w w'):=M
  go_enter Tryz.func73,Tryz.ntmps73
  go_upto_region 1 with(fail)
  rw[aQ]
  have p:af (((w.alloc (.cells (aj f) 23)).alloc (.cells (ah v) 25)).alloc (.cells (ah fun _=>0) 25)) w.heap.size (aj f) 23:=((af.new _ _ _).alloc _).alloc _
  have q:af (((w.alloc (.cells (aj f) 23)).alloc (.cells (ah v) 25)).alloc (.cells (ah fun _=>0) 25)) (w.heap.size+1) (ah v) 25:=(af.new' sd).alloc _
  have r:af (((w.alloc (.cells (aj f) 23)).alloc (.cells (ah v) 25)).alloc (.cells (ah fun _=>0) 25)) (w.heap.size+1+1) (ah fun _=>0) 25:=af.new' sd
  have hB:Below w.heap.size w (((w.alloc (.cells (aj f) 23)).alloc (.cells (ah v) 25)).alloc (.cells (ah fun _=>0) 25)):=by go_grown
  generalize((w.alloc (.cells (aj f) 23)).alloc (.cells (ah v) 25)).alloc (.cells (ah fun _=>0) 25)=w0 at *
  go_upto_region 2 with(first|(refine ac ?hw _ _ rfl _ rfl _ _ _ _ p yb rfl ?hi ?_;(case hw=>exact rW);(case hi=>exact rI))|(go_at_call 96;with_reducible refine(M.out _).mono ?_;rintro e w1 ⟨rfl,hb⟩;replace hB:=hB.trans (hb.mono hB.size);replace p:=p.below hb p.lt;replace q:=q.below hb q.lt;replace r:=r.below hb r.lt;clear hb)|(rw[ix];refine ag rfl _ _ _ rfl _ rfl _ rfl _ _ (af.new _ _ _) rI (by simp only[ex]) (kl _) ?_))
  have m:=(af.new w1 (cH fun _=>0) 143).row (cH X)
  have hne:∀x,x<w1.heap.size->x≠w1.heap.size:=fun x hx=>nN hx
  replace p:=(p.alloc (.cells (cH fun _=>0) 143)).rowOther (hne _ p.lt) (cH X)
  replace q:=(q.alloc (.cells (cH fun _=>0) 143)).rowOther (hne _ q.lt) (cH X)
  replace r:=(r.alloc (.cells (cH fun _=>0) 143)).rowOther (hne _ r.lt) (cH X)
  replace hB:=Below.setRow (hB.alloc hB.size (.cells (cH fun _=>0) 143)) (g:=w1.heap.size) hB.size (cH X)
  clear hne
  generalize(w1.alloc (.cells (cH fun _=>0) 143)).setRow w1.heap.size (cH X)=w2 at *
  generalize w1.heap.size=mb at *
  go_wp2_with (first|(refine ac ?hw _ _ rfl _ rfl _ _ _ _ m ye rfl ?hi ?_;(case hw=>exact rW);(case hi=>exact rI))|(refine ac ?hw _ _ rfl _ rfl _ _ _ _ q yc rfl ?hi ?_;(case hw=>exact rW);(case hi=>exact rI))|(go_at_call 99;with_reducible refine(AP.out _).mono ?_;rintro e w3 ⟨rfl,hb⟩;replace hB:=hB.trans (hb.mono hB.size);replace r:=r.below hb r.lt;clear hb)|(refine ag rfl _ _ _ rfl _ rfl _ rfl _ _ r rI (by simp only[ad]) (aG _) ?_))
  refine bodyPost_ret (aq rfl _ _ _ _ _ _ _ rfl (r.row (ah F)) yc rfl rI) rfl ?_;refine⟨?_,Below.setRow hB oa _⟩
  rfl
end
section
open Go.RowKit PM Dt
theorem mg (n:Int):∃e,1073741824*gA n=n+e/\-536870912<=e/\e<=536870912:=⟨1073741824*gA n-n,oa,by unfold gA;omega,by unfold gA;omega⟩
theorem av (x:Int):0<=x*x:=by
 by_cases h:0<=x
 ·exact mN h h
 ·exact Int.mul_nonneg_of_nonpos_of_nonpos oa oa
theorem ov {a b:Int} (h0:0<=a) (h:a<=b):a*a<=b*b:=mM h h h0 oa
theorem kA {a b:Int} (ha:0<=a) (hb:0<=b) (h:a*a<b*b):a<b:=by
 apply bC;intro hc
 have:=ov hb (show b<=a by omega)
 omega
theorem EE (a b c d:Int):(a+b+c+d)* (a+b+c+d)<=4* (a*a+b*b+c*c+d*d):=by
 have h1:=av (a-b)
 have h2:=av (b-c)
 have h3:=av (a-c)
 have h4:=av (a-d)
 have h5:=av (b-d)
 have h6:=av (c-d)
 have e:4* (a*a+b*b+c*c+d*d)=(a+b+c+d)* (a+b+c+d)+((a-b)* (a-b)+(b-c)* (b-c)+(a-c)* (a-c)+(a-d)* (a-d)+(b-d)* (b-d)+(c-d)* (c-d)):=by grind
 omega
theorem j1 (a:Int):(a.natAbs:Int)* (a.natAbs:Int)=a*a:=Int.natAbs_mul_self' a
theorem uE (a:Int) {b:Int} (hb:0<b):∃d,2* (b*b_ a b)=2*a+d/\-b<=d/\d<=b:=by
 refine⟨2* (b*b_ a b)-2*a,oa,?_,?_⟩
 all_goals
  have h1:=Int.mul_ediv_self_le (x:=2*a+b) (k:=2*b) oa
  have h2:=Int.lt_mul_ediv_self_add (x:=2*a+b) (k:=2*b) oa
  have e:2*b* ((2*a+b)/(2*b))=2* (b*b_ a b):=by unfold b_;rw[Int.mul_assoc]
  rw[e]at h1 h2
  omega
theorem ow {O N F u d:Int} (h:2* (N*u)=2* (O*F)+d):4* ((N*N)* (u*u))=4* ((O*O)* (F*F))+4* (O* (F*d))+d*d:=by
 have e:4* ((N*N)* (u*u))=(2* (N*u))* (2* (N*u)):=by grind
 rw[e,h]
 grind
theorem BH {m0 m1 m2 m3 s0 s1 s2 s3 t0 t1 t2 t3 g0 g1 g2 g3:Int} (i0:4*m0=4* (1073741824*1073741824*s0)+4* (1073741824*t0)+g0) (i1:4*m1=4* (1073741824*1073741824*s1)+4* (1073741824*t1)+g1)
 (i2:4*m2=4* (1073741824*1073741824*s2)+4* (1073741824*t2)+g2) (i3:4*m3=4* (1073741824*1073741824*s3)+4* (1073741824*t3)+g3):
 4*m0+4*m1+4*m2+4*m3=4611686018427387904* (s0+s1+s2+s3)+4294967296* (t0+t1+t2+t3)+(g0+g1+g2+g3):=oa
theorem Ih {r0 r1 r2 r3 t0 t1 t2 t3:Int} (p0:-r0<=t0/\t0<=r0) (p1:-r1<=t1/\t1<=r1) (p2:-r2<=t2/\t2<=r2) (p3:-r3<=t3/\t3<=r3):-(r0+r1+r2+r3)<=t0+t1+t2+t3/\t0+t1+t2+t3<=r0+r1+r2+r3:=oa
theorem Jd {M g0 g1 g2 g3:Int} (p0:-M<=g0/\g0<=M) (p1:-M<=g1/\g1<=M) (p2:-M<=g2/\g2<=M) (p3:-M<=g3/\g3<=M) (n0:0<=g0) (n1:0<=g1) (n2:0<=g2) (n3:0<=g3):0<=g0+g1+g2+g3/\g0+g1+g2+g3<=4*M:=oa
theorem FK {M X Y Z R C:Int} (hY:-R<=Y/\Y<=R) (hS:M<=X) (hAN:4*R<=C) (hZ:0<=Z/\Z<=4*M):4611686018427387904*M-1073741824*C<=4611686018427387904*X+4294967296*Y+Z:=oa
theorem FM {M X Y Z R C N:Int} (hY:-R<=Y/\Y<=R) (hS:X<M+2*N+1) (hAN:4*R<=C) (hZ:0<=Z/\Z<=4*M) (hN:35184372088832*N<=M):4611686018427387904*X+4294967296*Y+Z<=4611686018427387904*M+1073741824*C+262148*M:=oa
theorem AN {F0 F1 F2 F3 u0 u1 u2 u3 d0 d1 d2 d3 a0 a1 a2 a3 N c:Int} (hN:35184372088832<=N)
 (hS1:N*N<=F0*F0+F1*F1+F2*F2+F3*F3) (hS2:F0*F0+F1*F1+F2*F2+F3*F3<(N+1)* (N+1))
 (h0:2* (N*u0)=2* (1073741824*F0)+d0) (h1:2* (N*u1)=2* (1073741824*F1)+d1) (h2:2* (N*u2)=2* (1073741824*F2)+d2) (h3:2* (N*u3)=2* (1073741824*F3)+d3)
 (b0:-N<=d0/\d0<=N) (b1:-N<=d1/\d1<=N) (b2:-N<=d2/\d2<=N) (b3:-N<=d3/\d3<=N)
 (e0:-a0<=F0/\F0<=a0) (e1:-a1<=F1/\F1<=a1) (e2:-a2<=F2/\F2<=a2) (e3:-a3<=F3/\F3<=a3) (hA:4* (a0+a1+a2+a3)<=c*N):
 4611686018427387904-1073741824*c<=4* (u0*u0+u1*u1+u2*u2+u3*u3)/\4* (u0*u0+u1*u1+u2*u2+u3*u3)<=4611686018427387904+1073741824*c+262148:=by
 have i0:=ow h0
 have i1:=ow h1
 have i2:=ow h2
 have i3:=ow h3
 have p0:=bR e0.1 e0.2 b0.1 b0.2
 have p1:=bR e1.1 e1.2 b1.1 b1.2
 have p2:=bR e2.1 e2.2 b2.1 b2.2
 have p3:=bR e3.1 e3.2 b3.1 b3.2
 have q0:=bR b0.1 b0.2 b0.1 b0.2
 have q1:=bR b1.1 b1.2 b1.1 b1.2
 have q2:=bR b2.1 b2.2 b2.1 b2.2
 have q3:=bR b3.1 b3.2 b3.1 b3.2
 have n0:=av d0
 have n1:=av d1
 have n2:=av d2
 have n3:=av d3
 clear h0 h1 h2 h3 b0 b1 b2 b3 e0 e1 e2 e3
 have hAN:4* (a0*N+a1*N+a2*N+a3*N)<=c* (N*N):=by
  have:=mR hA (show 0<=N by omega)
  have e:4* (a0+a1+a2+a3)*N=4* (a0*N+a1*N+a2*N+a3*N):=by grind
  have e2:c*N*N=c* (N*N):=Int.mul_assoc _ _ _
  omega
 have hNN:35184372088832*N<=N*N:=mR hN oa
 have hSS:(N+1)* (N+1)=N*N+2*N+1:=by grind
 have hPos:0<N*N:=Int.mul_pos oa oa
 have hu:(N*N)* (4* (u0*u0+u1*u1+u2*u2+u3*u3))=4* ((N*N)* (u0*u0))+4* ((N*N)* (u1*u1))+4* ((N*N)* (u2*u2))+4* ((N*N)* (u3*u3)):=by grind
 have hsum:=hu.trans (BH i0 i1 i2 i3)
 have hY:=Ih p0 p1 p2 p3
 have hZ:=Jd q0 q1 q2 q3 n0 n1 n2 n3
 have hS2':F0*F0+F1*F1+F2*F2+F3*F3<N*N+2*N+1:=by rw[<-hSS];exact hS2
 have e1:N*N* (4611686018427387904-1073741824*c)=4611686018427387904* (N*N)-1073741824* (c* (N*N)):=by
  generalize N*N=M
  rw[Int.mul_sub,Int.mul_comm M,Int.mul_left_comm,Int.mul_comm M]
 have e2:N*N* (4611686018427387904+1073741824*c+262148)=4611686018427387904* (N*N)+1073741824* (c* (N*N))+262148* (N*N):=by
  generalize N*N=M
  rw[Int.mul_add,Int.mul_add,Int.mul_comm M,Int.mul_left_comm,Int.mul_comm M,Int.mul_comm M]
 have lo:N*N* (4611686018427387904-1073741824*c)<=N*N* (4* (u0*u0+u1*u1+u2*u2+u3*u3)):=by
  rw[e1,hsum]
  exact FK hY hS1 hAN hZ
 have hi:N*N* (4* (u0*u0+u1*u1+u2*u2+u3*u3))<=N*N* (4611686018427387904+1073741824*c+262148):=by
  rw[e2,hsum]
  exact FM hY hS2' hAN hZ hNN
 exact⟨mC lo hPos,mC hi hPos⟩
theorem DL {a0 a1 a2 a3 N:Int} (hN:35184372088832<=N) (n0:0<=a0) (n1:0<=a1) (n2:0<=a2) (n3:0<=a3) (hS2:a0*a0+a1*a1+a2*a2+a3*a3<(N+1)* (N+1)):4* (a0+a1+a2+a3)<=9*N:=by
 have h:=EE a0 a1 a2 a3
 apply bC;intro hc
 have h2:(9*N+1)* (9*N+1)<=(4* (a0+a1+a2+a3))* (4* (a0+a1+a2+a3)):=ov oa oa
 have e1:(4* (a0+a1+a2+a3))* (4* (a0+a1+a2+a3))=16* ((a0+a1+a2+a3)* (a0+a1+a2+a3)):=by grind
 have e2:(9*N+1)* (9*N+1)=81* (N*N)+18*N+1:=by grind
 have e3:(N+1)* (N+1)=N*N+2*N+1:=by grind
 have hNN:35184372088832*N<=N*N:=mR hN oa
 omega
theorem lZ {f:Nat->Int} (hk:cx f=true):kW f=0/\∃N:Nat,gW f=N/\(N:Int)*N<=f 0*f 0+f 1*f 1+f 2*f 2/\f 0*f 0+f 1*f 1+f 2*f 2<((N:Int)+1)* ((N:Int)+1)/\N<2199023255552:=by
 obtain⟨h1,h2,h3⟩:=jd hk
 have hh:ig [f 0,f 1,f 2]=((jJ f:Nat):Int):=rfl
 have hf:=nB (q:=((jJ f:Nat):Int)) oa oa
 have e:=qd f
 refine⟨by unfold kW;rw[hk,if_pos rfl,hh];exact hf.2,jJ f,by unfold gW;rw[hk,if_pos rfl,hh];exact hf.1,?_,?_,h3⟩
 ·rw[<-e];exact_mod_cast h1
 ·rw[<-e];exact_mod_cast h2
theorem wm {a m L:Nat}:(a*m/L*L)* (a*m/L*L)<=(a*a)* (m*m):=by
 have h:=Nat.div_mul_le_self (a*m) L
 have:=Nat.mul_le_mul h h
 have e:(a*m)* (a*m)=(a*a)* (m*m):=by grind
 omega
theorem fE {f:Nat->Int} {m:Int} (h:oD f m):(∀i,i<3->-m<=ca f m i/\ca f m i<=m)/\(∀i,i<3->ca f m i≠0->(ca f m i<0↔f i<0))/\
 ca f m 0*ca f m 0+ca f m 1*ca f m 1+ca f m 2*ca f m 2<=m*m:=by
 obtain⟨hk,h0,h1⟩:=h
 have hf:ca f m=if(gJ f:Int)<=m then f else lk f m:=by unfold ca;rw[if_pos ⟨hk,h0,h1⟩]
 obtain⟨M,rfl⟩:∃M:Nat,m=M:=⟨m.toNat,oa⟩
 have hS:=qd f
 have hp:=fun i hi=>oP hk i hi
 have hL:¬gJ f*gJ f<om f:=fun hh=>Nat.lt_irrefl _ ((kG hk _).2 hh)
 have hS':((om f:Nat):Int)=f 0*f 0+f 1*f 1+f 2*f 2:=hS
 by_cases hl:(gJ f:Int)<=M
 ·rw[hf,if_pos hl]
  refine⟨fun i hi=>by have:=hp i hi;omega,fun i hi _=>Iff.rfl,?_⟩
  have h3:gJ f*gJ f<=M*M:=Nat.mul_le_mul oa oa
  rw[<-hS']
  have:om f<=M*M:=oa
  exact_mod_cast this
 ·rw[hf,if_neg hl]
  unfold lk
  rw[Int.toNat_natCast]
  generalize gJ f=L at *
  have hL0:0<L:=oa
  have hle:=fun i hi=>wU (m:=M) hL0 (hp i hi)
  have sq:∀i,jh (f i) M L*jh (f i) M L=(((f i).natAbs*M/L* ((f i).natAbs*M/L):Nat):Int):=fun i=>by
   unfold jh
   split
   ·rw[Int.neg_mul_neg,Int.natCast_mul]
   ·rw[Int.natCast_mul]
  refine⟨fun i hi=>?_,fun i hi hne=>?_,?_⟩
  ·have:=hle i hi
   unfold jh
   generalize(f i).natAbs*M/L=q at *
   split<;>omega
  ·unfold jh at hne|-
   generalize(f i).natAbs*M/L=q at *
   split at hne<;>rename_i hc
   ·rw[if_pos hc];omega
   ·rw[if_neg hc];omega
  ·rw[sq,sq,sq]
   have s0:=wm (a:=(f 0).natAbs) (m:=M) (L:=L)
   have s1:=wm (a:=(f 1).natAbs) (m:=M) (L:=L)
   have s2:=wm (a:=(f 2).natAbs) (m:=M) (L:=L)
   have hsq:om f=(f 0).natAbs* (f 0).natAbs+(f 1).natAbs* (f 1).natAbs+(f 2).natAbs* (f 2).natAbs:=by
    unfold om
    rw[dj,dj,dj,ib]
    omega
   rw[hsq]at hL
   generalize(f 0).natAbs*M/L=q0 at *
   generalize(f 1).natAbs*M/L=q1 at *
   generalize(f 2).natAbs*M/L=q2 at *
   generalize(f 0).natAbs* (f 0).natAbs=A0 at *
   generalize(f 1).natAbs* (f 1).natAbs=A1 at *
   generalize(f 2).natAbs* (f 2).natAbs=A2 at *
   have key:(L*L)* (q0*q0+q1*q1+q2*q2)<=(L*L)* (M*M):=by
    have e:(L*L)* (q0*q0+q1*q1+q2*q2)=(q0*L)* (q0*L)+(q1*L)* (q1*L)+(q2*L)* (q2*L):=by grind
    have e2:A0* (M*M)+A1* (M*M)+A2* (M*M)=(A0+A1+A2)* (M*M):=by grind
    have e3:(A0+A1+A2)* (M*M)<=(L*L)* (M*M):=Nat.mul_le_mul oa (ns _)
    rw[e]
    omega
   have:=Nat.le_of_mul_le_mul_left key (Nat.mul_pos hL0 hL0)
   exact_mod_cast this
theorem sR (a b:Nat->Int):gc (ah a) 0 (ah b).toList=ah b:=by unfold ah;rfl
theorem Bk {S:Nat->e_} {n:Nat}:i5 S n=true↔(0<n/\n<=16/\∀k,k<n->dX (S k)=true):=by
 unfold i5
 simp only[Bool.and_eq_true,decide_eq_true_eq,List.all_eq_true,List.mem_range]
end
end Go.Proofs.YtbhahonkhiiilaaGreat
