/-
  Shortened vectors, in the package: sums of squares, the least integer that is not below a norm, quotients toward zero. Shortened vectors, in the package: the least integer that is not below a norm. Shortened vectors, in the package: quotients toward zero, and Limit.
-/
import Derived.Test.YtbhahonkhiiilaaGreatQuatD
set_option linter.unusedSimpArgs false
set_option linter.unusedVariables false
set_option maxRecDepth 100000
set_option maxHeartbeats 2000000
namespace Go.Proofs.YtbhahonkhiiilaaGreat
open Go.RowKit PM Dt
theorem rt:∀(xs:List Int),(∀k,k<xs.length->-4398046511104<=xs.getD k 0/\xs.getD k 0<=4398046511104)->i6 xs<=xs.length*19342813113834066795298816
 |[],_=>by rw[ib];exact Nat.zero_le _
 | x::xs,hi=>by
   have h1:=rt xs (fun i h=>by have:=hi (i+1) (by simpa using h);simpa using this)
   have hx:-4398046511104<=x/\x<=4398046511104:=by have:=hi 0 sd;simpa using this
   have h2:x.natAbs*x.natAbs<=19342813113834066795298816:=nk (Nat.mul_le_mul (show x.natAbs<=4398046511104 by omega) (show x.natAbs<=4398046511104 by omega)) da
   rw[dj,List.length_cons]
   omega
theorem p9 (xs:List Int) (v:Value) (w:World) (hv:iL w v xs) (hx:∀k,k<xs.length->-4398046511104<=xs.getD k 0/\xs.getD k 0<=4398046511104) (hl:xs.length<=3):
 Calls Tryz.prog 105 #[v] w fun e w'=>e=.returned (.tuple #[.int .u64 ((i6 xs/18446744073709551616:Nat):Int),.int .u64 ((i6 xs % 18446744073709551616:Nat):Int)])/\w=w':=by
 have hlenI:∀a c n,v=.slice a n c->n=xs.length:=by
  rintro a c n rfl
  rcases hv with⟨h,a',c',hh⟩|⟨_,b,off,cap,hh,_⟩
  ·cases hh;rw[h];rfl
  ·cases hh;rfl
 obtain⟨va,vc,n,rfl⟩:∃a c n,v=.slice a n c:=by
  rcases hv with⟨h,a',c',hh⟩|⟨_,b,off,cap,hh,_⟩
  ·exact⟨_,_,_,hh⟩
  ·exact⟨_,_,_,hh⟩
 have hn:=hlenI _ _ _ rfl
 clear hlenI
 have hT:i6 xs<=58028439341502200385896448:=by have:=rt xs hx;omega
 have HN:=aa hn
 have HV:=aa hv
 have HX:=aa hx
 have HTOT:=aa (fun k=>nk (nP xs k) hT)
 have hn8:n<=3:=oa
 clear hn hv hx hT hl
 go_enter Tryz.func105,Tryz.ntmps105
 go_wp2_with (fail)
 go_loopg [2,3,12] n (fun g hv lv iv wr=>∃hi lo k:Nat,hv=.int .u64 hi/\lv=.int .u64 lo/\iv=.int .i64 k/\Hid (hi*18446744073709551616+lo=i6 (xs.take k))/\Hid (lo<18446744073709551616)/\g+k=n/\w=wr)
 case atStart=>exact⟨0,0,0,rfl,rfl,rfl,by show _=_;exact ib.symm,by show _<_;omega,oa,rfl⟩
 case round=>
  obtain⟨hi,lo,k,rfl,rfl,rfl,hs,hl,hk,rfl⟩:=hrel
  by_cases hkn:k<n
  ·have hdk:decide ((k:Int)<(n:Int))=true:=dT oa
   have hdk':decide (k<n)=true:=dT oa
   obtain⟨b,off,rfl,hcell⟩:∃b off,va=some ⟨b,off,none⟩/\w.cell? ⟨b,off+k,none⟩=some (.int .i64 (xs.getD k 0)):=by
    rcases HV.out with⟨h,_⟩|⟨_,b,off,cap,hh,_,hc⟩
    ·have:=HN.out;rw[h]at this;simp at this;omega
    ·cases hh;exact⟨b,off,rfl,hc k hkn⟩
   have hI:=HX.out k (by have:=HN.out;omega)
   have hsx:=iY xs k (by have:=HN.out;omega)
   have htot:=HTOT.out (k+1)
   obtain⟨a,ha⟩:∃a,xs.getD k 0=a:=⟨_,rfl⟩
   rw[ha]at hsx hcell hI
   obtain⟨A,hA⟩:∃A,A=a.natAbs:=⟨_,rfl⟩
   rw[<-hA]at hsx
   have hAA:A*A<=19342813113834066795298816:=nk (Nat.mul_le_mul (show A<=4398046511104 by omega) (show A<=4398046511104 by omega)) da
   obtain⟨p,hp⟩:∃p,p=A*A/18446744073709551616:=⟨_,rfl⟩
   obtain⟨q,hq⟩:∃q,q=A*A % 18446744073709551616:=⟨_,rfl⟩
   have hpq:p*18446744073709551616+q=A*A:=by rw[hp,hq];omega
   obtain⟨r,hr⟩:∃r,r=(lo+q) % 18446744073709551616:=⟨_,rfl⟩
   obtain⟨c,hc⟩:∃c,c=(lo+q)/18446744073709551616:=⟨_,rfl⟩
   have hqb:q<18446744073709551616:=by rw[hq];omega
   have hrb:r<18446744073709551616:=by rw[hr];omega
   have hrc:lo+q=c*18446744073709551616+r:=by rw[hr,hc];omega
   have hnew:(hi+(p+c))*18446744073709551616+r=i6 (xs.take (k+1)):=vA hs.out hpq hrc hsx
   have hl':=hl.out
   have hadd:=rg lo q r c hl' hqb hrc hrb
   have hPb:hi+(p+c)<=4000000:=oa
   have hw1:IntKind.u64.wrap ((p:Int)+(c:Int))=((p+c:Nat):Int):=by rw[IntKind.wrap_u64];omega
   have hw2:IntKind.u64.wrap ((hi:Int)+((p:Int)+(c:Int)))=((hi+(p+c):Nat):Int):=by rw[IntKind.wrap_u64];omega
   have hw3:IntKind.i64.wrap ((k:Int)+1)=((k+1:Nat):Int):=by rw[wI];omega
   have hwn:wrap64 (-a)=-a:=by unfold wrap64;omega
   have hwA:IntKind.u64.wrap (A:Int)=(A:Int):=by rw[IntKind.wrap_u64];omega
   have hM:Hid ([wrap64 (-a)].foldl mx a=(A:Int)):=by show _=_;rw[hwn];show mx a (-a)=_;unfold mx;split<;>omega
   have HA64:=aa (show A<18446744073709551616 by omega)
   have HP:=aa hp
   have HQ:=aa hq
   have HR:=aa (show Hid (r<18446744073709551616)from hrb)
   have HNEW:=aa hnew
   clear hpq hI hA hp hq hr hc hqb hrb hrc hl' hPb hnew htot hsx hAA hs ha hwn
   go_upto_region 4 with(fail)
   go_upto_region 5 with(refine fH rfl rfl _ _ _ hM.out rfl ?_)
   go_upto_region 6 with(go_at_call 36;refine(eJ _ _ _ HA64.out HA64.out).mono ?_;rintro e w1 ⟨rfl,rfl⟩;rw[<-HP.out,<-HQ.out])
   go_upto_region 7 with(fail)
   go_upto_region 8 with(simp only[hadd])
   go_upto_region 9 with(fail)
   go_wp2_with (fail)
   go_roundg (n-(k+1))
   case rel=>exact⟨hi+(p+c),r,k+1,rfl,rfl,rfl,HNEW.out,HR.out,oa,rfl⟩
   case measure=>omega
  ·have hkn2:k=n:=oa
   have hdk:decide ((k:Int)<(n:Int))=false:=dF oa
   have hdk':decide (k<n)=false:=dF oa
   have hs2:=hs.out
   rw[hkn2,HN.out,List.take_length]at hs2
   have hl':=hl.out
   have e1:i6 xs/18446744073709551616=hi:=oa
   have e2:i6 xs % 18446744073709551616=lo:=oa
   have E1:=aa e1
   have E2:=aa e2
   clear hs2 hkn2 hs hl' e1 e2
   go_wp2_with (fail)
   go_ret2
   exact⟨by rw[E1.out,E2.out];rfl,rfl⟩
def om (f:Nat->Int):Nat:=i6 [f 0,f 1,f 2]
def jJ (f:Nat->Int):Nat:=fY (om f)
def gJ (f:Nat->Int):Nat:=jJ f+if om f=jJ f*jJ f then 0 else 1
theorem Ju {f:Nat->Int} (h:cx f=true):om f<=3626777458843887524118528:=by
 have q:∀i,i<3->f i*f i<=1208925819614629174706176:=fun i hi=>by
  have hh:=(bE _).1 ((bK f).1 h i hi)
  exact(bR (P:=1099511627776) (R:=1099511627776) hh.1 hh.2 hh.1 hh.2).2
 have e:=qd f
 have q0:=q 0 oa
 have q1:=q 1 oa
 have q2:=q 2 oa
 unfold om
 omega
theorem jd {f:Nat->Int} (h:cx f=true):jJ f*jJ f<=om f/\om f<(jJ f+1)* (jJ f+1)/\jJ f<2199023255552:=by
 have hS:=Ju h
 unfold jJ
 generalize om f=S at *
 have h4:S<4^200:=Nat.lt_of_le_of_lt hS da
 exact⟨(gN h4).1 (ns _),(fc h4).1 (nw _),(fc h4).2 oa⟩
theorem kG {f:Nat->Int} (h:cx f=true) (m:Nat):m<gJ f↔m*m<om f:=by
 obtain⟨h1,h2,h3⟩:=jd h
 unfold gJ
 generalize jJ f=N at *
 generalize om f=S at *
 have key:∀a b:Nat,a<=b->a*a<=b*b:=fun a b h=>Nat.mul_le_mul h h
 split
 ·rename_i he
  constructor
  ·intro hm
   have:(m+1)* (m+1)<=N*N:=key _ _ oa
   have e:(m+1)* (m+1)=m*m+2*m+1:=by rw[Nat.add_mul,Nat.mul_add];omega
   omega
  ·intro hm
   apply bC;intro hc
   have:=key N m oa
   omega
 ·rename_i hne
  constructor
  ·intro hm
   have:=key m N oa
   omega
  ·intro hm
   apply bC;intro hc
   have:=key (N+1) m oa
   omega
theorem AV {f:Nat->Int} (h:cx f=true):gJ f<=2199023255552:=by
 obtain⟨_,_,h3⟩:=jd h
 unfold gJ;split<;>omega
theorem E_ {f:Nat->Int} (h:cx f=true):dG (n3 f)=(jJ f:Int):=by
 obtain⟨_,_,h3⟩:=jd h
 exact(nB (q:=n3 f) (by unfold n3 ig;show _<=((jJ f:Nat):Int);omega) (by unfold n3 ig;show((jJ f:Nat):Int)<=_;omega)).1
theorem oP {f:Nat->Int} (h:cx f=true) (i:Nat) (hi:i<3):(f i).natAbs<=gJ f:=by
 apply bC;intro hc
 have h1:¬((gJ f)* (gJ f)<om f):=fun hh=>Nat.lt_irrefl _ ((kG h _).2 hh)
 have e:=qd f
 have h2:(gJ f+1)* (gJ f+1)<=(f i).natAbs* (f i).natAbs:=Nat.mul_le_mul oa oa
 have h3:(gJ f+1)* (gJ f+1)=gJ f*gJ f+2*gJ f+1:=by rw[Nat.add_mul,Nat.mul_add];omega
 have h4:(f i).natAbs* (f i).natAbs<=om f:=by
  unfold om
  rw[dj,dj,dj,ib]
  have:i=0\/i=1\/i=2:=oa
  rcases this with rfl|rfl|rfl<;>omega
 omega
theorem qG {P:Program} {ops:Array Oper} {rest:List Oper} {o:Oper} {a:Act} {w:World} {Q:Exit->Act->World->Prop} (hg:o.guard=none) {t e:TypeId} {x0:Operand} (ho:o.op=.buildSlice t 1 #[(0,x0)])
 {n0:Int} (h0:a.eval x0=.int .i64 n0)
 (hu:P.underlying t=some (.slice e)) (hsz:(P.info? e).map (·.size)=some 1) (hz:((P.info? e).bind (·.zero)).isSome=true)
 (h:∀b w',bl w w'->af w' b #[.int .i64 n0] e->wpList P ops Q rest (a.put o.dst (.slice (some ⟨b,0,none⟩) 1 1)) w'):wpList P ops Q (o::rest) a w:=
 qH hg t e 1 _ ho [n0] hu hsz hz rfl oa da (by simp[h0]) h
theorem Kc {w:World} {b:Nat} {x:Int} {t:TypeId} (h:af w b #[.int .i64 x] t):iL w (.slice (some ⟨b,0,none⟩) 1 1) [x]:=
 Or.inr ⟨by simp,b,0,1,rfl,h.lt,fun k hk=>by
  have hk:k<1:=hk
  obtain rfl:k=0:=oa
  exact h.cellIs rfl⟩
theorem u_ (f:Nat->Int) (b:Nat) (t:TypeId) (w:World) (h:cx f=true) (p:af w b (ah f) t):
 Calls Tryz.prog 105 #[.slice (some ⟨b,0,none⟩) 3 3] w fun e w'=>e=.returned (.tuple #[.int .u64 ((om f/18446744073709551616:Nat):Int),.int .u64 ((om f % 18446744073709551616:Nat):Int)])/\w=w':=
 p9 [f 0,f 1,f 2] _ w (nY p) (fun k hk=>by
  have hk:k<3:=hk
  have q:=fun i hi=>(bE _).1 ((bK f).1 h i hi)
  have:k=0\/k=1\/k=2:=oa
  rcases this with rfl|rfl|rfl
  ·have:=q 0 oa;exact⟨by show _<=f 0;omega,by show f 0<=_;omega⟩
  ·have:=q 1 oa;exact⟨by show _<=f 1;omega,by show f 1<=_;omega⟩
  ·have:=q 2 oa;exact⟨by show _<=f 2;omega,by show f 2<=_;omega⟩) (by show 3<=3;omega)
theorem vF (n:Nat) (b:Nat) (t:TypeId) (w:World) (h:n<2199023255552) (p:af w b #[.int .i64 (n:Int)] t):
 Calls Tryz.prog 105 #[.slice (some ⟨b,0,none⟩) 1 1] w fun e w'=>e=.returned (.tuple #[.int .u64 ((n*n/18446744073709551616:Nat):Int),.int .u64 ((n*n % 18446744073709551616:Nat):Int)])/\w=w':=
 (p9 [(n:Int)] _ w (Kc p) (fun k hk=>by
   have hk:k<1:=hk
   obtain rfl:k=0:=oa
   exact⟨by show _<=(n:Int);omega,by show(n:Int)<=_;omega⟩) (by show 1<=3;omega)).mono fun e w' hh=>by
    rw[dj,ib]at hh
    simpa using hh
theorem ws (f:Nat->Int) (w:World) (hk:cx f=true):Calls Tryz.prog 91 #[.agg (ah f)] w fun e w'=>e=.returned (.int .i64 (gJ f:Int))/\Below w.heap.size w w':=by
 have HH:=aa (fun b w p=>Db f b w 25 (nK hk) p)
 have S3:=aa (fun b w p=>u_ f b 25 w hk p)
 obtain⟨_,_,hn⟩:=jd hk
 rw[E_ hk]at HH
 have HN:=aa hn
 obtain⟨L,hL⟩:∃L,gJ f=L:=⟨_,rfl⟩
 rw[hL]
 unfold gJ at hL
 have HL:=aa hL
 clear hk hn hL
 generalize gu (n3 f)=E at *
 generalize jJ f=N at *
 generalize om f=S at *
 have S1:=aa (fun b w p=>vF N b 2 w HN.out p)
 obtain⟨sh,hsh⟩:∃x,S/18446744073709551616=x:=⟨_,rfl⟩
 obtain⟨sl,hsl⟩:∃x,S % 18446744073709551616=x:=⟨_,rfl⟩
 obtain⟨nh,hnh⟩:∃x,N*N/18446744073709551616=x:=⟨_,rfl⟩
 obtain⟨nl,hnl⟩:∃x,N*N % 18446744073709551616=x:=⟨_,rfl⟩
 have hiff:S=N*N↔sh=nh/\sl=nl:=oa
 rw[hsh,hsl]at S3
 rw[hnh,hnl]at S1
 have HE:=aa hiff
 clear hsh hsl hnh hnl hiff
 go_enter Tryz.func91,Tryz.ntmps91
 go_upto_region 1 with(fail)
 have p:af (w.alloc (.cells (ah f) 25)) w.heap.size (ah f) 25:=af.new _ _ _
 have hB:Below w.heap.size w (w.alloc (.cells (ah f) 25)):=by go_grown
 generalize w.alloc (.cells (ah f) 25)=w0 at *
 go_upto_region 2 with(go_at_call 15;refine(HH.out _ _ p).mono ?_;rintro e w1 ⟨rfl,rfl⟩)
 go_upto_region 3 with(go_at_call 105;refine(S3.out _ _ p).mono ?_;rintro e w1 ⟨rfl,rfl⟩)
 go_upto_region 4 with(first|(refine qG (n0:=(N:Int)) rfl rfl rfl Tryz.underlying54 ke ke (fun b1 wn hm n1=>?_);replace hB:=hB.trans (hm.mono hB.size))|(go_at_call 105;refine(S1.out _ _ n1).mono ?_;rintro e w1 ⟨rfl,rfl⟩))
 have hw:IntKind.i64.wrap ((N:Int)+1)=((N+1:Nat):Int):=by have:=HN.out;rw[wI];omega
 by_cases d1:nh=sh
 ·by_cases d2:nl=sl
  ·subst d1 d2
   go_wp2_with (fail)
   go_ret
   refine⟨?_,hB⟩
   rw[<-HL.out,if_pos (HE.out.2 sd)];rfl
  ·subst d1
   have e2:((nl:Int) !=(sl:Int))=true:=by simpa using(by omega:¬(nl:Int)=(sl:Int))
   have e3:((nl:Int)==(sl:Int))=false:=by simpa using(by omega:¬(nl:Int)=(sl:Int))
   go_wp2_with (fail)
   go_ret
   refine⟨?_,hB⟩
   rw[<-HL.out,if_neg (fun h=>d2 (HE.out.1 h).2.symm)];rfl
 ·have e2:((nh:Int) !=(sh:Int))=true:=by simpa using(by omega:¬(nh:Int)=(sh:Int))
  have e3:((nh:Int)==(sh:Int))=false:=by simpa using(by omega:¬(nh:Int)=(sh:Int))
  go_wp2_with (fail)
  go_ret
  refine⟨?_,hB⟩
  rw[<-HL.out,if_neg (fun h=>d1 (HE.out.1 h).1.symm)];rfl
def jh (a:Int) (m n:Nat):Int:=if a<0 then-((a.natAbs*m/n:Nat):Int)else((a.natAbs*m/n:Nat):Int)
theorem wU {x m n:Nat} (hn:0<n) (h:x<=n):x*m/n<=m:=
 Nat.div_le_of_le_mul (Nat.mul_le_mul h (ns m))
theorem Hc {x m n:Nat} (hn:0<n) (h:x<=n) (hm:m<=1099511627776):x*m/18446744073709551616<n:=by
 have h1:x*m<=n*1099511627776:=Nat.mul_le_mul h hm
 omega
theorem zw {q:Nat} (h:q<=1099511627776):IntKind.i64.wrap (q:Int)=(q:Int)/\IntKind.i64.wrap (-(q:Int))=-(q:Int)/\wrap64 (q:Int)=(q:Int)/\wrap64 (-(q:Int))=-(q:Int):=
 ⟨by rw[wI];omega,by rw[wI];omega,by unfold wrap64;omega,by unfold wrap64;omega⟩
theorem zp {a:Int} {A:Nat} (hA:A=a.natAbs) (h:A<=2199023255552):[wrap64 (-a)].foldl mx a=(A:Int):=by
 have hwn:wrap64 (-a)=-a:=by unfold wrap64;omega
 rw[hwn];show mx a (-a)=_;unfold mx;split<;>omega
theorem mP {q:Nat} (h:q<=2199023255552):IntKind.u64.wrap (q:Int)=(q:Int):=by rw[IntKind.wrap_u64];omega
theorem wl (a:Int) (m n:Nat) (w:World) (hn:0<n) (hN:n<=2199023255552) (ha:a.natAbs<=n) (hm:m<=1099511627776):
 Calls Tryz.prog 93 #[.int .i64 a,.int .i64 m,.int .i64 n] w fun e w'=>e=.returned (.int .i64 (jh a m n))/\Below w.heap.size w w':=by
 obtain⟨A,hA⟩:∃A,A=a.natAbs:=⟨_,rfl⟩
 have M:=aa (fun w=>eJ A m w oa oa)
 have hq:=wU (m:=m) hn ha
 have hh:=Hc hn ha hm
 rw[<-hA]at hq hh
 obtain⟨R,hR⟩:∃R,jh a m n=R:=⟨_,rfl⟩
 rw[hR]
 unfold jh at hR
 rw[<-hA]at hR
 have D:=aa (fun w=>ru (A*m/18446744073709551616) (A*m % 18446744073709551616) n w hh oa oa)
 have e:A*m/18446744073709551616*18446744073709551616+A*m % 18446744073709551616=A*m:=oa
 rw[e]at D
 clear e hh
 generalize A*m/18446744073709551616=H at *
 generalize A*m % 18446744073709551616=L at *
 generalize A*m % n=R2 at *
 obtain⟨q,hqq⟩:∃q,A*m/n=q:=⟨_,rfl⟩
 rw[hqq]at D hq hR
 obtain⟨hwq,hwq2,hwq',hwq2'⟩:=zw (nk hq hm)
 have hM:=aa (zp hA (nk (Nat.le_of_eq hA) (nk ha hN)))
 have hwA:IntKind.u64.wrap (A:Int)=(A:Int):=mP (nk (Nat.le_of_eq hA) (nk ha hN))
 have hwm:IntKind.u64.wrap (m:Int)=(m:Int):=mP (nk hm da)
 have hwN:IntKind.u64.wrap (n:Int)=(n:Int):=mP hN
 have HR:=aa hR
 clear hR hq hqq hN hn ha hm hA
 by_cases h0:a<0
 ·have d0:decide (a<0)=true:=dT h0
  have H0:=aa h0
  go_enter Tryz.func93,Tryz.ntmps93
  go_upto_region 2 with(first|(refine fH rfl rfl _ _ _ hM.out rfl ?_)|(go_at_call 36;refine(M.out _).mono ?_;rintro e w1 ⟨rfl,rfl⟩))
  go_upto_region 3 with(go_at_call 81;refine(D.out _).mono ?_;rintro e w1 ⟨rfl,hb⟩)
  go_wp2_with (fail)
  go_ret
  refine⟨?_,hb⟩
  rw[<-HR.out,if_pos H0.out];rfl
 ·have d0:decide (a<0)=false:=dF h0
  have H0:=aa h0
  go_enter Tryz.func93,Tryz.ntmps93
  go_upto_region 2 with(first|(refine fH rfl rfl _ _ _ hM.out rfl ?_)|(go_at_call 36;refine(M.out _).mono ?_;rintro e w1 ⟨rfl,rfl⟩))
  go_upto_region 3 with(go_at_call 81;refine(D.out _).mono ?_;rintro e w1 ⟨rfl,hb⟩)
  go_wp2_with (fail)
  go_ret
  refine⟨?_,hb⟩
  rw[<-HR.out,if_neg (by have:=H0.out;omega)];rfl
def oD (f:Nat->Int) (m:Int):Prop:=cx f=true/\0<=m/\m<=1099511627776
instance(f:Nat->Int) (m:Int):Decidable (oD f m):=by unfold oD;infer_instance
def lk (f:Nat->Int) (m:Int) (i:Nat):Int:=jh (f i) m.toNat (gJ f)
def ca (f:Nat->Int) (m:Int):Nat->Int:=if oD f m then(if(gJ f:Int)<=m then f else lk f m)else fun _=>0
def Hg (f:Nat->Int) (m:Int):Int:=if oD f m then 0 else 2
theorem I8 {a:Int} {m n:Nat} (hn:0<n) (h:a.natAbs<=n) (hm:m<=1099511627776):vb (jh a m n)=true:=by
 have:=wU (m:=m) hn h
 unfold jh
 generalize a.natAbs*m/n=q at *
 exact(bE _).2 (by split<;>omega)
theorem BG (f:Nat->Int) (m n:Nat) (b c d:Nat) (t1 t2:TypeId) (w:World) (hk:cx f=true) (hn:n=gJ f) (hm:m<n) (hm2:m<=1099511627776) (p:af w b (ah f) 25) (q:af w c #[.int .i64 (m:Int)] t1) (r:af w d #[.int .i64 (n:Int)] t2) (i:Nat) (hi:i<3):
 Calls Tryz.prog 92 #[.int .i64 i,.pointer (some ⟨b,0,none⟩),.pointer (some ⟨c,0,none⟩),.pointer (some ⟨d,0,none⟩)] w fun e w'=>e=.returned (.tuple #[.int .i64 (jh (f i) m n),.int .i64 0])/\Below w.heap.size w w':=by
 have R:=aa (fun w=>wl (f i) m n w oa (by rw[hn];exact AV hk) (by rw[hn];exact oP hk i hi) hm2)
 generalize jh (f i) m n=V at *
 have hdk:decide ((i:Int)<3)=true:=dT oa
 have hdk':decide (i<3)=true:=dT hi
 have hi3:(i:Int)<3:=oa
 clear hk hn hm hm2
 go_enter Tryz.func92,Tryz.ntmps92
 go_upto_region 1 with(fail)
 have hB:bl w w:=Below.refl _ _
 refine bV 99 8 rfl ke ?_
 replace p:=p.drew
 replace q:=q.drew
 replace r:=r.drew
 replace hB:bl w w.drew:=hB.drew
 generalize w.drew=wo at *
 refine ai 0 (.int .i64 i) rfl rfl ke (fun w1=>by go_simp;exact⟨rfl,Below.refl _ _⟩) ?_
 simp only[Act.put,aL,aM,aN]
 refine ai 1 (.pointer (some ⟨b,i,none⟩)) rfl rfl ke (fun w1=>by go_simp;first|exact⟨rfl,Below.refl _ _⟩|(rw[if_pos hi3];exact⟨rfl,Below.refl _ _⟩)) ?_
 simp only[Act.put,aL,aM,aN]
 refine aV 2 (.int .i64 (f i)) rfl rfl ke ke (fun w1 h1=>by have hc:w1.cell? ⟨b,i,none⟩=some (.int .i64 (f i)):=(p.below h1 p.lt).cellIs (az _ hi);go_simp;exact⟨rfl,Below.refl _ _⟩) ?_
 simp only[Act.put,aL,aM,aN]
 refine aV 3 (.int .i64 (m:Int)) rfl rfl ke ke (fun w1 h1=>by have hc:w1.cell? ⟨c,0,none⟩=some (.int .i64 (m:Int)):=(q.below h1 q.lt).cellIs rfl;go_simp;exact⟨rfl,Below.refl _ _⟩) ?_
 simp only[Act.put,aL,aM,aN]
 refine aV 4 (.int .i64 (n:Int)) rfl rfl ke ke (fun w1 h1=>by have hc:w1.cell? ⟨d,0,none⟩=some (.int .i64 (n:Int)):=(r.below h1 r.lt).cellIs rfl;go_simp;exact⟨rfl,Below.refl _ _⟩) ?_
 simp only[Act.put,aL,aM,aN]
 refine aV 5 (.int .i64 V) rfl rfl ke ke (fun w1 h1=>?_) ?_
 ·go_simp
  exact(R.out _).mono rC
 simp only[Act.put,aL,aM,aN]
 refine ai 6 (.int .i64 V) rfl rfl ke (fun w1=>by go_simp;exact⟨rfl,Below.refl _ _⟩) ?_
 simp only[Act.put,aL,aM,aN]
 refine ai 7 (.int .i64 0) rfl rfl ke (fun w1=>by go_simp;exact⟨rfl,Below.refl _ _⟩) ?_
 simp only[Act.put,aL,aM,aN]
 refine dq ke (fun w3 h3=>?_)
 replace hB:=bl.trans hB h3
 go_wp2_with (fail)
 go_ret2
 exact⟨rfl,hB⟩
theorem uL (x er:Nat->Int) (c1 c2 c3:Value) (w:World)
 (hf:Hid (∀i:Nat,i<3->∀w1,Below w.heap.size w w1->Calls Tryz.prog 92 #[.int .i64 i,c1,c2,c3] w1 fun e w'=>e=.returned (.tuple #[.int .i64 (x i),.int .i64 (er i)])/\Below w1.heap.size w1 w')):
 Calls Tryz.prog 86 #[.bool true,.func (.func 92) #[] #[c1,c2,c3]] w fun e w'=>e=.returned (.tuple #[.agg (ah (dP x er)),.int .i64 (dO x er)])/\Below w.heap.size w w':=by
 go_enter Tryz.func86,Tryz.ntmps86
 go_upto_region 2 with(fail)
 rw[aQ]
 have p:af ((w.alloc (.cells (ah fun _=>0) 25)).alloc (.cells (ah fun _=>0) 25)) w.heap.size (ah fun _=>0) 25:=(af.new _ _ _).alloc _
 have q:af ((w.alloc (.cells (ah fun _=>0) 25)).alloc (.cells (ah fun _=>0) 25)) (w.heap.size+1) (ah fun _=>0) 25:=af.new' sd
 have hB:Below w.heap.size w ((w.alloc (.cells (ah fun _=>0) 25)).alloc (.cells (ah fun _=>0) 25)):=by go_grown
 generalize(w.alloc (.cells (ah fun _=>0) 25)).alloc (.cells (ah fun _=>0) 25)=w0 at *
 go_wp2_with (fail)
 go_loopg [13] 3 (fun g iv wr=>∃k:Nat,g+k=3/\iv=.int .i64 k/\Hid (∀j,j<k->er j=0/\vb (x j)=true)/\af wr w.heap.size (ah fun _=>0) 25/\af wr (w.heap.size+1) (ah (dC x k)) 25/\Below w.heap.size w wr)
 case atStart=>exact⟨0,rfl,rfl,fun j hj=>by omega,p,by rw[show ah (dC x 0)=ah (fun _=>0)from dD fun i _=>by simp[dC]];exact q,hB⟩
 case round=>
  clear p q hB
  obtain⟨k,hk,rfl,hall,p,q,hB⟩:=hrel
  by_cases hkn:k<3
  ·have hdk:decide ((k:Int)<3)=true:=dT oa
   have hdk':decide (k<3)=true:=dT oa
   have hw3:IntKind.i64.wrap ((k:Int)+1)=((k+1:Nat):Int):=by rw[wI];omega
   have W0:=aa (fun w=>ej (x k) w)
   have HC:=aa (hf.out k hkn)
   by_cases he:er k=0
   ·have de:(er k !=0)=false:=by simp[he]
    have HE:=aa he
    obtain⟨b,hb⟩:∃b,vb (x k)=b:=⟨_,rfl⟩
    rw[hb]at W0
    have HVB:=aa hb
    clear hb he
    cases b
    ·have HG:=aa (show ga x er=false from eI hkn (by rintro⟨_,h⟩;rw[HVB.out]at h;cases h))
     go_wp2_with (first
      |(go_at_call 92;refine(HC.out _ hB).mono ?_;rintro e w1 ⟨rfl,hb⟩;replace hB:=hB.trans (hb.mono hB.size);replace p:=p.below hb p.lt;replace q:=q.below hb q.lt;clear hb)
      |(go_at_call 70;refine(W0.out _).mono ?_;rintro e w1 ⟨rfl,rfl⟩)
      |(rw[aQ];refine ag rfl _ _ _ rfl _ rfl _ rfl _ _ p rI (by simp only[ad]) (aG _) ?_))
     refine bodyPost_ret (aq rfl _ _ _ _ _ _ _ rfl (p.row (ah (fun _=>0))) yc rfl rI) rfl ?_;refine⟨?_,Below.setRow hB (ns _) _⟩
     unfold dP dO;rw[HG.out];rfl
    ·go_upto_region 8 with(go_at_call 92;refine(HC.out _ hB).mono ?_;rintro e w1 ⟨rfl,hb⟩;replace hB:=hB.trans (hb.mono hB.size);replace p:=p.below hb p.lt;replace q:=q.below hb q.lt;clear hb)
     have fz:w1.frozen? ⟨w.heap.size+1,k,none⟩=false:=q.free _
     have cz:w1.cell? ⟨w.heap.size+1,k,none⟩=some (.int .i64 (dC x k k)):=q.cellIs (az _ hkn)
     go_wp2_with (go_at_call 70;refine(W0.out _).mono ?_;rintro e w1 ⟨rfl,rfl⟩)
     go_roundg (3-(k+1))
     case rel=>
      refine⟨k+1,oa,rfl,fun j hj=>?_,p.setOther sd _,q.set' (kF hkn ?_ ?_),hB.setCell sd _⟩
      ·by_cases e:j=k
       ·subst e;exact⟨HE.out,HVB.out⟩
       ·exact hall.out j oa
      ·simp[dC]
      ·intro j hj hne;simp only[dC];split<;>split<;>first|rfl|omega
     case measure=>omega
   ·have de:(er k !=0)=true:=by simpa using he
    have HG:=aa (show ga x er=false from eI hkn (by rintro⟨h,_⟩;exact he h))
    clear he
    go_wp2_with (first
     |(go_at_call 92;refine(HC.out _ hB).mono ?_;rintro e w1 ⟨rfl,hb⟩;replace hB:=hB.trans (hb.mono hB.size);replace p:=p.below hb p.lt;replace q:=q.below hb q.lt;clear hb)
     |(rw[aQ];refine ag rfl _ _ _ rfl _ rfl _ rfl _ _ p rI (by simp only[ad]) (aG _) ?_))
    refine bodyPost_ret (aq rfl _ _ _ _ _ _ _ rfl (p.row (ah (fun _=>0))) yc rfl rI) rfl ?_;refine⟨?_,Below.setRow hB (ns _) _⟩
    unfold dP dO;rw[HG.out];rfl
  ·obtain rfl:k=3:=oa
   have HG:=aa ((fO x er).2 hall.out)
   have e3:ah (dC x 3)=ah x:=dD fun i hi=>by simp[dC,hi]
   rw[e3]at q
   go_wp2_with (first|(refine ac ?hw _ _ rfl _ rfl _ _ _ _ q yc rfl ?hi ?_;(case hw=>exact rW);(case hi=>exact rI))|(refine ag rfl _ _ _ rfl _ rfl _ rfl _ _ p rI (by simp only[ad]) (aG _) ?_))
   refine bodyPost_ret (aq rfl _ _ _ _ _ _ _ rfl (p.row (ah x)) yc rfl rI) rfl ?_;refine⟨?_,Below.setRow hB (ns _) _⟩
   unfold dP dO;rw[HG.out];rfl
theorem wG (f:Nat->Int) (m:Int) (w:World) (hI:∀i,i<3->bu (f i)) (hm:bu m):Calls Tryz.prog 61 #[.agg (ah f),.int .i64 m] w fun e w'=>e=.returned (.tuple #[.agg (ah (ca f m)),.int .i64 (Hg f m)])/\Below w.heap.size w w':=by
 have V:=aa (fun w=>cd f w)
 obtain⟨X,hX⟩:∃X,ca f m=X:=⟨_,rfl⟩
 obtain⟨E,hE⟩:∃E,Hg f m=E:=⟨_,rfl⟩
 rw[hX,hE]
 unfold ca at hX
 unfold Hg at hE
 obtain⟨bk,hk⟩:∃b,cx f=b:=⟨_,rfl⟩
 rw[hk]at V
 have HK:=aa hk
 have HX:=aa hX
 have HE:=aa hE
 have HM:=aa hm
 clear hk hX hE hm hI
 go_enter Tryz.func61,Tryz.ntmps61
 go_upto_region 1 with(fail)
 rw[aQ]
 have p:af (((w.alloc (.cells (ah f) 25)).alloc (.cells #[.int .i64 m] 2)).alloc (.cells (ah fun _=>0) 25)) w.heap.size (ah f) 25:=((af.new _ _ _).alloc _).alloc _
 have q:af (((w.alloc (.cells (ah f) 25)).alloc (.cells #[.int .i64 m] 2)).alloc (.cells (ah fun _=>0) 25)) (w.heap.size+1) #[.int .i64 m] 2:=(af.new' sd).alloc _
 have r:af (((w.alloc (.cells (ah f) 25)).alloc (.cells #[.int .i64 m] 2)).alloc (.cells (ah fun _=>0) 25)) (w.heap.size+2) (ah fun _=>0) 25:=af.new' sd
 have hB:Below w.heap.size w (((w.alloc (.cells (ah f) 25)).alloc (.cells #[.int .i64 m] 2)).alloc (.cells (ah fun _=>0) 25)):=by go_grown
 generalize((w.alloc (.cells (ah f) 25)).alloc (.cells #[.int .i64 m] 2)).alloc (.cells (ah fun _=>0) 25)=w0 at *
 cases bk
 case false=>
  go_wp2_with (first|(refine ac ?hw _ _ rfl _ rfl _ _ _ _ p yc rfl ?hi ?_;(case hw=>exact rW);(case hi=>exact rI))|(go_at_call 32;with_reducible refine(V.out _).mono ?_;rintro e w1 ⟨rfl,hb⟩;replace hB:=hB.trans (hb.mono hB.size);replace p:=p.below hb p.lt;replace q:=q.below hb q.lt;replace r:=r.below hb r.lt;clear hb;have cq:w1.cell? ⟨w.heap.size+1,0,none⟩=some (.int .i64 m):=q.cellIs rfl)|(rw[aQ];refine ag rfl _ _ _ rfl _ rfl _ rfl _ _ r rI (by simp only[ad]) (aG _) ?_))
  refine bodyPost_ret (aq rfl _ _ _ _ _ _ _ rfl (r.row (ah (fun _=>0))) yc rfl rI) rfl ?_;refine⟨?_,Below.setRow hB oa _⟩
  rw[<-HX.out,<-HE.out,if_neg (fun h=>by have:=h.1;rw[HK.out]at this;cases this),if_neg (fun h=>by have:=h.1;rw[HK.out]at this;cases this)];rfl
 by_cases hm0:m<0
 ·have d0:decide (m<0)=true:=dT hm0
  have H0:=aa hm0
  clear hm0
  go_wp2_with (first|(refine ac ?hw _ _ rfl _ rfl _ _ _ _ p yc rfl ?hi ?_;(case hw=>exact rW);(case hi=>exact rI))|(go_at_call 32;with_reducible refine(V.out _).mono ?_;rintro e w1 ⟨rfl,hb⟩;replace hB:=hB.trans (hb.mono hB.size);replace p:=p.below hb p.lt;replace q:=q.below hb q.lt;replace r:=r.below hb r.lt;clear hb;have cq:w1.cell? ⟨w.heap.size+1,0,none⟩=some (.int .i64 m):=q.cellIs rfl)|(rw[aQ];refine ag rfl _ _ _ rfl _ rfl _ rfl _ _ r rI (by simp only[ad]) (aG _) ?_))
  refine bodyPost_ret (aq rfl _ _ _ _ _ _ _ rfl (r.row (ah (fun _=>0))) yc rfl rI) rfl ?_;refine⟨?_,Below.setRow hB oa _⟩
  rw[<-HX.out,<-HE.out,if_neg (fun h=>by have:=h.2.1;have:=H0.out;omega),if_neg (fun h=>by have:=h.2.1;have:=H0.out;omega)];rfl
 have d0:decide (m<0)=false:=dF hm0
 have H0:=aa (Int.not_lt.1 hm0)
 clear hm0
 by_cases hm1:1099511627776<m
 ·have d1:decide (1099511627776<m)=true:=dT hm1
  have d2:decide (m >1099511627776)=true:=dT hm1
  have H1:=aa hm1
  clear hm1
  go_wp2_with (first|(refine ac ?hw _ _ rfl _ rfl _ _ _ _ p yc rfl ?hi ?_;(case hw=>exact rW);(case hi=>exact rI))|(go_at_call 32;with_reducible refine(V.out _).mono ?_;rintro e w1 ⟨rfl,hb⟩;replace hB:=hB.trans (hb.mono hB.size);replace p:=p.below hb p.lt;replace q:=q.below hb q.lt;replace r:=r.below hb r.lt;clear hb;have cq:w1.cell? ⟨w.heap.size+1,0,none⟩=some (.int .i64 m):=q.cellIs rfl)|(rw[aQ];refine ag rfl _ _ _ rfl _ rfl _ rfl _ _ r rI (by simp only[ad]) (aG _) ?_))
  refine bodyPost_ret (aq rfl _ _ _ _ _ _ _ rfl (r.row (ah (fun _=>0))) yc rfl rI) rfl ?_;refine⟨?_,Below.setRow hB oa _⟩
  rw[<-HX.out,<-HE.out,if_neg (fun h=>by have:=h.2.2;have:=H1.out;omega),if_neg (fun h=>by have:=h.2.2;have:=H1.out;omega)];rfl
 have d1:decide (1099511627776<m)=false:=dF hm1
 have d2:decide (m >1099511627776)=false:=dF hm1
 have H1:=aa (Int.not_lt.1 hm1)
 clear hm1
 have HL:Hid (oD f m):=⟨HK.out,H0.out,H1.out⟩
 have LE:=aa (fun w=>ws f w HK.out)
 obtain⟨n,hn⟩:∃n,n=gJ f:=⟨_,rfl⟩
 rw[<-hn]at LE
 rw[if_pos HL.out]at HX HE
 rw[<-hn]at HX
 have HN:=aa hn
 clear hn
 go_upto_region 4 with(first|(refine ac ?hw _ _ rfl _ rfl _ _ _ _ p yc rfl ?hi ?_;(case hw=>exact rW);(case hi=>exact rI))|(go_at_call 32;with_reducible refine(V.out _).mono ?_;rintro e w1 ⟨rfl,hb⟩;replace hB:=hB.trans (hb.mono hB.size);replace p:=p.below hb p.lt;replace q:=q.below hb q.lt;replace r:=r.below hb r.lt;clear hb;have cq:w1.cell? ⟨w.heap.size+1,0,none⟩=some (.int .i64 m):=q.cellIs rfl)|(go_at_call 91;with_reducible refine(LE.out _).mono ?_;clear cq;rintro e w3 ⟨rfl,hb⟩;replace hB:=hB.trans (hb.mono hB.size);replace p:=p.below hb p.lt;replace q:=q.below hb q.lt;replace r:=r.below hb r.lt;clear hb;have cq:w3.cell? ⟨w.heap.size+1,0,none⟩=some (.int .i64 m):=q.cellIs rfl))
 have n1:=af.new w3 #[.int .i64 (n:Int)] 2
 replace p:=p.alloc (.cells #[.int .i64 (n:Int)] 2)
 replace q:=q.alloc (.cells #[.int .i64 (n:Int)] 2)
 replace r:=r.alloc (.cells #[.int .i64 (n:Int)] 2)
 replace hB:=hB.alloc hB.size (.cells #[.int .i64 (n:Int)] 2)
 clear cq
 generalize w3.alloc (.cells #[.int .i64 (n:Int)] 2)=w4 at *
 generalize w3.heap.size=nb at *
 have cq:w4.cell? ⟨w.heap.size+1,0,none⟩=some (.int .i64 m):=q.cellIs rfl
 have cn:w4.cell? ⟨nb,0,none⟩=some (.int .i64 (n:Int)):=n1.cellIs rfl
 by_cases hl:(n:Int)<=m
 ·have d3:decide ((n:Int)<=m)=true:=dT hl
  have H3:=aa hl
  clear hl
  go_wp2_with (first|(refine ac ?hw _ _ rfl _ rfl _ _ _ _ p yc rfl ?hi ?_;(case hw=>exact rW);(case hi=>exact rI))|(refine ag rfl _ _ _ rfl _ rfl _ rfl _ _ r rI (by simp only[ad]) (aG _) ?_))
  refine bodyPost_ret (aq rfl _ _ _ _ _ _ _ rfl (r.row (ah f)) yc rfl rI) rfl ?_;refine⟨?_,Below.setRow hB oa _⟩
  rw[<-HX.out,<-HE.out,if_pos H3.out];rfl
 ·have d3:decide ((n:Int)<=m)=false:=dF hl
  have H3:=aa hl
  clear hl
  have hmn:(m.toNat:Int)=m:=by have:=H0.out;omega
  have HC:Hid (∀i:Nat,i<3->∀w1,Below w4.heap.size w4 w1->Calls Tryz.prog 92 #[.int .i64 i,.pointer (some ⟨w.heap.size,0,none⟩),.pointer (some ⟨w.heap.size+1,0,none⟩),.pointer (some ⟨nb,0,none⟩)] w1 fun e w'=>e=.returned (.tuple #[.int .i64 (lk f m i),.int .i64 0])/\Below w1.heap.size w1 w'):=fun i hi w1 hb=>by
   have q':=q.below hb q.lt
   rw[<-hmn]at q'
   have:=BG f m.toNat n w.heap.size (w.heap.size+1) nb 2 2 w1 HK.out HN.out (by have:=H3.out;omega) (by have:=H1.out;omega) (p.below hb p.lt) q' (n1.below hb n1.lt) i hi
   rw[HN.out]at this
   exact this
  have HG:Hid (dP (lk f m) (fun _=>0)=lk f m/\dO (lk f m) (fun _=>0)=0):=zl (fun i hi=>⟨rfl,I8 (by have:=H3.out;rw[<-HN.out];omega) (oP HK.out i hi) (by have:=H1.out;omega)⟩)
  have HX2:Hid (lk f m=X):=by show _=_;rw[<-HX.out,if_neg H3.out]
  clear hmn
  go_wp2_with (first|(go_at_call 86;refine(uL (lk f m) (fun _=>0) _ _ _ _ HC).mono ?_;rintro e w5 ⟨rfl,hb⟩;rw[HG.out.1,HG.out.2,HX2.out];replace hB:=hB.trans (hb.mono hB.size);replace r:=r.below hb r.lt;clear hb)|(refine ag rfl _ _ _ rfl _ rfl _ rfl _ _ r rI (by simp only[ad]) (aG _) ?_))
  refine bodyPost_ret (aq rfl _ _ _ _ _ _ _ rfl (r.row (ah X)) yc rfl rI) rfl ?_;refine⟨?_,Below.setRow hB oa _⟩
  rw[<-HE.out];rfl
end Go.Proofs.YtbhahonkhiiilaaGreat
