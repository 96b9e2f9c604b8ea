/-
  Quotients, products and square roots by the specification's own numbers (package perigeeref01): Ratio, Mul, Div. The division of two words by one (math/bits.Div64), and the product of two words (math/bits.Mul64): what they return. Products, quotients and Clamp of package fixed: what they return. Square roots and norms of package fixed: what they return. And what it means that a value is a slice of integers.
-/
import Derived.Test.YtbhahonkhiiilaaGreatBase
import Derived.Deep.WholeRow
import Derived.Deep.CutBlock
set_option linter.unusedSimpArgs false
set_option linter.unusedVariables false
set_option maxRecDepth 100000
set_option maxHeartbeats 4000000
namespace Go.Proofs.YtbhahonkhiiilaaGreat
open Go.RowKit PM Dt
def bu (a:Int):Prop:=-9223372036854775808<=a/\a<=9223372036854775807
theorem DP (x:Int) (w:World) (h0:0<=x) (h1:x<=18446744073709551615):
 Calls Tryz.prog 103 #[.int .u64 x] w fun e w'=>e=.returned (.int .i64 (64-(Lib.bitLen x.toNat:Int)))/\w=w':=
 (Tryz.bits_LeadingZeros64 x w h0 h1).mono fun _ _ h=>⟨h.1,h.2.symm⟩
theorem eJ (x y:Nat) (w:World) (hx:x<18446744073709551616) (hy:y<18446744073709551616):
 Calls Tryz.prog 36 #[.int .u64 x,.int .u64 y] w fun e w'=>e=.returned (.tuple #[.int .u64 ((x*y/18446744073709551616:Nat):Int),.int .u64 ((x*y % 18446744073709551616:Nat):Int)])/\w=w':=
 (Tryz.bits_Mul64 x y hx hy w).mono fun _ _ h=>⟨h.1,h.2.symm⟩
theorem k7 {x:Nat} (h:x≠0) (h2:x<2^64):1<=Lib.bitLen x:=by rw[Lib.bitLen_half x h h2];omega
theorem zk {x:Nat} (h:x≠0) (h2:x<2^64):x<2^Lib.bitLen x/\2^(Lib.bitLen x-1)<=x:=by
 constructor
 ·apply Nat.lt_of_not_le;intro h3
  have e:=Lib.bitLen_shift _ x h3 h2
  have p:1<=x/2^Lib.bitLen x:=(Nat.le_div_iff_mul_le (Nat.pos_of_ne_zero sd)).2 oa
  have:=k7 (x:=x/2^Lib.bitLen x) oa (Nat.lt_of_le_of_lt (Nat.div_le_self _ _) h2)
  omega
 ·apply Nat.le_of_not_lt;intro h3
  have h1:=k7 h h2
  have hk:Lib.bitLen x<=64:=Lib.bitLen_le x 64 oa h2
  have:=Lib.bitLen_le x (Lib.bitLen x-1) oa h3
  omega
theorem us {n qn rn V1:Nat} (h:n=qn*V1+rn) (hq:0<qn):n=(qn-1)*V1+(rn+V1):=by
 obtain⟨k,rfl⟩:∃k,qn=k+1:=⟨qn-1,oa⟩
 rw[h,Nat.add_mul,Nat.one_mul,Nat.add_sub_cancel];omega
theorem xP {n qn rn V1 V0 u:Nat} (h:n=qn*V1+rn) (hq:0<qn) (hq2:qn<=4294967297) (hV0:V0<4294967296) (hV1:0<V1) (ho:4294967296<=rn+V1):
 qn-1<=(n*4294967296+u)/(V1*4294967296+V0):=by
 refine wy hV1 (us h hq) ?_
 have:(qn-1)*V0<=4294967296*4294967295:=Nat.mul_le_mul oa oa
 omega
theorem zJ (hi lo y:Nat) (w:World) (hh0:0<hi) (hh:hi<y) (hl:lo<18446744073709551616) (hy:y<18446744073709551616):
 Calls Tryz.prog 81 #[.int .u64 hi,.int .u64 lo,.int .u64 y] w fun e w'=>e=.returned (.tuple #[.int .u64 (((hi*18446744073709551616+lo)/y:Nat):Int),.int .u64 (((hi*18446744073709551616+lo) % y:Nat):Int)])/\w=w':=by
 have z1:((y:Int)==0)=false:=by simp;omega
 have z2:((hi:Int)==0)=false:=by simp;omega
 have z3:decide (y<=hi)=false:=by simp;omega
 have hbl:=k7 (x:=y) oa oa
 have hbl2:Lib.bitLen y<=64:=Lib.bitLen_le y 64 oa oa
 obtain⟨hb1,hb2⟩:=zk (x:=y) oa oa
 obtain⟨s,hs⟩:∃s,s=64-Lib.bitLen y:=⟨_,rfl⟩
 have hs63:s<=63:=oa
 obtain⟨K,hK⟩:∃K,K=2^s:=⟨_,rfl⟩
 have hK0:0<K:=by rw[hK];exact Nat.pos_of_ne_zero sd
 obtain⟨V,hVe⟩:∃V,V=y*K:=⟨_,rfl⟩
 have hVlo:9223372036854775808<=V:=by
  rw[hVe,hK]
  have:=Nat.mul_le_mul_right (2^s) hb2
  rw[<-Nat.pow_add,show Lib.bitLen y-1+s=63 by omega]at this
  omega
 have hVhi:V<18446744073709551616:=by
  rw[hVe,hK]
  have:=Nat.mul_lt_mul_of_pos_right hb1 (show 0<2^s from Nat.pos_of_ne_zero sd)
  rw[<-Nat.pow_add,show Lib.bitLen y+s=64 by omega]at this
  omega
 have hhK:hi*K+K<=V:=by
  rw[hVe]
  have:=Nat.mul_le_mul_right K (show hi+1<=y by omega)
  rw[Nat.add_mul,Nat.one_mul]at this;exact this
 obtain⟨L,hLe⟩:∃L,L=lo/2^(64-s):=⟨_,rfl⟩
 have hKK:K*2^(64-s)=18446744073709551616:=by rw[hK,<-Nat.pow_add,show s+(64-s)=64 by omega]
 have hLK:L<K:=by
  rw[hLe,Nat.div_lt_iff_lt_mul (Nat.pos_of_ne_zero sd),hKK];exact hl
 have hLe2:lo*K/18446744073709551616=L:=by
  rw[hLe,<-hKK,Nat.mul_comm lo K,Nat.mul_div_mul_left _ _ hK0]
 obtain⟨U,hUe⟩:∃U,U=hi*K+L:=⟨_,rfl⟩
 have hUV:U<V:=oa
 obtain⟨T,hTe⟩:∃T,T=lo*K % 18446744073709551616:=⟨_,rfl⟩
 have hT:T<18446744073709551616:=oa
 obtain⟨V1,hV1e⟩:∃V1,V1=V/4294967296:=⟨_,rfl⟩
 obtain⟨V0,hV0e⟩:∃V0,V0=V % 4294967296:=⟨_,rfl⟩
 have hV:V=V1*4294967296+V0:=oa
 have hV1:2147483648<=V1:=oa
 have hV1p:0<V1:=oa
 have hV1h:V1<4294967296:=oa
 have hV0:V0<4294967296:=oa
 obtain⟨u1,hu1e⟩:∃u,u=T/4294967296:=⟨_,rfl⟩
 obtain⟨u0,hu0e⟩:∃u,u=T % 4294967296:=⟨_,rfl⟩
 have hu1:u1<4294967296:=oa
 have hu0:u0<4294967296:=oa
 obtain⟨Q1,hQ1⟩:∃Q,Q=(U*4294967296+u1)/V:=⟨_,rfl⟩
 obtain⟨R1,hR1⟩:∃R,R=(U*4294967296+u1) % V:=⟨_,rfl⟩
 obtain⟨Q0,hQ0⟩:∃Q,Q=(R1*4294967296+u0)/V:=⟨_,rfl⟩
 obtain⟨R0,hR0⟩:∃R,R=(R1*4294967296+u0) % V:=⟨_,rfl⟩
 have hR1V:R1<V:=by rw[hR1];exact Nat.mod_lt _ oa
 have hR0V:R0<V:=by rw[hR0];exact Nat.mod_lt _ oa
 have hQ1lt:Q1<4294967296:=by rw[hQ1,hV];exact mj hu1 (by rw[<-hV];exact hUV)
 have hQ0lt:Q0<4294967296:=by rw[hQ0,hV];exact mj hu0 (by rw[<-hV];exact hR1V)
 have hE1:U*4294967296+u1=V*Q1+R1:=by rw[hQ1,hR1];exact(Nat.div_add_mod _ _).symm
 have hE0:R1*4294967296+u0=V*Q0+R0:=by rw[hQ0,hR0];exact(Nat.div_add_mod _ _).symm
 have hdiv:(hi*18446744073709551616+lo)/y=Q1*4294967296+Q0/\(hi*18446744073709551616+lo) % y=R0/K:=by
  have e:(hi*18446744073709551616+lo)*K=U*18446744073709551616+(u1*4294967296+u0):=by
   have h1:=Nat.div_add_mod (lo*K) 18446744073709551616
   rw[hLe2,<-hTe]at h1
   have h2:T=u1*4294967296+u0:=oa
   rw[hUe,Nat.add_mul,Nat.add_mul,<-h2,<-h1]
   have:hi*18446744073709551616*K=hi*K*18446744073709551616:=by rw[Nat.mul_assoc,Nat.mul_comm 18446744073709551616,<-Nat.mul_assoc]
   omega
  obtain⟨d1,d2⟩:=zZ (N:=hi*18446744073709551616+lo) (y:=y) hK0
  obtain⟨t1,t2⟩:=FE (V:=V) (n:=U) (u1:=u1) (u0:=u0) oa
  rw[<-d1,<-d2,e,<-hVe,t1,t2,<-hQ1,<-hR1,<-hQ0,<-hR0]
  exact⟨rfl,rfl⟩
 have W8:64-(Lib.bitLen y:Int)=(s:Int):=oa
 have W2:IntKind.u64.wrap ((y:Int)*2^s)=(V:Int):=by
  rw[IntKind.wrap_u64,hVe,hK];rw[hVe,hK]at hVhi
  have:((y*2^s:Nat):Int)=(y:Int)*2^s:=by simp
  omega
 clear hb1 hb2
 have HW8:=aa W8
 have HW2:=aa W2
 have HV:=aa hV
 have HQ1:=aa hQ1
 have HQ0:=aa hQ0
 have HU:=aa (show U<V1*4294967296+V0 by omega)
 have HR1:=aa (show R1<V1*4294967296+V0 by omega)
 have HQ1lt:=aa hQ1lt
 have HQ0lt:=aa hQ0lt
 have HDIV:=aa hdiv
 have HE1:=aa hE1
 have HE0:=aa hE0
 have W9:=aa (show(V:Int)/4294967296=(V1:Int) by omega)
 have KX:=aa (show bits .and .u64 (V:Int) 4294967295=(V0:Int) by
  rw[show(4294967295:Int)=((4294967295:Nat):Int)from rfl,bits_and_u64_nat V _ hVhi oa,show V&&&4294967295=V % 4294967296 from Nat.and_two_pow_sub_one_eq_mod V 32,hV0e])
 have Ld:=aa (show bits .or .u64 (IntKind.u64.wrap ((hi:Int)*2^s)) ((lo:Int)/2^(64-s))=(U:Int) by
  have e1:IntKind.u64.wrap ((hi:Int)*2^s)=((hi*K:Nat):Int):=by
   rw[IntKind.wrap_u64]
   have:((hi*K:Nat):Int)=(hi:Int)*2^s:=by rw[hK];simp
   omega
  have e2:(lo:Int)/2^(64-s)=(L:Int):=by
   rw[hLe];simp
  rw[e1,e2,bits_or_u64_nat _ _ oa oa,hUe]
  rw[Nat.mul_comm hi K,hK,Nat.two_pow_add_eq_or_of_lt (by rw[<-hK];exact hLK)])
 have W12:=aa (show IntKind.u64.wrap ((lo:Int)*2^s)=(T:Int) by
  rw[IntKind.wrap_u64,hTe,hK];simp)
 have W13:=aa (show(T:Int)/4294967296=(u1:Int) by omega)
 have W14:=aa (show bits .and .u64 (T:Int) 4294967295=(u0:Int) by
  rw[show(4294967295:Int)=((4294967295:Nat):Int)from rfl,bits_and_u64_nat T _ hT oa,show T&&&4294967295=T % 4294967296 from Nat.and_two_pow_sub_one_eq_mod T 32,hu0e])
 obtain⟨qa,hqa⟩:∃q,q=U/V1:=⟨_,rfl⟩
 obtain⟨ra,hra⟩:∃q,q=U % V1:=⟨_,rfl⟩
 have hqr:U=V1*qa+ra:=by rw[hqa,hra];exact(Nat.div_add_mod _ _).symm
 have hqaU:qa<=U:=by rw[hqa];exact Nat.div_le_self _ _
 have hraV:ra<V1:=by rw[hra];exact Nat.mod_lt _ hV1p
 have w15:IntKind.u64.wrap ((U:Int)/(V1:Int))=(qa:Int):=by
  have e:((U/V1:Nat):Int)=(U:Int)/(V1:Int):=by simp
  rw[IntKind.wrap_u64,<-e,<-hqa];omega
 have w16:IntKind.u64.wrap ((U:Int)-IntKind.u64.wrap ((qa:Int)* (V1:Int)))=(ra:Int):=by
  have e:((V1*qa:Nat):Int)=(qa:Int)* (V1:Int):=by rw[Nat.mul_comm];simp
  rw[IntKind.wrap_u64,IntKind.wrap_u64,<-e];omega
 have W15:=aa w15
 have W16:=aa w16
 clear w15 w16
 obtain⟨qb,hqb⟩:∃q,q=R1/V1:=⟨_,rfl⟩
 obtain⟨rb,hrb⟩:∃q,q=R1 % V1:=⟨_,rfl⟩
 have hqrb:R1=V1*qb+rb:=by rw[hqb,hrb];exact(Nat.div_add_mod _ _).symm
 have hqbR:qb<=R1:=by rw[hqb];exact Nat.div_le_self _ _
 have hrbV:rb<V1:=by rw[hrb];exact Nat.mod_lt _ hV1p
 have w18:IntKind.u64.wrap ((R1:Int)/(V1:Int))=(qb:Int):=by
  have e:((R1/V1:Nat):Int)=(R1:Int)/(V1:Int):=by simp
  rw[IntKind.wrap_u64,<-e,<-hqb];omega
 have w19:IntKind.u64.wrap ((R1:Int)-IntKind.u64.wrap ((qb:Int)* (V1:Int)))=(rb:Int):=by
  have e:((V1*qb:Nat):Int)=(qb:Int)* (V1:Int):=by rw[Nat.mul_comm];simp
  rw[IntKind.wrap_u64,IntKind.wrap_u64,<-e];omega
 have w17:IntKind.u64.wrap (IntKind.u64.wrap (IntKind.u64.wrap ((U:Int)*4294967296)+(u1:Int))-IntKind.u64.wrap ((Q1:Int)* (V:Int)))=(R1:Int):=by
  have e:((V*Q1:Nat):Int)=(Q1:Int)* (V:Int):=by rw[Nat.mul_comm];simp
  rw[IntKind.wrap_u64,IntKind.wrap_u64,IntKind.wrap_u64,IntKind.wrap_u64,<-e];omega
 have w20:IntKind.u64.wrap (IntKind.u64.wrap (IntKind.u64.wrap ((R1:Int)*4294967296)+(u0:Int))-IntKind.u64.wrap ((Q0:Int)* (V:Int)))=(R0:Int):=by
  have e:((V*Q0:Nat):Int)=(Q0:Int)* (V:Int):=by rw[Nat.mul_comm];simp
  rw[IntKind.wrap_u64,IntKind.wrap_u64,IntKind.wrap_u64,IntKind.wrap_u64,<-e];omega
 have W17:=aa w17
 have W18:=aa w18
 have W19:=aa w19
 have W20:=aa w20
 have HQB:=aa hqb
 have HRB:=aa hrb
 clear w17 w18 w19 w20 hqb hrb hqrb hqbR
 have HHrbV:=aa hrbV
 clear hrbV
 have HQA:=aa hqa
 have HRA:=aa hra
 clear hqa hra hqr W8 W2 hs hVe hV hLe hLe2 hUe hTe hV1e hV0e hu1e hu0e hQ1 hR1 hQ0 hR0 hE1 hE0 hdiv hKK
 have HHV1:=aa hV1
 have HHV1p:=aa hV1p
 have HHV1h:=aa hV1h
 have HHV0:=aa hV0
 have HHu1:=aa hu1
 have HHu0:=aa hu0
 have HHVhi:=aa hVhi
 have HHVlo:=aa hVlo
 have HHraV:=aa hraV
 have HHR1V:=aa hR1V
 have HHR0V:=aa hR0V
 have HHK0:=aa hK0
 have HHK:=aa hK
 have HHs:=aa hs63
 have hV1h':(V1:Int)<4294967296:=oa
 have hV1l':(2147483648:Int)<=(V1:Int):=oa
 have hV0':(V0:Int)<4294967296:=oa
 have hu1':(u1:Int)<4294967296:=oa
 have hu0':(u0:Int)<4294967296:=oa
 clear hK hV1 hV1p hV1h hV0 hu1 hu0 hhK hLK hUV hT hR1V hR0V hqaU hraV hQ1lt hQ0lt hK0
 go_enter Tryz.func81,Tryz.ntmps81
 go_upto_region 8 with(go_at_call 103;refine(DP _ _ oa oa).mono ?_;rintro e w1 ⟨rfl,rfl⟩)
 rw[HW8.out]
 go_upto_region 9 with(fail)
 rw[HW2.out]
 go_upto_region 10 with(fail)
 rw[W9.out]
 go_upto_region 11 with(fail)
 rw[KX.out]
 go_upto_region 12 with(fail)
 rw[Ld.out]
 go_upto_region 13 with(fail)
 rw[W12.out]
 go_upto_region 14 with(fail)
 rw[W13.out]
 go_upto_region 15 with(fail)
 rw[W14.out]
 go_upto_region 16 with(fail)
 rw[W15.out]
 go_upto_block 0 with(fail)
 rw[W16.out]

 go_cut [15]from 67 to 85 (fun qv w'=>qv=.int .u64 (Q1:Nat)/\w=w')
 case first=>
  clear hVhi hVlo hs63 hbl2 hbl z1 z2 z3 hy hl hh hh0
  go_wp2_with (fail)
  go_loopg [15,16] qa (fun qn qv rv wr=>∃rn:Nat,qv=.int .u64 (qn:Nat)/\rv=.int .u64 (rn:Nat)/\Hid (U=qn*V1+rn)/\Hid (rn<4294967296)/\Hid (Q1<=qn)/\Hid (qn<=4294967297)/\w=wr)
  case atStart=>
   refine⟨ra,rfl,rfl,?_,?_,?_,?_,rfl⟩
   ·show _=_;rw[HQA.out,HRA.out,Nat.mul_comm];exact(Nat.div_add_mod _ _).symm
   ·show _<_;have:=HHraV.out;have:=HHV1h.out;omega
   ·show _<=_;rw[HQ1.out,HV.out,HQA.out];exact rx HHV1p.out HHu1.out
   ·show _<=_;rw[HQA.out];exact l7 HHV1.out HHV0.out HU.out
  case round=>
   obtain⟨rn,rfl,rfl,hnq,hrn,hQ,hqb,rfl⟩:=hrel
   obtain⟨qn,rfl⟩:∃q,q=gk:=⟨_,rfl⟩
   by_cases hbig:4294967296<=qn
   ·have HGT:=aa (show Q1<qn by have:=HQ1lt.out;omega)
    have hbI:(4294967296:Int)<=(qn:Int):=oa
    have hbB:decide ((4294967296:Int)<=(qn:Int))=true:=dT hbI
    have hbN:¬((qn:Int)<4294967296):=oa
    have hrn':(rn:Int)<4294967296:=by have:=hrn.out;omega
    have hqb':(qn:Int)<=4294967297:=by have:=hqb.out;omega
    clear hbig
    by_cases hov:4294967296<=rn+V1
    ·have hoB:decide ((4294967296:Int)<=(rn:Int)+(V1:Int))=true:=dT oa
     have HOV:=aa hov
     clear hov
     go_wp2_with (fail)
     go_meet
     case rel=>
      refine⟨?_,rfl⟩
      have h1:=HGT.out
      have h2:=xP (u:=u1) (V0:=V0) hnq.out oa hqb.out HHV0.out HHV1p.out HOV.out
      rw[<-HV.out,<-HQ1.out]at h2
      rw[show(qn:Int)-1=((Q1:Nat):Int) by omega]
    ·have hoB:decide ((4294967296:Int)<=(rn:Int)+(V1:Int))=false:=dF oa
     have HOV:=aa hov
     clear hov
     go_wp2_with (fail)
     go_roundg (qn-1)
     case rel=>
      have h1:=HGT.out
      have h2:=HOV.out
      have h3:=hqb.out
      have h4:=us hnq.out oa
      refine⟨rn+V1,?_,by simp,h4,?_,?_,?_,rfl⟩
      ·rw[show(qn:Int)-1=((qn-1:Nat):Int) by omega]
      ·show _<_;omega
      ·show _<=_;omega
      ·show _<=_;omega
     case measure=>have:=HGT.out;omega
   ·have hm:qn*V0<=4294967295*4294967295:=Nat.mul_le_mul oa (by have:=HHV0.out;omega)
    have hbI:(qn:Int)<4294967296:=oa
    have hbB:decide ((4294967296:Int)<=(qn:Int))=false:=dF oa
    have hrn':(rn:Int)<4294967296:=by have:=hrn.out;omega
    clear hbig
    by_cases ht:4294967296*rn+u1<qn*V0
    ·have HGT:=aa (show Q1<qn by rw[HQ1.out,HV.out];exact x9 hnq.out ht)
     have htB:decide (4294967296* (rn:Int)+(u1:Int)<(qn:Int)* (V0:Int))=true:=dT oa
     have hq1:(1:Int)<=(qn:Int):=by have:=HGT.out;omega
     clear ht
     by_cases hov:4294967296<=rn+V1
     ·have hoB:decide ((4294967296:Int)<=(rn:Int)+(V1:Int))=true:=dT oa
      have HOV:=aa hov
      clear hov
      go_wp2_with (fail)
      go_meet
      case rel=>
       refine⟨?_,rfl⟩
       have h1:=HGT.out
       have h2:=xP (u:=u1) (V0:=V0) hnq.out oa hqb.out HHV0.out HHV1p.out HOV.out
       rw[<-HV.out,<-HQ1.out]at h2
       rw[show(qn:Int)-1=((Q1:Nat):Int) by omega]
     ·have hoB:decide ((4294967296:Int)<=(rn:Int)+(V1:Int))=false:=dF oa
      have HOV:=aa hov
      clear hov
      go_wp2_with (fail)
      go_roundg (qn-1)
      case rel=>
       have h1:=HGT.out
       have h2:=HOV.out
       have h3:=hqb.out
       have h4:=us hnq.out oa
       refine⟨rn+V1,?_,by simp,h4,?_,?_,?_,rfl⟩
       ·rw[show(qn:Int)-1=((qn-1:Nat):Int) by omega]
       ·show _<_;omega
       ·show _<=_;omega
       ·show _<=_;omega
      case measure=>have:=HGT.out;omega
    ·have htB:decide (4294967296* (rn:Int)+(u1:Int)<(qn:Int)* (V0:Int))=false:=dF oa
     have HT:=aa ht
     clear ht
     go_wp2_with (fail)
     go_meet
     case rel=>
      refine⟨?_,rfl⟩
      have h2:=wy HHV1p.out hnq.out HT.out
      rw[<-HV.out,<-HQ1.out]at h2
      have h3:=hQ.out
      rw[show qn=Q1 by omega]
 case rest=>
  obtain⟨rfl,rfl⟩:=hcut
  clear hVhi hVlo hs63 hbl2 hbl z1 z2 z3 hy hl hh hh0
  go_upto_region 22 with(fail)
  rw[W17.out]
  go_upto_region 23 with(fail)
  rw[W18.out]
  go_upto_block 2 with(fail)
  rw[W19.out]
  go_cut [18]from 102 to 120 (fun qv w'=>qv=.int .u64 (Q0:Nat)/\w=w')
  case first=>
   go_wp2_with (fail)
   go_loopg [18,16] qb (fun qn qv rv wr=>∃rn:Nat,qv=.int .u64 (qn:Nat)/\rv=.int .u64 (rn:Nat)/\Hid (R1=qn*V1+rn)/\Hid (rn<4294967296)/\Hid (Q0<=qn)/\Hid (qn<=4294967297)/\w=wr)
   case atStart=>
    refine⟨rb,rfl,rfl,?_,?_,?_,?_,rfl⟩
    ·show _=_;rw[HQB.out,HRB.out,Nat.mul_comm];exact(Nat.div_add_mod _ _).symm
    ·show _<_;have:=HHrbV.out;have:=HHV1h.out;omega
    ·show _<=_;rw[HQ0.out,HV.out,HQB.out];exact rx HHV1p.out HHu0.out
    ·show _<=_;rw[HQB.out];exact l7 HHV1.out HHV0.out HR1.out
   case round=>
    obtain⟨rn,rfl,rfl,hnq,hrn,hQ,hqb,rfl⟩:=hrel
    obtain⟨qn,rfl⟩:∃q,q=gk:=⟨_,rfl⟩
    by_cases hbig:4294967296<=qn
    ·have HGT:=aa (show Q0<qn by have:=HQ0lt.out;omega)
     have hbI:(4294967296:Int)<=(qn:Int):=oa
     have hbB:decide ((4294967296:Int)<=(qn:Int))=true:=dT hbI
     have hbN:¬((qn:Int)<4294967296):=oa
     have hrn':(rn:Int)<4294967296:=by have:=hrn.out;omega
     have hqb':(qn:Int)<=4294967297:=by have:=hqb.out;omega
     clear hbig
     by_cases hov:4294967296<=rn+V1
     ·have hoB:decide ((4294967296:Int)<=(rn:Int)+(V1:Int))=true:=dT oa
      have HOV:=aa hov
      clear hov
      go_wp2_with (fail)
      go_meet
      case rel=>
       refine⟨?_,rfl⟩
       have h1:=HGT.out
       have h2:=xP (u:=u0) (V0:=V0) hnq.out oa hqb.out HHV0.out HHV1p.out HOV.out
       rw[<-HV.out,<-HQ0.out]at h2
       rw[show(qn:Int)-1=((Q0:Nat):Int) by omega]
     ·have hoB:decide ((4294967296:Int)<=(rn:Int)+(V1:Int))=false:=dF oa
      have HOV:=aa hov
      clear hov
      go_wp2_with (fail)
      go_roundg (qn-1)
      case rel=>
       have h1:=HGT.out
       have h2:=HOV.out
       have h3:=hqb.out
       have h4:=us hnq.out oa
       refine⟨rn+V1,?_,by simp,h4,?_,?_,?_,rfl⟩
       ·rw[show(qn:Int)-1=((qn-1:Nat):Int) by omega]
       ·show _<_;omega
       ·show _<=_;omega
       ·show _<=_;omega
      case measure=>have:=HGT.out;omega
    ·have hm:qn*V0<=4294967295*4294967295:=Nat.mul_le_mul oa (by have:=HHV0.out;omega)
     have hbI:(qn:Int)<4294967296:=oa
     have hbB:decide ((4294967296:Int)<=(qn:Int))=false:=dF oa
     have hrn':(rn:Int)<4294967296:=by have:=hrn.out;omega
     clear hbig
     by_cases ht:4294967296*rn+u0<qn*V0
     ·have HGT:=aa (show Q0<qn by rw[HQ0.out,HV.out];exact x9 hnq.out ht)
      have htB:decide (4294967296* (rn:Int)+(u0:Int)<(qn:Int)* (V0:Int))=true:=dT oa
      have hq1:(1:Int)<=(qn:Int):=by have:=HGT.out;omega
      clear ht
      by_cases hov:4294967296<=rn+V1
      ·have hoB:decide ((4294967296:Int)<=(rn:Int)+(V1:Int))=true:=dT oa
       have HOV:=aa hov
       clear hov
       go_wp2_with (fail)
       go_meet
       case rel=>
        refine⟨?_,rfl⟩
        have h1:=HGT.out
        have h2:=xP (u:=u0) (V0:=V0) hnq.out oa hqb.out HHV0.out HHV1p.out HOV.out
        rw[<-HV.out,<-HQ0.out]at h2
        rw[show(qn:Int)-1=((Q0:Nat):Int) by omega]
      ·have hoB:decide ((4294967296:Int)<=(rn:Int)+(V1:Int))=false:=dF oa
       have HOV:=aa hov
       clear hov
       go_wp2_with (fail)
       go_roundg (qn-1)
       case rel=>
        have h1:=HGT.out
        have h2:=HOV.out
        have h3:=hqb.out
        have h4:=us hnq.out oa
        refine⟨rn+V1,?_,by simp,h4,?_,?_,?_,rfl⟩
        ·rw[show(qn:Int)-1=((qn-1:Nat):Int) by omega]
        ·show _<_;omega
        ·show _<=_;omega
        ·show _<=_;omega
       case measure=>have:=HGT.out;omega
     ·have htB:decide (4294967296* (rn:Int)+(u0:Int)<(qn:Int)* (V0:Int))=false:=dF oa
      have HT:=aa ht
      clear ht
      go_wp2_with (fail)
      go_meet
      case rel=>
       refine⟨?_,rfl⟩
       have h2:=wy HHV1p.out hnq.out HT.out
       rw[<-HV.out,<-HQ0.out]at h2
       have h3:=hQ.out
       rw[show qn=Q0 by omega]
  case rest=>
   obtain⟨rfl,rfl⟩:=hcut
   go_wp2_with (fail)
   go_ret2
   refine⟨gP ?_ ?_,rfl⟩
   ·rw[HDIV.out.1,IntKind.wrap_u64,IntKind.wrap_u64]
    have h1:=HQ1lt.out
    have h2:=HQ0lt.out
    omega
   ·rw[W20.out,HDIV.out.2,show min s 64=s by have:=HHs.out;omega,HHK.out];simp
theorem uK (lo y:Nat) (w:World) (hh:0<y) (hl:lo<18446744073709551616) (hy:y<18446744073709551616):
 Calls Tryz.prog 81 #[.int .u64 0,.int .u64 lo,.int .u64 y] w fun e w'=>e=.returned (.tuple #[.int .u64 ((lo/y:Nat):Int),.int .u64 ((lo % y:Nat):Int)])/\Below w.heap.size w w':=by
 have z1:((y:Int)==0)=false:=by simp;omega
 have z3:decide ((y:Int)<=0)=false:=by simp;omega
 have z4:(0:Int)<(y:Int):=oa
 have b1:=Nat.div_le_self lo y
 have b2:=Nat.mod_le lo y
 have e1:(lo:Int)/(y:Int)=((lo/y:Nat):Int):=by simp
 have e2:(lo:Int) % (y:Int)=((lo % y:Nat):Int):=by simp
 have w1:IntKind.u64.wrap ((lo:Int)/(y:Int))=((lo/y:Nat):Int):=by
  rw[e1];clear e1 e2 z1 z3 z4;generalize lo/y=q at *;rw[IntKind.wrap_u64];omega
 have w2:IntKind.u64.wrap ((lo:Int) % (y:Int))=((lo % y:Nat):Int):=by
  rw[e2];clear e1 e2 z1 z3 z4;generalize lo % y=q at *;rw[IntKind.wrap_u64];omega
 have W1:=aa w1
 have W2:=aa w2
 have E2:=aa e2
 clear e1 e2 w1 w2 b1 b2 hl hy hh
 go_enter Tryz.func81,Tryz.ntmps81
 go_upto_region 6 with(fail)
 go_region
 go_wp2_with (fail)
 go_ret2
 refine⟨gP ?_ ?_,by exact(Below.refl _ _).drew⟩
 ·first|exact W1.out|simp
 ·first|exact W2.out|exact E2.out|simp
theorem ru (hi lo y:Nat) (w:World) (hh:hi<y) (hl:lo<18446744073709551616) (hy:y<18446744073709551616):
 Calls Tryz.prog 81 #[.int .u64 hi,.int .u64 lo,.int .u64 y] w fun e w'=>e=.returned (.tuple #[.int .u64 (((hi*18446744073709551616+lo)/y:Nat):Int),.int .u64 (((hi*18446744073709551616+lo) % y:Nat):Int)])/\Below w.heap.size w w':=by
 by_cases h0:hi=0
 ·subst h0
  refine(uK lo y w hh hl hy).mono ?_
  rintro e w1 ⟨rfl,hb⟩
  rw[Nat.zero_mul,Nat.zero_add]
  exact⟨rfl,hb⟩
 ·refine(zJ hi lo y w oa hh hl hy).mono ?_
  rintro e w1 ⟨rfl,rfl⟩
  exact⟨rfl,Below.refl _ _⟩
theorem i9 (a:Int) (w:World) (h:bu a):
 Calls Tryz.prog 37 #[.int .i64 a] w fun e w'=>e=.returned (.int .u64 (a.natAbs:Nat))/\w=w':=by
 obtain⟨h0,h1⟩:=h
 go_enter Tryz.func37,Tryz.ntmps37
 go_wp2
 all_goals go_ret
 ·refine⟨congrArg (fun n=>Ending.returned (.int .u64 n)) ?_,rfl⟩
  simp only[IntKind.wrap_u64];omega
 ·refine⟨congrArg (fun n=>Ending.returned (.int .u64 n)) ?_,rfl⟩
  omega
theorem jx (neg:Bool) (n:Nat) (w:World) (h:n<18446744073709551616):
 Calls Tryz.prog 82 #[.bool neg,.int .u64 n] w fun e w'=>e=.returned (.tuple #[.int .i64 (dG (qx neg n)),.int .i64 (gu (qx neg n))])/\w=w':=by
 have HF:=aa (show∀neg,jA (qx neg n)=true↔(if neg then n<=9223372036854775808 else n<=9223372036854775807) by
  intro neg;cases neg<;>simp[jA,qx]<;>omega)
 cases neg
 all_goals
  go_enter Tryz.func82,Tryz.ntmps82
  go_wp2
 all_goals go_ret2
 ·have hf:jA (qx false n)=true:=(HF.out false).2 (by simp;omega)
  exact⟨gP (by rw[jP hf];rfl) (by rw[lJ hf]),rfl⟩
 ·have hf:jA (qx false n)=false:=by
   rw[Bool.eq_false_iff];intro hc;have:=(HF.out false).1 hc;simp at this;omega
  exact⟨gP (by rw[ju hf]) (by rw[iO hf]),rfl⟩
 ·have hf:jA (qx true n)=true:=(HF.out true).2 (by simp;omega)
  refine⟨gP ?_ (by rw[lJ hf]),rfl⟩
  rw[jP hf]
  simp only[qx,if_true,wrap64]<;>omega
 ·have hf:jA (qx true n)=false:=by
   rw[Bool.eq_false_iff];intro hc;have:=(HF.out true).1 hc;simp at this;omega
  exact⟨gP (by rw[ju hf]) (by rw[iO hf]),rfl⟩
theorem iw (a b c:Int) (w:World) (ha:bu a) (hb:bu b) (hc:bu c):
 Calls Tryz.prog 47 #[.int .i64 a,.int .i64 b,.int .i64 c] w fun e w'=>e=.returned (.tuple #[.int .i64 (bG a b c),.int .i64 (lx a b c)])/\Below w.heap.size w w':=by
 by_cases hc0:c=0
 ·subst hc0
  go_enter Tryz.func47,Tryz.ntmps47
  go_wp2_with (fail)
  go_ret2
  exact⟨rfl,Below.refl _ _⟩
 have hV:bG a b c=dG (eM a b c):=by unfold bG;rw[if_neg hc0]
 have hE:lx a b c=gu (eM a b c):=by unfold lx;rw[if_neg hc0]
 rw[hV,hE]
 clear hV hE
 have hcz:(c==0)=false:=by simpa using hc0
 obtain⟨neg,hneg⟩:∃neg,neg=((decide (a<0) !=decide (b<0)) !=decide (c<0)):=⟨_,rfl⟩
 obtain⟨A,hA⟩:∃A,A=a.natAbs:=⟨_,rfl⟩
 obtain⟨B,hB⟩:∃B,B=b.natAbs:=⟨_,rfl⟩
 obtain⟨C,hC⟩:∃C,C=c.natAbs:=⟨_,rfl⟩
 have ha':=ha
 have hb':=hb
 have hc':=hc
 obtain⟨ha1,ha2⟩:=ha'
 obtain⟨hb1,hb2⟩:=hb'
 obtain⟨hc1,hc2⟩:=hc'
 have hA64:A<18446744073709551616:=oa
 have hB64:B<18446744073709551616:=oa
 have hC63:C<=9223372036854775808:=oa
 have hC0:0<C:=oa
 obtain⟨Q,hQ⟩:∃Q,Q=A*B/C:=⟨_,rfl⟩
 obtain⟨r,hr⟩:∃r,r=A*B % C:=⟨_,rfl⟩
 have hqr:A*B=C*Q+r:=by rw[hQ,hr];exact(Nat.div_add_mod _ _).symm
 have hrC:r<C:=by rw[hr];exact Nat.mod_lt _ hC0
 have hrat:=Aa (a:=a) (b:=b) (c:=c) (A:=A) (B:=B) (C:=C) (q:=Q) (r:=r) neg oa oa oa oa oa oa
  (by rw[<-Int.natCast_mul,hqr,Int.natCast_add,Int.natCast_mul]) oa oa hneg
 obtain⟨H,hH⟩:∃H,H=A*B/18446744073709551616:=⟨_,rfl⟩
 obtain⟨L,hL⟩:∃L,L=A*B % 18446744073709551616:=⟨_,rfl⟩
 have hHL:H*18446744073709551616+L=A*B:=by rw[hH,hL];omega
 have hL64:L<18446744073709551616:=by rw[hL];omega
 have HRAT:=aa hrat
 have HNEG:=aa (show neg=!((!(decide (a<0)==decide (b<0)))==decide (c<0))from hneg)
 have HHH:=aa hH
 have HHL:=aa hL
 have HAA:=aa hA
 have HBB:=aa hB
 have HCC:=aa hC
 have HQQ:=aa hQ
 have HRR:=aa hr
 have HSUM:=aa hHL
 have HA64:=aa hA64
 have HB64:=aa hB64
 have HL64:=aa hL64
 have HC63:=aa hC63
 have HRC:=aa hrC
 have HI1:=aa ha
 have HI2:=aa hb
 have HI3:=aa hc
 clear hrat hneg hH hL hA hB hC hQ hr hHL hA64 hB64 hL64 hC63 ha hb hc hqr hrC hc0 hC0 ha1 ha2 hb1 hb2 hc1 hc2
 go_enter Tryz.func47,Tryz.ntmps47
 go_upto_region 4 with(fail)
 rw[<-HNEG.out]
 go_upto_region 5 with(first|(go_at_call 37;refine(i9 _ _ (by first|exact HI1.out|exact HI2.out)).mono ?_;rintro e w1 ⟨rfl,rfl⟩;first|rw[<-HAA.out]|rw[<-HBB.out])|(go_at_call 36;refine(eJ _ _ _ HA64.out HB64.out).mono ?_;rintro e w1 ⟨rfl,rfl⟩;rw[<-HHH.out,<-HHL.out]))
 go_upto_region 6 with(go_at_call 37;refine(i9 _ _ HI3.out).mono ?_;rintro e w1 ⟨rfl,rfl⟩;rw[<-HCC.out])
 by_cases hHC:C<=H
 ·have hd:decide (C<=H)=true:=dT hHC
  have hQb:18446744073709551616<=Q:=by
   rw[HQQ.out,Nat.le_div_iff_mul_le (Nat.lt_of_le_of_lt (Nat.zero_le r) HRC.out)]
   rw[HHH.out,Nat.le_div_iff_mul_le oa,Nat.mul_comm]at hHC
   exact hHC
  have HQB:=aa hQb
  clear hHC hQb
  go_wp2_with (fail)
  go_ret2
  have hf:jA (eM a b c)=false:=by
   have:=HQB.out
   rw[HRAT.out]
   cases neg<;>simp only[jA,if_true,if_false,Bool.false_eq_true]<;>split<;>simp<;>omega
  exact⟨gP (ju hf).symm (iO hf).symm,Below.refl _ _⟩
 ·have hd:decide (C<=H)=false:=dF hHC
  have HHC:=aa (show H<C by omega)
  have HC64:=aa (show C<18446744073709551616 by have:=HC63.out;omega)
  clear hHC
  go_upto_region 9 with(go_at_call 81;refine(ru H L C _ HHC.out HL64.out HC64.out).mono ?_;rintro e w1 ⟨rfl,hbw⟩;rw[HSUM.out,<-HQQ.out,<-HRR.out])
  by_cases hbig:9223372036854775808<Q
  ·have hd2:decide ((9223372036854775808:Int)<(Q:Int))=true:=dT oa
   have HQB:=aa hbig
   clear hbig
   go_wp2_with (fail)
   go_ret2
   have hf:jA (eM a b c)=false:=by
    have:=HQB.out
    rw[HRAT.out]
    cases neg<;>simp only[jA,if_true,if_false,Bool.false_eq_true]<;>split<;>simp<;>omega
   exact⟨gP (ju hf).symm (iO hf).symm,hbw⟩
  ·have hd2:decide ((9223372036854775808:Int)<(Q:Int))=false:=dF oa
   have HQ63:=aa (show Q<=9223372036854775808 by omega)
   have hw:IntKind.u64.wrap (2* (r:Int))=2* (r:Int):=by
    have:=HRC.out;have:=HC63.out;rw[IntKind.wrap_u64];omega
   have hw2:IntKind.u64.wrap ((Q:Int)+1)=((Q+1:Nat):Int):=by
    have:=HQ63.out;rw[IntKind.wrap_u64];omega
   clear hbig
   by_cases h1:C<2*r
   ·have hd3:decide ((C:Int)<2* (r:Int))=true:=dT oa
    have H1:=aa h1
    clear h1
    go_wp2_with (go_at_call 82;refine(jx _ (Q+1) _ (by have:=HQ63.out;omega)).mono ?_;rintro e w3 ⟨rfl,rfl⟩)
    go_ret2
    have e:eM a b c=qx neg (Q+1):=by
     rw[HRAT.out];have:=H1.out;cases neg<;>simp only[qx,if_true,if_false,Bool.false_eq_true]<;>split<;>omega
    exact⟨gP (by rw[e]) (by rw[e]),hbw⟩
   ·have hd3:decide ((C:Int)<2* (r:Int))=false:=dF oa
    by_cases h2:2*r=C
    ·have hd4:(2* (r:Int)==(C:Int))=true:=by simp;omega
     have H2:=aa h2
     clear h1 h2
     cases neg
     ·go_wp2_with (go_at_call 82;refine(jx _ (Q+1) _ (by have:=HQ63.out;omega)).mono ?_;rintro e w3 ⟨rfl,rfl⟩)
      go_ret2
      have e:eM a b c=qx false (Q+1):=by
       rw[HRAT.out];have:=H2.out;simp only[qx,if_false,Bool.false_eq_true];split<;>omega
      exact⟨gP (by rw[e]) (by rw[e]),hbw⟩
     ·go_wp2_with (go_at_call 82;refine(jx _ Q _ (by have:=HQ63.out;omega)).mono ?_;rintro e w3 ⟨rfl,rfl⟩)
      go_ret2
      have e:eM a b c=qx true (Q):=by
       rw[HRAT.out];have:=H2.out;simp only[qx,if_true];split<;>omega
      exact⟨gP (by rw[e]) (by rw[e]),hbw⟩
    ·have hd4:(2* (r:Int)==(C:Int))=false:=by simp;omega
     have H2:=aa (show 2*r<C by omega)
     clear h1 h2
     go_wp2_with (go_at_call 82;refine(jx _ Q _ (by have:=HQ63.out;omega)).mono ?_;rintro e w3 ⟨rfl,rfl⟩)
     go_ret2
     have e:eM a b c=qx neg (Q):=by
      rw[HRAT.out];have:=H2.out;cases neg<;>simp only[qx,if_true,if_false,Bool.false_eq_true]<;>split<;>omega
     exact⟨gP (by rw[e]) (by rw[e]),hbw⟩
def aI (a tK high:Int):Int:=if high<(if a<tK then tK else a)then high else(if a<tK then tK else a)
theorem GG {k:IntKind} {a b:Int} (h:a=b):Ending.returned (.int k a)=Ending.returned (.int k b):=by rw[h]
theorem i4 (a l h:Int) (w:World):
 Calls Tryz.prog 72 #[.int .i64 a,.int .i64 l,.int .i64 h] w fun e w'=>e=.returned (.int .i64 (aI a l h))/\w=w':=by
 go_enter Tryz.func72,Tryz.ntmps72
 go_wp2
 all_goals go_ret
 all_goals exact⟨GG (by unfold aI;(repeat' split)<;>omega),rfl⟩
theorem Hj {n j:Nat} (h:n % 2^(j+1)=0) (hn:n<18446744073709551616) (hj:2^j<18446744073709551616):bits .or .u64 (n:Int) ((2^j:Nat):Int)=((n+2^j:Nat):Int):=by
 rw[bits_or_u64_nat n (2^j) hn hj]
 obtain⟨q,hq⟩:∃q,q=n/2^(j+1):=⟨_,rfl⟩
 have hd:=Nat.div_add_mod n (2^(j+1))
 rw[h,<-hq,Nat.add_zero]at hd
 rw[<-hd,Nat.two_pow_add_eq_or_of_lt (Nat.pow_lt_pow_right oa oa)]
theorem BZ (hi lo:Nat) (w:World) (hl:lo<18446744073709551616) (hh:hi<4611686018427387904):
 Calls Tryz.prog 39 #[.int .u64 hi,.int .u64 lo] w fun e w'=>e=.returned (.int .u64 (fY (hi*18446744073709551616+lo):Nat))/\w=w':=by
 obtain⟨N,hN⟩:∃N,N=hi*18446744073709551616+lo:=⟨_,rfl⟩
 rw[<-hN]
 have HN:=aa hN
 have HNb:=aa (show N<2^63*2^63 by rw[hN];omega)
 have HL:=aa hl
 have HH:=aa hh
 clear hN hl hh
 go_enter Tryz.func39,Tryz.ntmps39
 go_wp2_with (fail)
 go_loopg [5,6] 63 (fun k nv bv wr=>∃n:Nat,nv=.int .u64 (n:Nat)/\bv=.int .u64 ((2^k/2:Nat):Int)/\Hid (n % 2^k=0)/\Hid (n*n<=N)/\Hid (N<(n+2^k)* (n+2^k))/\k<=63/\w=wr)
 case atStart=>exact⟨0,rfl,rfl,Nat.zero_mod _,Nat.zero_le _,by show _<_;have:=HNb.out;rw[Nat.zero_add];exact this,oa,rfl⟩
 case round=>
  obtain⟨n,rfl,rfl,hn0,hnn,hnu,hk,rfl⟩:=hrel
  rcases Nat.eq_zero_or_pos gk with h0|h0
  ·subst h0
   go_wp2_with (fail)
   go_ret
   refine⟨GG ?_,rfl⟩
   rw[BR (nq HNb.out da) hnn.out (by have:=hnu.out;rw[Nat.pow_zero]at this;exact this)]
  ·obtain⟨j,rfl⟩:∃j,gk=j+1:=⟨gk-1,oa⟩
   obtain⟨b,hb⟩:∃b,b=2^j:=⟨_,rfl⟩
   have hb2:2^(j+1)/2=b:=by rw[Nat.pow_succ,Nat.mul_div_cancel _ oa,hb]
   rw[hb2]
   have hb0:0<b:=by rw[hb];exact Nat.pos_of_ne_zero sd
   have hbt:decide ((0:Int)<(b:Int))=true:=dT oa
   have hbi:(0:Int)<(b:Int):=oa
   have hn63:n<2^63:=mf (Nat.lt_of_le_of_lt hnn.out HNb.out)
   have hb63:b<=2^62:=by rw[hb];exact Nat.pow_le_pow_right oa oa
   obtain⟨m,hm⟩:∃m,m=n+b:=⟨_,rfl⟩
   have hor:bits .or .u64 (n:Int) (b:Int)=(m:Int):=by
    rw[hm,hb];exact Hj hn0.out oa (by rw[<-hb];omega)
   have hm64:m<18446744073709551616:=oa
   obtain⟨p,hp⟩:∃p,p=m*m/18446744073709551616:=⟨_,rfl⟩
   obtain⟨q,hq⟩:∃q,q=m*m % 18446744073709551616:=⟨_,rfl⟩
   have hpq:m*m=p*18446744073709551616+q:=by rw[hp,hq];omega
   have hq64:q<18446744073709551616:=by rw[hq];omega
   have hb22:2^(j+1)=b+b:=by rw[Nat.pow_succ,hb];omega
   have hmod:n % 2^j=0:=by
    have h1:=hn0.out
    have h2:=Nat.div_add_mod n (2^(j+1))
    rw[h1,Nat.add_zero,Nat.pow_succ,Nat.mul_assoc]at h2
    rw[<-h2];exact Nat.mul_mod_right _ _
   have hm0:Hid (m % 2^j=0):=by show _=_;rw[hm,<-hb,Nat.add_mod_right];rw[hb];exact hmod
   have hn0:Hid (n % 2^j=0):=hmod
   have hdec:m*m<=N↔(p<hi\/p=hi/\q<=lo):=by
    have:=HN.out;have:=HL.out;rw[hpq];omega
   have hmu:Hid (N<(m+2^j)* (m+2^j)):=by
    show _<_
    have:=hnu.out
    rw[hb22]at this
    rw[<-hb,hm,Nat.add_assoc];exact this
   have HB2:=aa (show b/2=2^j/2 by rw[hb])
   have HP:=aa hp
   have HQ:=aa hq
   have HM64:=aa hm64
   have HMB:=aa (show m=n+2^j by rw[hm,hb])
   have HD:=aa hdec
   clear hb hb2 hm hp hq hpq hq64 hb22 hmod hnu hn63 hb63 hm64 hb0 hdec
   by_cases c1:p<hi
   ·have d1:decide (p<hi)=true:=dT c1
    have hmm:Hid (m*m<=N):=HD.out.2 (Or.inl c1)
    clear c1
    go_wp2_with (go_at_call 36;refine(eJ _ _ _ HM64.out HM64.out).mono ?_;rintro e w1 ⟨rfl,rfl⟩;rw[<-HP.out,<-HQ.out])
    go_roundg j
    case rel=>exact⟨m,rfl,by rw[<-HB2.out];simp,hm0,hmm,hmu,oa,rfl⟩
    case measure=>omega
   ·have d1:decide (p<hi)=false:=dF c1
    by_cases c2:p=hi
    ·have d2:((p:Int)==(hi:Int))=true:=by simp;omega
     by_cases c3:q<=lo
     ·have d3:decide (q<=lo)=true:=dT c3
      have hmm:Hid (m*m<=N):=HD.out.2 (Or.inr ⟨c2,c3⟩)
      clear c1 c2 c3
      go_wp2_with (go_at_call 36;refine(eJ _ _ _ HM64.out HM64.out).mono ?_;rintro e w1 ⟨rfl,rfl⟩;rw[<-HP.out,<-HQ.out])
      go_roundg j
      case rel=>exact⟨m,rfl,by rw[<-HB2.out];simp,hm0,hmm,hmu,oa,rfl⟩
      case measure=>omega
     ·have d3:decide (q<=lo)=false:=dF c3
      have hnu:Hid (N<(n+2^j)* (n+2^j)):=by
       show _<_
       rw[<-HMB.out];apply Nat.lt_of_not_le;intro h;have:=HD.out.1 h;omega
      clear c1 c2 c3
      go_wp2_with (go_at_call 36;refine(eJ _ _ _ HM64.out HM64.out).mono ?_;rintro e w1 ⟨rfl,rfl⟩;rw[<-HP.out,<-HQ.out])
      go_roundg j
      case rel=>exact⟨n,rfl,by rw[<-HB2.out];simp,hn0,hnn,hnu,oa,rfl⟩
      case measure=>omega
    ·have d2:((p:Int)==(hi:Int))=false:=by simp;omega
     have hnu:Hid (N<(n+2^j)* (n+2^j)):=by
      show _<_
      rw[<-HMB.out];apply Nat.lt_of_not_le;intro h;have:=HD.out.1 h;omega
     clear c1 c2
     go_wp2_with (go_at_call 36;refine(eJ _ _ _ HM64.out HM64.out).mono ?_;rintro e w1 ⟨rfl,rfl⟩;rw[<-HP.out,<-HQ.out])
     go_roundg j
     case rel=>exact⟨n,rfl,by rw[<-HB2.out];simp,hn0,hnn,hnu,oa,rfl⟩
     case measure=>omega
def iL (w:World) (v:Value) (xs:List Int):Prop:=
 (xs=[]/\∃a c,v=.slice a 0 c)\/(0<xs.length/\∃b off cap,v=.slice (some ⟨b,off,none⟩) xs.length cap/\b<w.heap.size/\∀k,k<xs.length->w.cell? ⟨b,off+k,none⟩=some (.int .i64 (xs.getD k 0)))
def i6:List Int->Nat
 |[]=>0
 |x::xs=>x.natAbs*x.natAbs+i6 xs
theorem ib:i6 []=0:=rfl
theorem dj (x:Int) (xs:List Int):i6 (x::xs)=x.natAbs*x.natAbs+i6 xs:=rfl
theorem iY:∀(xs:List Int) (k:Nat),k<xs.length->i6 (xs.take (k+1))=i6 (xs.take k)+(xs.getD k 0).natAbs* (xs.getD k 0).natAbs
 |[],k,h=>absurd h sd
 |x::xs,0,_=>by simp[i6]
 | x::xs,k+1,h=>by
   have:=iY xs k (by simpa using h)
   rw[List.take_succ_cons,i6,this,List.take_succ_cons,i6]
   simp;omega
theorem nP (xs:List Int):∀k,i6 (xs.take k)<=i6 xs:=by
 induction xs with
 |nil=>intro k;simp
 | cons x xs ih=>intro k;cases k with
   |zero=>simp[i6]
   |succ k=>rw[List.take_succ_cons,i6,i6];have:=ih k;omega
theorem vA {hi lo p q r c S S' AA M:Nat} (h1:hi*M+lo=S) (h2:p*M+q=AA) (h3:lo+q=c*M+r) (h4:S'=S+AA):
 (hi+(p+c))*M+r=S':=by
 rw[h4,<-h1,<-h2,Nat.add_mul,Nat.add_mul]
 omega
attribute [irreducible] i6
theorem rg (x y r c:Nat) (hx:x<18446744073709551616) (hy:y<18446744073709551616) (h:x+y=c*18446744073709551616+r) (hr:r<18446744073709551616) (w:World):
 (callFunc 38 #[.int .u64 x,.int .u64 y,.int .u64 0]).run Tryz.prog w=.ok (.value (.tuple #[.int .u64 (r:Int),.int .u64 (c:Int)])) w:=by
 rw[run_callFunc_extern Tryz.func38 ke ke ke (e:=add64Entry) ke,run_add64 x y 0 oa oa oa oa]
 have h1:((x:Int)+(y:Int)+0) % 18446744073709551616=(r:Int):=oa
 have h2:((x:Int)+(y:Int)+0)/18446744073709551616=(c:Int):=oa
 rw[h1,h2];rfl
def ig (xs:List Int):Int:=(fY (i6 xs):Nat)
theorem o8 {a:Int} (h:bu a):a.natAbs*a.natAbs<=85070591730234615865843651857942052864:=by
 obtain⟨h1,h2⟩:=h
 exact Nat.mul_le_mul (n₁:=a.natAbs) (m₁:=a.natAbs) (n₂:=9223372036854775808) (m₂:=9223372036854775808) oa oa
theorem xG:∀(xs:List Int) (k:Nat),xs.length<=k->(∀i,i<xs.length->bu (xs.getD i 0))->i6 xs<=k*85070591730234615865843651857942052864
 |[],k,_,_=>by rw[ib];exact Nat.zero_le _
 |x::xs,0,h,_=>absurd h sd
 | x::xs,k+1,h,hi=>by
   have h1:=xG xs k (by simpa using h) (fun i h=>by have:=hi (i+1) (by simpa using h);simpa using this)
   have h2:=o8 (hi 0 sd)
   rw[dj,Nat.add_mul,Nat.one_mul,Nat.add_comm]
   exact Nat.add_le_add h1 (by simpa using h2)
theorem Gj {P r S T:Nat} (hP:4611686018427387904<=P) (h:P*18446744073709551616+r=S) (h2:S<=T) (h3:T<=8*85070591730234615865843651857942052864):9223372036854775808<=fY T:=by
 have h4:T<4^200:=Nat.lt_of_le_of_lt h3 da
 rw[gN h4,<-Nat.not_lt]
 have h5:4611686018427387904*18446744073709551616<=P*18446744073709551616:=Nat.mul_le_mul_right _ hP
 intro h6
 have h7:P*18446744073709551616<=T:=nk (Nat.le_of_add_right_le (Nat.le_of_eq h)) h2
 exact absurd (Nat.lt_of_le_of_lt (nk h5 h7) h6) da
theorem I4 {hi lo S:Nat} (hh:hi<4611686018427387904) (hl:lo<18446744073709551616) (h:hi*18446744073709551616+lo=S):fY S<9223372036854775808:=by
 have h1:S<9223372036854775808*9223372036854775808:=by
  rw[<-h]
  have h2:hi*18446744073709551616<=4611686018427387903*18446744073709551616:=Nat.mul_le_mul_right _ oa
  exact nq (Nat.add_lt_add_of_le_of_lt h2 hl) da
 rw[fc (Nat.lt_trans h1 da)];exact h1
theorem mO (xs:List Int) (v:Value) (w:World) (hv:iL w v xs) (hx:∀k,k<xs.length->bu (xs.getD k 0)):
 Calls Tryz.prog 15 #[v] w fun e w'=>e=.returned (.tuple #[.int .i64 (if 8<xs.length then 0 else dG (ig xs)),.int .i64 (if 8<xs.length then 2 else gu (ig xs))])/\w=w':=by
 have hlenI:∀a c n,v=.slice a n c->n=xs.length:=by
  rintro a c n rfl
  rcases hv with⟨h,a',c',hh⟩|⟨_,b,off,cap,hh,_⟩
  ·cases hh;rw[h];rfl
  ·cases hh;rfl
 obtain⟨va,vc,n,rfl⟩:∃a c n,v=.slice a n c:=by
  rcases hv with⟨h,a',c',hh⟩|⟨_,b,off,cap,hh,_⟩
  ·exact⟨_,_,_,hh⟩
  ·exact⟨_,_,_,hh⟩
 have hn:=hlenI _ _ _ rfl
 clear hlenI
 by_cases h8:8<n
 ·rw[if_pos (hn▸h8),if_pos (hn▸h8)]
  have hd:decide (8<n)=true:=dT h8
  have hd':decide ((8:Int)<(n:Int))=true:=dT oa
  clear hv hx hn
  go_enter Tryz.func15,Tryz.ntmps15
  go_wp2_with (fail)
  go_ret2
  exact⟨rfl,rfl⟩
 ·rw [if_neg (hn▸h8),if_neg (hn▸h8)]
  have hd:decide (8<n)=false:=dF h8
  have hd':decide ((8:Int)<(n:Int))=false:=dF oa
  have HN:=aa hn
  have HV:=aa hv
  have HX:=aa hx
  have HTOT:=aa (nP xs)
  have HTOT2:=aa (xG xs 8 oa hx)
  have hn8:n<=8:=oa
  clear hn hv hx h8
  go_enter Tryz.func15,Tryz.ntmps15
  go_wp2_with (fail)
  go_loopg [4,5,16] n (fun g hv lv iv wr=>∃hi lo k:Nat,hv=.int .u64 hi/\lv=.int .u64 lo/\iv=.int .i64 k/\Hid (hi*18446744073709551616+lo=i6 (xs.take k))/\Hid (hi<4611686018427387904)/\Hid (lo<18446744073709551616)/\g+k=n/\w=wr)
  case atStart=>exact⟨0,0,0,rfl,rfl,rfl,by show _=_;exact ib.symm,by show _<_;omega,by show _<_;omega,rfl,rfl⟩
  case round=>
   obtain⟨hi,lo,k,rfl,rfl,rfl,hs,hh,hl,hk,rfl⟩:=hrel
   by_cases hkn:k<n
   ·have hdk:decide ((k:Int)<(n:Int))=true:=dT oa
    have hdk':decide (k<n)=true:=dT oa
    obtain⟨b,off,rfl,hcell⟩:∃b off,va=some ⟨b,off,none⟩/\w.cell? ⟨b,off+k,none⟩=some (.int .i64 (xs.getD k 0)):=by
     rcases HV.out with⟨h,_⟩|⟨_,b,off,cap,hh,_,hc⟩
     ·have:=HN.out;rw[h]at this;simp at this;omega
     ·cases hh;exact⟨b,off,rfl,hc k hkn⟩
    have hI:=HX.out k (by have:=HN.out;omega)
    have hsx:=iY xs k (by have:=HN.out;omega)
    have htot:=HTOT.out (k+1)
    obtain⟨A,hA⟩:∃A,A=(xs.getD k 0).natAbs:=⟨_,rfl⟩
    rw[<-hA]at hsx
    have hAA:A*A<=85070591730234615865843651857942052864:=by rw[hA];exact o8 hI
    obtain⟨p,hp⟩:∃p,p=A*A/18446744073709551616:=⟨_,rfl⟩
    obtain⟨q,hq⟩:∃q,q=A*A % 18446744073709551616:=⟨_,rfl⟩
    have hpq:p*18446744073709551616+q=A*A:=by rw[hp,hq];omega
    obtain⟨r,hr⟩:∃r,r=(lo+q) % 18446744073709551616:=⟨_,rfl⟩
    obtain⟨c,hc⟩:∃c,c=(lo+q)/18446744073709551616:=⟨_,rfl⟩
    have hpb:p<=4611686018427387904:=by rw[hp];omega
    have hqb:q<18446744073709551616:=by rw[hq];omega
    have hrb:r<18446744073709551616:=by rw[hr];omega
    have hrc:lo+q=c*18446744073709551616+r:=by rw[hr,hc];omega
    have hl':=hl.out
    have hh':=hh.out
    have hcb:c<=1:=oa
    have hnew:(hi+(p+c))*18446744073709551616+r=i6 (xs.take (k+1)):=by
     exact vA hs.out hpq hrc hsx
    have hadd:=rg lo q r c hl' hqb hrc hrb
    have hw1:IntKind.u64.wrap ((p:Int)+(c:Int))=((p+c:Nat):Int):=by rw[IntKind.wrap_u64];omega
    have hw2:IntKind.u64.wrap ((hi:Int)+((p:Int)+(c:Int)))=((hi+(p+c):Nat):Int):=by rw[IntKind.wrap_u64];omega
    have hw3:IntKind.i64.wrap ((k:Int)+1)=((k+1:Nat):Int):=by rw[wI];omega
    obtain⟨P,hP⟩:∃P,P=hi+(p+c):=⟨_,rfl⟩
    rw[<-hP]at hw2 hnew
    have HI:=aa hI
    have HA:=aa hA
    have HA64:=aa (show A<18446744073709551616 by rw[hA];have:=hI.1;have:=hI.2;omega)
    have HP:=aa hp
    have HQ:=aa hq
    have HR:=aa (show Hid (r<18446744073709551616)from hrb)
    have HNEW:=aa hnew
    have HTO:=aa htot
    have hk8:k<=8:=oa
    clear hpq hI hA hp hq hr hc hpb hqb hrb hrc hl' hh' hcb hnew htot hsx hAA hP hs
    by_cases c1:P<4611686018427387904
    ·have d1:decide ((4611686018427387904:Int)<=(P:Int))=false:=dF oa
     have hPb:=aa c1
     clear c1
     go_upto_region 6 with(fail)
     go_upto_region 7 with(fail)
     go_upto_region 8 with(first|(go_at_call 37;refine(i9 _ _ HI.out).mono ?_;rintro e w1 ⟨rfl,rfl⟩;rw[<-HA.out])|(go_at_call 36;refine(eJ _ _ _ HA64.out HA64.out).mono ?_;rintro e w1 ⟨rfl,rfl⟩;rw[<-HP.out,<-HQ.out]))
     go_upto_region 9 with(fail)
     go_upto_region 10 with(simp only[hadd])
     go_upto_region 11 with(fail)
     go_wp2_with (fail)
     go_roundg (n-(k+1))
     case rel=>exact⟨P,r,k+1,rfl,rfl,rfl,HNEW.out,hPb,HR.out,oa,rfl⟩
     case measure=>omega
    ·have d1:decide ((4611686018427387904:Int)<=(P:Int))=true:=dT oa
     have hPb:=aa (show 4611686018427387904<=P by omega)
     clear c1
     go_upto_region 6 with(fail)
     go_upto_region 7 with(fail)
     go_upto_region 8 with(first|(go_at_call 37;refine(i9 _ _ HI.out).mono ?_;rintro e w1 ⟨rfl,rfl⟩;rw[<-HA.out])|(go_at_call 36;refine(eJ _ _ _ HA64.out HA64.out).mono ?_;rintro e w1 ⟨rfl,rfl⟩;rw[<-HP.out,<-HQ.out]))
     go_upto_region 9 with(fail)
     go_upto_region 10 with(simp only[hadd])
     go_upto_region 11 with(fail)
     go_wp2_with (fail)
     go_ret2
     have hno:jA (ig xs)=false:=by
      have h1:=Gj hPb.out HNEW.out HTO.out HTOT2.out
      rw[Bool.eq_false_iff];intro h;simp[jA]at h;unfold ig at h;omega
     exact⟨gP (ju hno).symm (iO hno).symm,rfl⟩
   ·have hkn2:k=n:=oa
    have hdk:decide ((k:Int)<(n:Int))=false:=dF oa
    have hdk':decide (k<n)=false:=dF oa
    have hs2:=hs.out
    rw[hkn2,HN.out,List.take_length]at hs2
    have hlt:=I4 hh.out hl.out hs2
    have HS:=aa hs2
    have hyes:jA (ig xs)=true:=by unfold ig jA;simp;omega
    have HY:=aa hyes
    obtain⟨rr,hrr⟩:∃rr,fY (i6 xs)=rr:=⟨_,rfl⟩
    rw[hrr]at hlt
    have hw2:IntKind.i64.wrap (rr:Int)=(rr:Int):=by rw[wI];omega
    have HRR:=aa hrr
    clear hs2 hlt hyes hkn2 hs hrr
    go_wp2_with (go_at_call 39;refine(BZ hi lo _ hl.out hh.out).mono ?_;rintro e w1 ⟨rfl,rfl⟩;rw[HS.out,HRR.out])
    go_ret2
    exact⟨gP (by rw[jP HY.out];unfold ig;rw[HRR.out];first|done|exact hw2) (lJ HY.out).symm,rfl⟩
end Go.Proofs.YtbhahonkhiiilaaGreat
