/-
  Calls that turn blocks of an interval alone. No program in sight.
-/
import Derived.Test.YtbhahonkhiiilaaGreatLawQ
import Derived.Test.YtbhahonkhiiilaaGreatTurn
set_option linter.unusedSimpArgs false
set_option linter.unusedVariables false
set_option maxRecDepth 100000
set_option maxHeartbeats 4000000
namespace Go.Proofs.YtbhahonkhiiilaaGreat
section
open Go.RowKit PM Dt
structure co (lo hi:Nat) (a w:World):Prop where
 os:w.os=a.os
 tape:w.tape=a.tape
 output:w.output=a.output
 size:a.heap.size<=w.heap.size
 block:∀k,k<a.heap.size->(k<lo\/hi<k)->w.heap[k]?=a.heap[k]?
variable{lo hi:Nat} {a b c:World}
theorem co.of (h:Below a.heap.size a b):co lo hi a b:=⟨h.os,h.tape,h.output,h.size,fun k hk _=>h.block k hk⟩
theorem co.trans (h:co lo hi a b) (k:Below a.heap.size b c):co lo hi a c:=
 ⟨k.os.trans h.os,k.tape.trans h.tape,k.output.trans h.output,nk h.size k.size,fun j hj ho=>(k.block j hj).trans (h.block j hj ho)⟩
theorem co.next (h:co lo hi a b) (k:co lo hi b c):co lo hi a c:=
 ⟨k.os.trans h.os,k.tape.trans h.tape,k.output.trans h.output,nk h.size k.size,fun j hj ho=>(k.block j (nq hj h.size) ho).trans (h.block j hj ho)⟩
theorem co.alloc (h:co lo hi a b) (hs:a.heap.size<=b.heap.size) (o:Obj):co lo hi a (b.alloc o):=h.trans ((Below.refl _ _).alloc hs o)
theorem co.drew (h:co lo hi a b):co lo hi a b.drew:=⟨h.os,h.tape,h.output,h.size,h.block⟩
theorem co.row (h:co lo hi a b) {g:Nat} (hg:(lo<=g/\g<=hi)\/a.heap.size<=g) (x:Array Value):co lo hi a (b.setRow g x):=
 ⟨h.os,h.tape,h.output,by simpa using h.size,fun k hk ho=>by rw[setRow_other _ _ _ _ oa];exact h.block k hk ho⟩
theorem co.below (h:co lo hi a b) {n:Nat} (hn:n<=a.heap.size) (hl:n<=lo):Below n a b:=⟨h.os,h.tape,h.output,h.size,fun k hk=>h.block k oa oa⟩
theorem af.save {x:Nat} {cs:Array Value} {t:TypeId} (h:af a x cs t) (hs:co lo hi a b) (ho:x<lo\/hi<x):af b x cs t:=by
 unfold af at h|-
 rw[hs.block x (af.lt h) ho];exact h
end
section
open Go.RowKit PM Dt
def f9 (h:Int):Int:=h.tdiv 1024
def iE (h c:Int):Int:=aI (h-f9 h+aI c (-1048576) 1048576) (-16777216) 16777216
def jD (h:Nat->Int) (f:Int) (c:Nat->Int):Nat->Int:=fun i=>if(i:Int)=f then h i else iE (h i) (c i)
def kN (f:Int):Bool:=decide (-1<=f)&&decide (f<=3)
def kZ (h:Nat->Int) (f:Int) (i:Nat):Bool:=decide (-16777216<=h i)&&(decide (h i<=16777216)&&!(decide ((i:Int)=f)&&!decide (h i=0)))
def gj (h:Nat->Int) (f:Int):Bool:=kN f&&(kZ h f 0&&(kZ h f 1&&(kZ h f 2&&kZ h f 3)))
def cZ (h:Nat->Int):Nat->Int:=fun i=>h i+h 3
structure SI (h:Nat->Int) (f:Int):Prop where
 b:∀i,i<4->-16777216<=h i/\h i<=16777216
 l:-1<=f
 u:f<=3
theorem sN {h:Nat->Int} {f:Int} {i:Nat} (k:kZ h f i=true):-16777216<=h i/\h i<=16777216/\((i:Int)=f->h i=0):=by
 simp only[kZ,Bool.and_eq_true,decide_eq_true_eq,Bool.not_eq_true',Bool.and_eq_false_imp,Bool.not_eq_false']at k
 exact⟨k.1,k.2.1,fun e=>by simpa using k.2.2 e⟩
theorem sY {h:Nat->Int} {f:Int} (k:gj h f=true):SI h f/\∀i:Nat,i<4->(i:Int)=f->h i=0:=by
 simp only[gj,kN,Bool.and_eq_true,decide_eq_true_eq]at k
 obtain⟨⟨k1,k2⟩,a,b,c,d⟩:=k
 have A:=sN a;have B:=sN b;have C:=sN c;have D:=sN d
 refine⟨⟨fun i hi=>?_,k1,k2⟩,fun i hi=>?_⟩
 ·rcases(show i=0\/i=1\/i=2\/i=3 by omega)with rfl|rfl|rfl|rfl
  all_goals first|exact⟨A.1,A.2.1⟩|exact⟨B.1,B.2.1⟩|exact⟨C.1,C.2.1⟩|exact⟨D.1,D.2.1⟩
 ·rcases(show i=0\/i=1\/i=2\/i=3 by omega)with rfl|rfl|rfl|rfl
  all_goals first|exact A.2.2|exact B.2.2|exact C.2.2|exact D.2.2
theorem q6 (x:Int):-16777216<=aI x (-16777216) 16777216/\aI x (-16777216) 16777216<=16777216:=by
 unfold aI;split<;>(try split)<;>omega
theorem zi (x:Int):-1048576<=aI x (-1048576) 1048576/\aI x (-1048576) 1048576<=1048576:=by
 unfold aI;split<;>(try split)<;>omega
theorem qj {h:Int} (hh:-16777216<=h/\h<=16777216):-16384<=f9 h/\f9 h<=16384:=by
 unfold f9
 rcases Int.le_total 0 h with h0|h0
 ·rw[Int.tdiv_eq_ediv_of_nonneg h0];omega
 ·have e:h.tdiv 1024=-((-h)/1024):=by
   rw[<-Int.tdiv_eq_ediv_of_nonneg (show 0<=-h by omega),Int.neg_tdiv];omega
  rw[e];omega
theorem EO (h:Int):-f9 (-h)=f9 h:=by unfold f9;rw[Int.neg_tdiv];omega
theorem SI.step {h:Nat->Int} {f:Int} (k:SI h f) (c:Nat->Int):SI (jD h f c) f:=
 ⟨fun i hi=>by
   unfold jD
   split
   ·exact k.b i hi
   ·exact q6 _,k.l,k.u⟩
theorem oB {h:Nat->Int} {f:Int} (k:SI h f) {i:Nat} (hi:i<3):-33554432<=cZ h i/\cZ h i<=33554432:=by
 have:=k.b i oa;have:=k.b 3 oa
 unfold cZ;omega
structure cG where
 Q:Nat->Int
 T:Nat->Int
 h:Nat->Int
 f:Int
def KO (h:Nat->Int):Int:=h 0*h 0+h 1*h 1+h 2*h 2
def fG (h:Nat->Int):Bool:=aE h 1048576&&decide (KO h<=1099511627776)
def iH (Q T h:Nat->Int):Nat->Int:=cu (aC Q T) (cZ h)
def aX (X:cG):Nat->Int:=iH X.Q X.T X.h
def aJ (k:Int) (l:Nat->Int):Nat->Int:=fun i=>k*l i
def bJ (Q l:Nat->Int):Nat->Int:=if zV l then Q else aR Q (aJ 2 l)
def fX (X:cG) (c:Nat->Int):Nat->Int:=jD X.h X.f c
def cO (X:cG) (c:Nat->Int):Nat->Int:=iH X.Q X.T (fX X c)
def vj (X:cG) (c:Nat->Int):Nat->Int:=bJ X.Q (cO X c)
def jZ (X:cG) (c t:Nat->Int):Nat->Int:=cM (vj X c) t
def kY (X:cG) (c t:Nat->Int):Nat->Int:=dS X.T (jZ X c t)
def iF (X:cG) (c t:Nat->Int):cG:=if aE t 1048576 then⟨vj X c,if fG (kY X c t)then kY X c t else X.T,fX X c,X.f⟩else X
structure BI (X:cG):Prop where
 q:∀i,i<4->bu (X.Q i)
 v:au X.Q=true
 t:fG X.T=true
 s:SI X.h X.f
theorem pZ (Q T h:Nat->Int):∀i,i<3->-1099511627776<=iH Q T h i/\iH Q T h i<=1099511627776:=fun i hi=>by
 unfold iH cu
 split
 ·unfold iV
  split
  ·rename_i k;exact(bE _).1 ((bK _).1 k i hi)
  ·exact show(-1099511627776:Int)<=0/\(0:Int)<=1099511627776 from⟨da,da⟩
 ·exact show(-1099511627776:Int)<=0/\(0:Int)<=1099511627776 from⟨da,da⟩
theorem J2 (Q T h:Nat->Int) {k:Int} (hk:0<=k/\k<=4):∀i,i<3->bu (aJ k (iH Q T h) i):=fun i hi=>by
 have:=pZ Q T h i hi
 unfold aJ
 obtain⟨k0,k1⟩:=hk
 rcases(show k=0\/k=1\/k=2\/k=3\/k=4 by omega)with rfl|rfl|rfl|rfl|rfl<;>exact⟨oa,oa⟩
end
section
open Go.RowKit PM Dt
def iZ (x:(Nat->Int)×(Nat->Int)×Nat):Array Value:=#[.int .i64 (x.1 0),.int .i64 (x.1 1),.int .i64 (x.1 2),.int .i64 (x.1 3),.int .i64 (x.2.1 0),.int .i64 (x.2.1 1),.int .i64 (x.2.1 2),.pointer (some ⟨x.2.2,0,none⟩)]
def cy (x:(Nat->Int)×Int):Array Value:=#[.int .i64 (x.1 0),.int .i64 (x.1 1),.int .i64 (x.1 2),.int .i64 (x.1 3),.int .i64 x.2,.bool true]
theorem dp:(#[.int .i64 0,.int .i64 0,.int .i64 0,.int .i64 0]:Array Value)=aj (fun _=>0):=bP
theorem l8 (x:(Nat->Int)×(Nat->Int)×Nat):(iZ x).size=8:=rfl
section
theorem c3 {n:Nat} {P:Nat->Prop} (h:n<3) (h0:P 0) (h1:P 1) (h2:P 2):P n:=by
 rcases(show n=0\/n=1\/n=2 by omega)with rfl|rfl|rfl<;>assumption
theorem c4 {n:Nat} {P:Nat->Prop} (h:n<4) (h0:P 0) (h1:P 1) (h2:P 2) (h3:P 3):P n:=by
 rcases(show n=0\/n=1\/n=2\/n=3 by omega)with rfl|rfl|rfl|rfl<;>assumption
theorem c5 {n:Nat} {P:Nat->Prop} (h:n<5) (h0:P 0) (h1:P 1) (h2:P 2) (h3:P 3) (h4:P 4):P n:=by
 rcases(show n=0\/n=1\/n=2\/n=3\/n=4 by omega)with rfl|rfl|rfl|rfl|rfl<;>assumption
end
variable(Q T h:Nat->Int) (f:Int) (s:Nat) (X:cG)
theorem DZ (j:Nat) (hj:j<(aj Q).size):(iZ (Q,T,s))[0+j]?=(aj Q)[j]?:=by
 rw[ak]at hj
 rw[aD _ hj]
 exact c4 (P:=fun j=>(iZ (Q,T,s))[0+j]?=some (.int .i64 (Q j))) hj rfl rfl rfl rfl
theorem IG (j:Nat) (hj:j<(ah T).size):(iZ (Q,T,s))[4+j]?=(ah T)[j]?:=by
 rw[ad]at hj
 rw[az _ hj]
 exact c3 (P:=fun j=>(iZ (Q,T,s))[4+j]?=some (.int .i64 (T j))) hj rfl rfl rfl
theorem D9 (j:Nat) (hj:j<(aj h).size):(cy (h,f))[0+j]?=(aj h)[j]?:=by
 rw[ak]at hj
 rw[aD _ hj]
 exact c4 (P:=fun j=>(cy (h,f))[0+j]?=some (.int .i64 (h j))) hj rfl rfl rfl rfl
theorem Kn {j:Nat} (hj:j<4):(cy (h,f))[j]?=some (.int .i64 (h j)):=
 c4 (P:=fun j=>(cy (h,f))[j]?=some (.int .i64 (h j))) hj rfl rfl rfl rfl
theorem FL (Q':Nat->Int):gc (iZ (Q,T,s)) 0 (aj Q').toList=iZ (Q',T,s):=by unfold aj;rfl
theorem E6 (T':Nat->Int):gc (iZ (Q,T,s)) 4 (ah T').toList=iZ (Q,T',s):=by unfold ah;rfl
theorem dH (F G:Nat->Int):gc (ah F) 0 (ah G).toList=ah G:=by unfold ah;rfl
theorem dK (F G:Nat->Int):gc (aj F) 0 (aj G).toList=aj G:=by unfold aj;rfl
def cV (new old:Nat->Int) (k:Nat):Nat->Int:=fun i=>if i<k then new i else old i
theorem Fc {new old:Nat->Int} {k i:Nat} (hi:k<=i):cV new old k i=old i:=by unfold cV;rw[if_neg oa]
theorem kD (new old:Nat->Int):cV new old 0=old:=by funext i;unfold cV;rw[if_neg oa]
theorem qR {new old:Nat->Int} {k:Nat} (hk:new k=old k):cV new old (k+1)=cV new old k:=by
 funext i;unfold cV
 by_cases h1:i<k
 ·rw[if_pos h1,if_pos oa]
 ·by_cases h2:i=k
  ·subst h2;rw[if_neg h1,if_pos oa,hk]
  ·rw[if_neg h1,if_neg oa]
theorem EB {new old:Nat->Int} {k:Nat} (hk:k<4) (v:Int) (hv:v=new k):(cy (cV new old k,f)).setIfInBounds k (.int .i64 v)=cy (cV new old (k+1),f):=by
 subst hv
 unfold cy cV
 rcases(show k=0\/k=1\/k=2\/k=3 by omega)with rfl|rfl|rfl|rfl<;>simp
theorem KJ {new old:Nat->Int} {k:Nat} (hk:k<4) (v:Int) (hv:v=new k):(aj (cV new old k)).setIfInBounds k (.int .i64 v)=aj (cV new old (k+1)):=by
 subst hv
 unfold aj cV
 rcases(show k=0\/k=1\/k=2\/k=3 by omega)with rfl|rfl|rfl|rfl<;>simp
theorem IF (new old:Nat->Int):aj (cV new old 4)=aj new:=by unfold aj cV;simp
def gh (lo b:Nat) (w:World) (X:cG):Prop:=∃s,lo<=s/\s<b/\af w b (iZ (X.Q,X.T,s)) 74/\af w s (cy (X.h,X.f)) 126
variable{lo b:Nat} {w w':World} {X}
theorem gh.lt (h:gh lo b w X):b<w.heap.size:=let⟨_,_,_,k,_⟩:=h;af.lt k
theorem gh.lolt (h:gh lo b w X):lo<b:=let⟨_,l,u,_⟩:=h;by omega
theorem gh.below {B:Nat} (h:gh lo b w X) (hm:Below B w w') (hl:b<B):gh lo b w' X:=let⟨s,l,u,k,m⟩:=h;⟨s,l,u,k.below hm hl,m.below hm oa⟩
theorem gh.alloc (h:gh lo b w X) (o:Obj):gh lo b (w.alloc o) X:=let⟨s,l,u,k,m⟩:=h;⟨s,l,u,k.alloc o,m.alloc o⟩
theorem gh.drew (h:gh lo b w X):gh lo b w.drew X:=h
theorem gh.rowOther (h:gh lo b w X) {g:Nat} (hg:g<lo\/b<g) (c:Array Value):gh lo b (w.setRow g c) X:=let⟨s,l,u,k,m⟩:=h;⟨s,l,u,k.rowOther oa c,m.rowOther oa c⟩
end
section
open Go.RowKit PM Dt
theorem EH (f:Nat->Int) {k:Nat} (h:k<4) (w:World):(Instr.index 22 (.agg (aj f)) (.int .i64 k)).run Tryz.prog w=.ok (.int .i64 (f k)) w:=by
 obtain⟨i,hi⟩:∃i,Tryz.prog.info? 2=some i:=Option.isSome_iff_exists.1 ke
 exact f_ (P:=Tryz.prog) (n:=4) ya Tryz.underlying2 rfl hi ke h (aD f h) w
theorem pK {h:Nat->Int} {f:Int} {k:Nat} (hk:k<4) (hb:kZ h f k=false):gj h f=false:=by
 cases hn:gj h f with
 |false=>rfl
 | true=>
   simp only[gj,Bool.and_eq_true]at hn
   obtain⟨_,a,b,c,d⟩:=hn
   rcases(show k=0\/k=1\/k=2\/k=3 by omega)with rfl|rfl|rfl|rfl<;>simp_all
theorem vK {h:Nat->Int} {f:Int} (hf:kN f=true) (hb:∀k,k<4->kZ h f k=true):gj h f=true:=by
 simp only[gj,Bool.and_eq_true]
 exact⟨hf,hb 0 oa,hb 1 oa,hb 2 oa,hb 3 oa⟩
theorem jl (f:Int) (w:World):Calls Tryz.prog 71 #[.int .i64 f] w fun e w'=>e=.returned (.bool (kN f))/\Below w.heap.size w w':=by
 have hB:Below w.heap.size w w:=Below.refl _ _
 unfold kN
 by_cases h1:-1<=f
 ·have d1:decide (-1<=f)=true:=dT h1
  by_cases h2:f<=3
  ·have d2:decide (f<4)=true:=dT oa
   have d3:decide (f<=3)=true:=dT h2
   go_enter Tryz.func71,Tryz.ntmps71
   go_wp2_with (fail)
   go_ret
   exact⟨by first|rfl|simp only[d1,d3]<;>rfl,hB⟩
  ·have d2:decide (f<4)=false:=dF oa
   have d3:decide (f<=3)=false:=dF h2
   go_enter Tryz.func71,Tryz.ntmps71
   go_wp2_with (fail)
   go_ret
   exact⟨by first|rfl|simp only[d1,d3]<;>rfl,hB⟩
 ·have d1:decide (-1<=f)=false:=dF h1
  go_enter Tryz.func71,Tryz.ntmps71
  go_wp2_with (fail)
  go_ret
  exact⟨by first|rfl|simp only[d1]<;>rfl,hB⟩
theorem sJ (h:Nat->Int) (f:Int) (w:World) (hn:gj h f=false):Calls Tryz.prog 33 #[.agg (aj h),.int .i64 f] w fun e w'=>e=.returned (.tuple #[.pointer none,.int .i64 2])/\Below w.heap.size w w':=by
 have IS:=aa (fun w=>jl f w)
 by_cases hf:kN f=true
 ·rw [hf]at IS
  go_enter Tryz.func33,Tryz.ntmps33
  go_upto_region 1 with(fail)
  have v:af (w.alloc (.cells (aj h) 22)) w.heap.size (aj h) 22:=af.new _ _ _
  have hB:Below w.heap.size w (w.alloc (.cells (aj h) 22)):=by go_grown
  generalize(w.alloc (.cells (aj h) 22))=w0 at *
  go_wp2_with (first
   |(refine ac ?hw _ _ rfl _ rfl _ _ _ _ v ya rfl ?hi ?_;(case hw=>exact rW);(case hi=>exact rI))
   |(go_at_call 71;with_reducible refine(IS.out _).mono ?_;rintro e w1 ⟨rfl,hb⟩;replace hB:=hB.trans (hb.mono hB.size);replace v:=v.below hb v.lt;clear hb))
  go_loopg [12] 4 (fun g iv wr=>∃k:Nat,g+k=4/\iv=.int .i64 k/\Hid (∀j,j<k->kZ h f j=true)/\af wr w.heap.size (aj h) 22/\Below w.heap.size w wr)
  case atStart=>exact⟨0,rfl,rfl,fun j hj=>by omega,v,hB⟩
  case round=>
   clear hB v
   obtain⟨k,hk,rfl,hall,v,hB⟩:=hrel
   by_cases hkn:k<4
   ·have hdk:decide ((k:Int)<4)=true:=dT oa
    have hdk':decide (k<4)=true:=dT oa
    have hw3:IntKind.i64.wrap ((k:Int)+1)=((k+1:Nat):Int):=by rw[wI];omega
    have hix:Hid (∀w,(Instr.index 22 (.agg (aj h)) (.int .i64 k)).run Tryz.prog w=.ok (.int .i64 (h k)) w):=fun w=>EH h hkn w
    by_cases h1:h k< -16777216
    ·have d1:decide (h k< -16777216)=true:=dT h1
     have HV:kZ h f k=false:=by unfold kZ;rw[dF (show¬-16777216<=h k by omega)];rfl
     replace HV:=aa HV
     clear h1
     go_wp2_with ((refine aZ ?hw _ _ _ rfl _ rfl k _ rfl rfl _ hix.out ?_;(case hw=>exact rW)))
     go_ret2
     exact⟨rfl,hB⟩
    ·have d1:decide (h k< -16777216)=false:=dF h1
     by_cases h2:16777216<h k
     ·have d2:decide (16777216<h k)=true:=dT h2
      have HV:kZ h f k=false:=by unfold kZ;rw[dF (show¬h k<=16777216 by omega)];simp
      replace HV:=aa HV
      clear h1 h2
      go_wp2_with ((refine aZ ?hw _ _ _ rfl _ rfl k _ rfl rfl _ hix.out ?_;(case hw=>exact rW)))
      go_ret2
      exact⟨rfl,hB⟩
     ·have d2:decide (16777216<h k)=false:=dF h2
      have e1:decide (-16777216<=h k)=true:=dT oa
      have e2:decide (h k<=16777216)=true:=dT oa
      by_cases h3:(k:Int)=f
      ·have d3:decide ((k:Int)=f)=true:=dT h3
       by_cases h4:h k=0
       ·have d4:(h k !=0)=false:=by simp[h4]
        have d5:decide (h k=0)=true:=dT h4
        have HV:kZ h f k=true:=by unfold kZ;rw[e1,e2,d3,d5];rfl
        clear e1 e2 d3 d5
        subst h3
        replace HV:=aa HV
        clear h1 h2 h4
        go_wp2_with ((refine aZ ?hw _ _ _ rfl _ rfl k _ rfl rfl _ hix.out ?_;(case hw=>exact rW)))
        go_roundg (4-(k+1))
        case rel=>
         refine⟨k+1,oa,rfl,fun j hj=>?_,v,hB⟩
         by_cases e:j=k
         ·subst e;exact HV.out
         ·exact hall.out j oa
        case measure=>omega
       ·have d4:(h k !=0)=true:=by simp[h4]
        have d5:decide (h k=0)=false:=dF h4
        have HV:kZ h f k=false:=by unfold kZ;rw[e1,e2,d3,d5];rfl
        clear e1 e2 d3 d5
        subst h3
        replace HV:=aa HV
        clear h1 h2 h4
        go_wp2_with ((refine aZ ?hw _ _ _ rfl _ rfl k _ rfl rfl _ hix.out ?_;(case hw=>exact rW)))
        go_ret2
        exact⟨rfl,hB⟩
      ·have d3:decide ((k:Int)=f)=false:=dF h3
       have d6:((k:Int)==f)=false:=by simp[h3]
       have HV:kZ h f k=true:=by unfold kZ;rw[e1,e2,d3];simp
       clear e1 e2
       replace HV:=aa HV
       clear h1 h2 h3
       go_wp2_with ((refine aZ ?hw _ _ _ rfl _ rfl k _ rfl rfl _ hix.out ?_;(case hw=>exact rW)))
       go_roundg (4-(k+1))
       case rel=>
        refine⟨k+1,oa,rfl,fun j hj=>?_,v,hB⟩
        by_cases e:j=k
        ·subst e;exact HV.out
        ·exact hall.out j oa
       case measure=>omega
   ·obtain rfl:k=4:=oa
    exact absurd (vK hf hall.out) (by rw[hn];decide)
 ·rw[Bool.not_eq_true]at hf
  rw[hf]at IS
  go_enter Tryz.func33,Tryz.ntmps33
  go_upto_region 1 with(fail)
  have v:af (w.alloc (.cells (aj h) 22)) w.heap.size (aj h) 22:=af.new _ _ _
  have hB:Below w.heap.size w (w.alloc (.cells (aj h) 22)):=by go_grown
  generalize(w.alloc (.cells (aj h) 22))=w0 at *
  go_wp2_with (first
   |(refine ac ?hw _ _ rfl _ rfl _ _ _ _ v ya rfl ?hi ?_;(case hw=>exact rW);(case hi=>exact rI))
   |(go_at_call 71;with_reducible refine(IS.out _).mono ?_;rintro e w1 ⟨rfl,hb⟩;replace hB:=hB.trans (hb.mono hB.size);replace v:=v.below hb v.lt;clear hb))
  go_ret2
  exact⟨rfl,hB⟩
theorem ot (h:Nat->Int) (f:Int) (w:World) (hn:gj h f=true):Calls Tryz.prog 33 #[.agg (aj h),.int .i64 f] w fun e w'=>∃b,e=.returned (.tuple #[.pointer (some ⟨b,0,none⟩),.int .i64 0])/\af w' b (cy (h,f)) 126/\w.heap.size<=b/\Below w.heap.size w w':=by
 have IS:=aa (fun w=>jl f w)
 by_cases hf:kN f=true
 ·rw [hf]at IS
  go_enter Tryz.func33,Tryz.ntmps33
  go_upto_region 1 with(fail)
  have v:af (w.alloc (.cells (aj h) 22)) w.heap.size (aj h) 22:=af.new _ _ _
  have hB:Below w.heap.size w (w.alloc (.cells (aj h) 22)):=by go_grown
  generalize(w.alloc (.cells (aj h) 22))=w0 at *
  go_wp2_with (first
   |(refine ac ?hw _ _ rfl _ rfl _ _ _ _ v ya rfl ?hi ?_;(case hw=>exact rW);(case hi=>exact rI))
   |(go_at_call 71;with_reducible refine(IS.out _).mono ?_;rintro e w1 ⟨rfl,hb⟩;replace hB:=hB.trans (hb.mono hB.size);replace v:=v.below hb v.lt;clear hb))
  go_loopg [12] 4 (fun g iv wr=>∃k:Nat,g+k=4/\iv=.int .i64 k/\Hid (∀j,j<k->kZ h f j=true)/\af wr w.heap.size (aj h) 22/\Below w.heap.size w wr)
  case atStart=>exact⟨0,rfl,rfl,fun j hj=>by omega,v,hB⟩
  case round=>
   clear hB v
   obtain⟨k,hk,rfl,hall,v,hB⟩:=hrel
   by_cases hkn:k<4
   ·have hdk:decide ((k:Int)<4)=true:=dT oa
    have hdk':decide (k<4)=true:=dT oa
    have hw3:IntKind.i64.wrap ((k:Int)+1)=((k+1:Nat):Int):=by rw[wI];omega
    have hix:Hid (∀w,(Instr.index 22 (.agg (aj h)) (.int .i64 k)).run Tryz.prog w=.ok (.int .i64 (h k)) w):=fun w=>EH h hkn w
    by_cases h1:h k< -16777216
    ·have d1:decide (h k< -16777216)=true:=dT h1
     have HV:kZ h f k=false:=by unfold kZ;rw[dF (show¬-16777216<=h k by omega)];rfl
     exact absurd (pK hkn HV) (by rw[hn];decide)
    ·have d1:decide (h k< -16777216)=false:=dF h1
     by_cases h2:16777216<h k
     ·have d2:decide (16777216<h k)=true:=dT h2
      have HV:kZ h f k=false:=by unfold kZ;rw[dF (show¬h k<=16777216 by omega)];simp
      exact absurd (pK hkn HV) (by rw[hn];decide)
     ·have d2:decide (16777216<h k)=false:=dF h2
      have e1:decide (-16777216<=h k)=true:=dT oa
      have e2:decide (h k<=16777216)=true:=dT oa
      by_cases h3:(k:Int)=f
      ·have d3:decide ((k:Int)=f)=true:=dT h3
       by_cases h4:h k=0
       ·have d4:(h k !=0)=false:=by simp[h4]
        have d5:decide (h k=0)=true:=dT h4
        have HV:kZ h f k=true:=by unfold kZ;rw[e1,e2,d3,d5];rfl
        clear e1 e2 d3 d5
        subst h3
        replace HV:=aa HV
        clear h1 h2 h4
        go_wp2_with ((refine aZ ?hw _ _ _ rfl _ rfl k _ rfl rfl _ hix.out ?_;(case hw=>exact rW)))
        go_roundg (4-(k+1))
        case rel=>
         refine⟨k+1,oa,rfl,fun j hj=>?_,v,hB⟩
         by_cases e:j=k
         ·subst e;exact HV.out
         ·exact hall.out j oa
        case measure=>omega
       ·have d4:(h k !=0)=true:=by simp[h4]
        have d5:decide (h k=0)=false:=dF h4
        have HV:kZ h f k=false:=by unfold kZ;rw[e1,e2,d3,d5];rfl
        clear e1 e2 d3 d5
        subst h3
        exact absurd (pK hkn HV) (by rw[hn];decide)
      ·have d3:decide ((k:Int)=f)=false:=dF h3
       have d6:((k:Int)==f)=false:=by simp[h3]
       have HV:kZ h f k=true:=by unfold kZ;rw[e1,e2,d3];simp
       clear e1 e2
       replace HV:=aa HV
       clear h1 h2 h3
       go_wp2_with ((refine aZ ?hw _ _ _ rfl _ rfl k _ rfl rfl _ hix.out ?_;(case hw=>exact rW)))
       go_roundg (4-(k+1))
       case rel=>
        refine⟨k+1,oa,rfl,fun j hj=>?_,v,hB⟩
        by_cases e:j=k
        ·subst e;exact HV.out
        ·exact hall.out j oa
       case measure=>omega
   ·obtain rfl:k=4:=oa
    unfold aj at v
    go_wp2_with ((refine ac ?hw _ _ rfl _ rfl _ _ _ _ v ya rfl ?hi ?_;(case hw=>exact rW);(case hi=>exact rI)))
    rw[show#[Value.int .i64 (h 0),.int .i64 (h 1),.int .i64 (h 2),.int .i64 (h 3),.int .i64 f,.bool true]=cy (h,f)from rfl]
    go_ret2
    exact⟨wr.heap.size,rfl,af.new _ _ _,hB.size,hB.alloc hB.size _⟩
 ·rw[Bool.not_eq_true]at hf
  unfold gj at hn
  rw[hf,Bool.false_and]at hn
  cases hn
end
end Go.Proofs.YtbhahonkhiiilaaGreat
