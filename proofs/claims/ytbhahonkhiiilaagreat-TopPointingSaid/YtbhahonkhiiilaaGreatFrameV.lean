/-
  The first line of the translated program as a list of signs, and what the rows ask of it. Small laws for the rows: what it means that an argument fits its kind, and the closed facts of a row. A vector of three numbers as a row's argument: opened and shut.
-/
import Derived.Test.YtbhahonkhiiilaaGreatRows
import Derived.Test.YtbhahonkhiiilaaGreatVecA
import Derived.ShutString
set_option linter.unusedSimpArgs false
set_option linter.unusedVariables false
set_option maxRecDepth 100000
set_option maxHeartbeats 2000000
namespace Go.Proofs.YtbhahonkhiiilaaGreat
section
def pD:String:="harness 3ed6b622ea3c0fb6329e12794806d194936d021670109b406e1d683fd144663c cut at perigee/perigeetop.TopPointing"
def jf:List Char:=[Char.ofNat 104,Char.ofNat 97,Char.ofNat 114,Char.ofNat 110,Char.ofNat 101,Char.ofNat 115,Char.ofNat 115,Char.ofNat 32,Char.ofNat 51,Char.ofNat 101,Char.ofNat 100,Char.ofNat 54,Char.ofNat 98,Char.ofNat 54,Char.ofNat 50,Char.ofNat 50,Char.ofNat 101,Char.ofNat 97,Char.ofNat 51,Char.ofNat 99,Char.ofNat 48,Char.ofNat 102,Char.ofNat 98,Char.ofNat 54,Char.ofNat 51,Char.ofNat 50,Char.ofNat 57,Char.ofNat 101,Char.ofNat 49,Char.ofNat 50,Char.ofNat 55,Char.ofNat 57,Char.ofNat 52,Char.ofNat 56,Char.ofNat 48,Char.ofNat 54,Char.ofNat 100,Char.ofNat 49,Char.ofNat 57,Char.ofNat 52,Char.ofNat 57,Char.ofNat 51,Char.ofNat 54,Char.ofNat 100,Char.ofNat 48,Char.ofNat 50,Char.ofNat 49,Char.ofNat 54,Char.ofNat 55,Char.ofNat 48,Char.ofNat 49,Char.ofNat 48,Char.ofNat 57,Char.ofNat 98,Char.ofNat 52,Char.ofNat 48,Char.ofNat 54,Char.ofNat 101,Char.ofNat 49,Char.ofNat 100,Char.ofNat 54,Char.ofNat 56,Char.ofNat 51,Char.ofNat 102,Char.ofNat 100,Char.ofNat 49,Char.ofNat 52,Char.ofNat 52,Char.ofNat 54,Char.ofNat 54,Char.ofNat 51,Char.ofNat 99,Char.ofNat 32,Char.ofNat 99,Char.ofNat 117,Char.ofNat 116,Char.ofNat 32,Char.ofNat 97,Char.ofNat 116,Char.ofNat 32,Char.ofNat 112,Char.ofNat 101,Char.ofNat 114,Char.ofNat 105,Char.ofNat 103,Char.ofNat 101,Char.ofNat 101,Char.ofNat 47,Char.ofNat 112,Char.ofNat 101,Char.ofNat 114,Char.ofNat 105,Char.ofNat 103,Char.ofNat 101,Char.ofNat 101,Char.ofNat 116,Char.ofNat 111,Char.ofNat 112,Char.ofNat 46,Char.ofNat 84,Char.ofNat 111,Char.ofNat 112,Char.ofNat 80,Char.ofNat 111,Char.ofNat 105,Char.ofNat 110,Char.ofNat 116,Char.ofNat 105,Char.ofNat 110,Char.ofNat 103]
theorem oU:pD=String.ofList jf:=ke
theorem n8:pD.toList=jf:=by rw[oU,String.toList_ofList]
theorem p8:Tryz.pinned.checked.prog.initOrder=pD:=ke
theorem k9:Tryz.pinned.checked.prog.initOrder.toList=jf:=by rw[p8,n8]
theorem qm:∃rest,behindMainWord (wordsSigns jf)="cut".toList::rest:=⟨(behindMainWord (wordsSigns jf)).tail,ke⟩
theorem oS:Program.laysLater Tryz.pinned.checked.prog=false:=ke
theorem lX:Program.bearsReflect Tryz.pinned.checked.prog=false:=ke
theorem n6:Program.liftsFinal Tryz.pinned.checked.prog=false:=by
 unfold Program.liftsFinal Program.headLifts
 rw[k9]
 kernel_rfl
theorem Gt (P:Program) (rest:List (List Char)) (h:behindMainWord (wordsSigns P.initOrder.toList)="cut".toList::rest):P.make=some .cut:=by
 unfold Program.make
 rw[h]
 rfl
theorem u7 (P:Program) (rest:List (List Char)) (h:behindMainWord (wordsSigns P.initOrder.toList)="cut".toList::rest)
 (h1:P.laysLater=false) (h2:P.bearsReflect=false) (h3:P.doorFits []=true):P.mayEnter=true:=by
 have hs:stripLifts liftWords ("cut".toList::rest)=([],"cut".toList::rest):=rfl
 unfold Program.mayEnter
 rw[h]
 simp only[hs,h1,h2,h3]
 simp
theorem AR:Program.doorFits Tryz.pinned.checked.prog []=true:=ke
theorem Ao:Program.make Tryz.pinned.checked.prog=some .cut:=by
 obtain⟨rest,h⟩:=qm
 exact Gt _ rest ((congrArg (fun l=>behindMainWord (wordsSigns l)) k9).trans h)
theorem qJ:Program.mayEnter Tryz.pinned.checked.prog=true:=by
 obtain⟨rest,h⟩:=qm
 exact u7 _ rest ((congrArg (fun l=>behindMainWord (wordsSigns l)) k9).trans h) oS lX AR
end
section
open Go.RowKit
theorem Kx {a:Int} (h:(Lit.int .i64 a).wf=true):bu a:=by
 simp only[Lit.wf,Bool.and_eq_true,decide_eq_true_eq]at h
 exact⟨h.1,h.2⟩
end
section
open Go.RowKit PM Dt
def aj (f:Nat->Int):Array Value:=#[.int .i64 (f 0),.int .i64 (f 1),.int .i64 (f 2),.int .i64 (f 3)]
theorem ak (f:Nat->Int):(aj f).size=4:=rfl
theorem bF (f:Nat->Int):(aj f).all (·.oneCell')=true:=by simp[aj,Value.oneCell']
theorem aD (f:Nat->Int) {i:Nat} (h:i<4):(aj f)[i]?=some (.int .i64 (f i)):=by
 have:i=0\/i=1\/i=2\/i=3:=oa
 rcases this with rfl|rfl|rfl|rfl<;>rfl
theorem dN {f g:Nat->Int} (h:∀i,i<4->f i=g i):aj f=aj g:=by
 unfold aj;rw[h 0 oa,h 1 oa,h 2 oa,h 3 oa]
theorem bP:#[Value.int .i64 0,.int .i64 0,.int .i64 0,.int .i64 0]=aj (fun _=>0):=rfl
def eX (f:Nat->Int):Bool:=vb (f 0)&&(vb (f 1)&&(vb (f 2)&&vb (f 3)))
theorem bN (f:Nat->Int):eX f=true↔∀i,i<4->vb (f i)=true:=by
 unfold eX
 rw[Bool.and_eq_true,Bool.and_eq_true,Bool.and_eq_true]
 constructor
 ·rintro⟨h0,h1,h2,h3⟩ i hi
  have:i=0\/i=1\/i=2\/i=3:=oa
  rcases this with rfl|rfl|rfl|rfl<;>assumption
 ·intro h;exact⟨h 0 oa,h 1 oa,h 2 oa,h 3 oa⟩
theorem Bh {f:Nat->Int} {i:Nat} (h:i<4) (hb:¬(-1099511627776<=f i/\f i<=1099511627776)):eX f=false:=by
 rw[Bool.eq_false_iff];intro h2
 exact hb ((bE _).1 ((bN f).1 h2 i h))
attribute [irreducible] aj
theorem Ek {w:World} {b:Nat} {f:Nat->Int} {t:TypeId} (h:af w b (aj f) t):iL w (.slice (some ⟨b,0,none⟩) 4 4) [f 0,f 1,f 2,f 3]:=
 Or.inr ⟨by simp,b,0,4,rfl,h.lt,fun k hk=>by
  have hk:k<4:=hk
  rw[Nat.zero_add]
  refine(h.cellIs (aD f hk)).trans ?_
  have:k=0\/k=1\/k=2\/k=3:=oa
  rcases this with rfl|rfl|rfl|rfl<;>rfl⟩
theorem oy {f:Nat->Int} (h:∀i,i<4->bu (f i)):∀k,k< [f 0,f 1,f 2,f 3].length->bu ([f 0,f 1,f 2,f 3].getD k 0):=by
 intro k hk
 have hk:k<4:=hk
 have:k=0\/k=1\/k=2\/k=3:=oa
 rcases this with rfl|rfl|rfl|rfl
 ·exact h 0 oa
 ·exact h 1 oa
 ·exact h 2 oa
 ·exact h 3 oa
theorem K4 (f:Nat->Int) {k:Nat} (h:k<4) (w:World):(Instr.index 23 (.agg (aj f)) (.int .i64 k)).run Tryz.prog w=.ok (.int .i64 (f k)) w:=by
 obtain⟨i,hi⟩:∃i,Tryz.prog.info? 2=some i:=Option.isSome_iff_exists.1 ke
 exact f_ (P:=Tryz.prog) (n:=4) yb Tryz.underlying2 rfl hi ke h (aD f h) w
theorem iU (f:Nat->Int) (w:World):Calls Tryz.prog 68 #[.agg (aj f)] w fun e w'=>e=.returned (.bool (eX f))/\Below w.heap.size w w':=by
 go_enter Tryz.func68,Tryz.ntmps68
 have p0:=af.new w (aj f) 23
 go_wp2_with ((refine ac ?hw _ _ rfl _ rfl _ _ _ _ p0 yb rfl ?hi ?_;(case hw=>(first|rfl|(simp[Region.wanted,yielded];done)));(case hi=>(rw[ak];kernel_rfl))))
 have hB0:Below w.heap.size w (w.alloc (.cells (aj f) 23)):=by go_grown
 clear p0
 generalize w.alloc (.cells (aj f) 23)=w0 at *
 go_loopg [6] 4 (fun g iv wr=>∃k:Nat,g+k=4/\iv=.int .i64 k/\Hid (∀j,j<k->vb (f j)=true)/\Below w.heap.size w wr)
 case atStart=>exact⟨0,rfl,rfl,fun j hj=>by omega,hB0⟩
 case round=>
  clear hB0
  obtain⟨k,hk,rfl,hall,hB⟩:=hrel
  by_cases hkn:k<4
  ·have hdk:decide ((k:Int)<4)=true:=dT oa
   have hdk':decide (k<4)=true:=dT oa
   have hw3:IntKind.i64.wrap ((k:Int)+1)=((k+1:Nat):Int):=by rw[wI];omega
   have hix:Hid (∀w,(Instr.index 23 (.agg (aj f)) (.int .i64 k)).run Tryz.prog w=.ok (.int .i64 (f k)) w):=fun w=>K4 f hkn w
   by_cases h1:-1099511627776<=f k
   ·have d1:decide (f k< -1099511627776)=false:=dF oa
    by_cases h2:f k<=1099511627776
    ·have d2:decide (1099511627776<f k)=false:=dF oa
     have HV:=aa ((bE _).2 ⟨h1,h2⟩)
     clear h1 h2
     go_wp2_with ((refine aZ ?hw _ _ _ rfl _ rfl k _ rfl rfl _ hix.out ?_;(case hw=>(first|rfl|(simp[Region.wanted,yielded];done)))))
     go_roundg (4-(k+1))
     case rel=>
      refine⟨k+1,oa,rfl,fun j hj=>?_,hB⟩
      by_cases e:j=k
      ·subst e;exact HV.out
      ·exact hall.out j oa
     case measure=>omega
    ·have d2:decide (1099511627776<f k)=true:=dT oa
     have HV:=aa (show eX f=false from Bh hkn oa)
     clear h1 h2
     go_wp2_with ((refine aZ ?hw _ _ _ rfl _ rfl k _ rfl rfl _ hix.out ?_;(case hw=>(first|rfl|(simp[Region.wanted,yielded];done)))))
     go_ret
     exact⟨by rw[HV.out];rfl,hB⟩
   ·have d1:decide (f k< -1099511627776)=true:=dT oa
    have HV:=aa (show eX f=false from Bh hkn oa)
    clear h1
    go_wp2_with ((refine aZ ?hw _ _ _ rfl _ rfl k _ rfl rfl _ hix.out ?_;(case hw=>(first|rfl|(simp[Region.wanted,yielded];done)))))
    go_ret
    exact⟨by rw[HV.out];rfl,hB⟩
  ·obtain rfl:k=4:=oa
   have HV:=aa ((bN f).2 hall.out)
   go_wp2_with (fail)
   go_ret
   exact⟨by rw[HV.out];rfl,hB⟩
def cw (f:Nat->Int):Nat->Int
 |0=>f 0
 |i=>wrap64 (-f i)
theorem wB (f:Nat->Int):#[Value.int .i64 (f 0),.int .i64 (wrap64 (-f 1)),.int .i64 (wrap64 (-f 2)),.int .i64 (wrap64 (-f 3))]=aj (cw f):=by unfold aj;rfl
theorem Bq (f:Nat->Int) (w:World):Calls Tryz.prog 29 #[.agg (aj f)] w fun e w'=>e=.returned (.agg (aj (cw f)))/\Below w.heap.size w w':=by
 go_enter Tryz.func29,Tryz.ntmps29
 go_upto_region 1 with(fail)
 rw[bP]
 have p:af ((w.alloc (.cells (aj f) 23)).alloc (.cells (aj fun _=>0) 23)) w.heap.size (aj f) 23:=(af.new _ _ _).alloc _
 have r:af ((w.alloc (.cells (aj f) 23)).alloc (.cells (aj fun _=>0) 23)) (w.heap.size+1) (aj fun _=>0) 23:=af.new' sd
 have hB:Below w.heap.size w ((w.alloc (.cells (aj f) 23)).alloc (.cells (aj fun _=>0) 23)):=by go_grown
 generalize(w.alloc (.cells (aj f) 23)).alloc (.cells (aj fun _=>0) 23)=w0 at *
 have c0:w0.cell? ⟨w.heap.size,0,none⟩=some (.int .i64 (f 0)):=p.cellIs (aD f oa)
 have c1:w0.cell? ⟨w.heap.size,1,none⟩=some (.int .i64 (f 1)):=p.cellIs (aD f oa)
 have c2:w0.cell? ⟨w.heap.size,2,none⟩=some (.int .i64 (f 2)):=p.cellIs (aD f oa)
 have c3:w0.cell? ⟨w.heap.size,3,none⟩=some (.int .i64 (f 3)):=p.cellIs (aD f oa)
 go_wp2_with (refine ag rfl _ _ _ rfl _ rfl (aj (cw f)) (by first|exact congrArg Value.agg (wB f)|rfl) _ _ r (by rw[ak];kernel_rfl) (by simp only[ak]) (bF _) ?_)
 refine bodyPost_ret (results_cell_row rfl _ _ _ _ _ _ _ rfl (r.row (aj (cw f))) yb rfl (by rw[ak];kernel_rfl)) rfl ?_
 exact⟨rfl,Below.setRow hB oa _⟩
def nQ (f:Nat->Int):Int:=ig [f 0,f 1,f 2,f 3]
def au (f:Nat->Int):Bool:=(gu (nQ f)==0)&&(decide (1073741820<=dG (nQ f))&&decide (dG (nQ f)<=1073741828))
theorem Hx (f:Nat->Int):i6 [f 0,f 1,f 2,f 3]=(f 0).natAbs* (f 0).natAbs+((f 1).natAbs* (f 1).natAbs+((f 2).natAbs* (f 2).natAbs+((f 3).natAbs* (f 3).natAbs+0))):=by
 rw[dj,dj,dj,dj,ib]
theorem vB (f:Nat->Int) (b:Nat) (w:World) (t:TypeId) (h:∀i,i<4->bu (f i)) (p:af w b (aj f) t):
 Calls Tryz.prog 15 #[.slice (some ⟨b,0,none⟩) 4 4] w fun e w'=>e=.returned (.tuple #[.int .i64 (dG (nQ f)),.int .i64 (gu (nQ f))])/\w=w':=
 (mO [f 0,f 1,f 2,f 3] _ w (Ek p) (oy h)).mono fun e w' h=>⟨h.1.trans (by rw[if_neg sd,if_neg sd];rfl),h.2⟩
theorem J_ {a:Int} (h1:-1099511627776<=a) (h2:a<=1099511627776):a.natAbs*a.natAbs<=1208925819614629174706176:=
 nk (Nat.mul_le_mul (show a.natAbs<=1099511627776 by omega) (show a.natAbs<=1099511627776 by omega)) da
theorem JY {f:Nat->Int} (h:eX f=true):gu (nQ f)=0/\dG (nQ f)=nQ f:=by
 have b:∀i,i<4->(f i).natAbs* (f i).natAbs<=1208925819614629174706176:=fun i hi=>by
  have:=(bE _).1 ((bN f).1 h i hi)
  exact J_ this.1 this.2
 have b0:=b 0 oa
 have b1:=b 1 oa
 have b2:=b 2 oa
 have b3:=b 3 oa
 have hs:i6 [f 0,f 1,f 2,f 3]<9223372036854775808*9223372036854775808:=by rw[Hx];omega
 have hr:fY (i6 [f 0,f 1,f 2,f 3])<9223372036854775808:=(fc (Nat.lt_trans hs da)).2 hs
 have:=nB (q:=nQ f) (by unfold nQ ig;omega) (by unfold nQ ig;omega)
 exact⟨this.2,this.1⟩
theorem JO {a:Int} (h:¬(-1099511627776<=a/\a<=1099511627776)):1208925819614629174706176<=a.natAbs*a.natAbs:=
 nk (show 1208925819614629174706176<=1099511627776*1099511627776 by decide) (Nat.mul_le_mul (show 1099511627776<=a.natAbs by omega) (show 1099511627776<=a.natAbs by omega))
theorem F6 {f:Nat->Int} (h:∀i,i<4->bu (f i)):i6 [f 0,f 1,f 2,f 3]<4^200:=
 Nat.lt_of_le_of_lt (xG [f 0,f 1,f 2,f 3] 8 sd (oy h)) da
theorem I_ {f:Nat->Int} (hI:∀i,i<4->bu (f i)) (h:eX f=false):au f=false:=by
 have hex:∃i,i<4/\¬(-1099511627776<=f i/\f i<=1099511627776):=by
  apply bC
  intro hn
  have:eX f=true:=(bN f).2 fun i hi=>(bE _).2 (bC fun hc=>hn ⟨i,hi,hc⟩)
  rw[h]at this;cases this
 obtain⟨i,hi,hb⟩:=hex
 have hg:=JO hb
 have hs:1099511627776*1099511627776<=i6 [f 0,f 1,f 2,f 3]:=by
  rw[Hx]
  have:i=0\/i=1\/i=2\/i=3:=oa
  rcases this with rfl|rfl|rfl|rfl<;>omega
 have hr:1099511627776<=fY (i6 [f 0,f 1,f 2,f 3]):=(gN (F6 hI)).2 hs
 unfold au
 cases hq:jA (nQ f)with
 |false=>rw[iO hq];rfl
 | true=>
   rw[jP hq]
   have:decide (nQ f<=1073741828)=false:=dF (by unfold nQ ig;omega)
   rw[this,Bool.and_false,Bool.and_false]
theorem cU (f:Nat->Int) (w:World) (hI:∀i,i<4->bu (f i)):Calls Tryz.prog 5 #[.agg (aj f)] w fun e w'=>e=.returned (.bool (au f))/\Below w.heap.size w w':=by
 have H:=aa (fun b w t p=>vB f b w t hI p)
 unfold au
 generalize dG (nQ f)=N at *
 generalize gu (nQ f)=E at *
 clear hI
 go_enter Tryz.func5,Tryz.ntmps5
 go_upto_region 1 with(fail)
 have p:af (w.alloc (.cells (aj f) 23)) w.heap.size (aj f) 23:=af.new _ _ _
 have hB:Below w.heap.size w (w.alloc (.cells (aj f) 23)):=by go_grown
 generalize w.alloc (.cells (aj f) 23)=w0 at *
 by_cases h0:E=0
 ·have d0:(E==0)=true:=by simp[h0]
  clear h0
  by_cases h1:(1073741820:Int)<=N
  ·have d1:decide ((1073741820:Int)<=N)=true:=dT h1
   by_cases h2:N<=1073741828
   ·have d2:decide (N<=1073741828)=true:=dT h2
    clear h1 h2
    go_wp2_with (go_at_call 15;refine(H.out _ _ _ p).mono ?_;rintro e w1 ⟨rfl,rfl⟩)
    go_ret
    exact⟨by first|rfl|(simp only[d0,d1,d2];rfl)|(simp only[d0,d1];rfl),hB⟩
   ·have d2:decide (N<=1073741828)=false:=dF h2
    clear h1 h2
    go_wp2_with (go_at_call 15;refine(H.out _ _ _ p).mono ?_;rintro e w1 ⟨rfl,rfl⟩)
    go_ret
    exact⟨by first|rfl|(simp only[d0,d1,d2];rfl)|(simp only[d0,d1];rfl),hB⟩
  ·have d1:decide ((1073741820:Int)<=N)=false:=dF h1
   clear h1
   go_wp2_with (go_at_call 15;refine(H.out _ _ _ p).mono ?_;rintro e w1 ⟨rfl,rfl⟩)
   go_ret
   exact⟨by first|rfl|(simp only[d0,d1,d2];rfl)|(simp only[d0,d1];rfl),hB⟩
 ·have d0:(E==0)=false:=by simp[h0]
  clear h0
  go_wp2_with (go_at_call 15;refine(H.out _ _ _ p).mono ?_;rintro e w1 ⟨rfl,rfl⟩)
  go_ret
  exact⟨by first|rfl|(simp only[d0];rfl),hB⟩
end
section
open Go.RowKit PM Dt
def gc (c:Array Value):Nat->List Value->Array Value
 |_,[]=>c
 |o,v::l=>gc (c.setIfInBounds o v) (o+1) l
theorem l6 {b:Nat} {t:TypeId}:∀(l:List Value) (c:Array Value) (o:Nat) (w:World),af w b c t->w.setCells b o l=w.setRow b (gc c o l)
 |[],c,o,w,h=>by rw[World.setCells,gc,setRow_self w b c t _ h]
 | v::l,c,o,w,h=>by
   rw[World.setCells,gc,l6 l (c.setIfInBounds o v) (o+1) _ (h.set o v),setCell_eq_setRow w b o c t _ v h,setRow_setRow]
theorem af.range {w:World} {b o:Nat} {c cs:Array Value} {t:TypeId} (h:af w b c t) (hc:∀j,j<cs.size->c[o+j]?=cs[j]?):w.rangeAt b o cs.toList:=fun j v hv=>by
 have hj:j<cs.toList.length:=(List.getElem?_eq_some_iff.1 hv).1
 have hv':cs[j]?=some v:=by simpa using hv
 exact h.cellIs ((hc j (by simpa using hj)).trans hv')
theorem af.there {w:World} {b o n:Nat} {c:Array Value} {t:TypeId} (h:af w b c t) (hn:o+n<=c.size):w.there b o n:=fun j hj=>by
 refine⟨?_,h.free _⟩
 rw[h.cell,Array.getElem?_eq_getElem oa];rfl
section
variable{P:Program} {ops:Array Oper} {rest:List Oper} {op:Oper} {a:Act} {w:World} {Q:Exit->Act->World->Prop}
theorem bB (hw:Region.wanted op (yielded ops a.tmps)=true) (ty:TypeId) (x:Operand) (ho:op.op=.load ty x) (b o:Nat) (hx:a.eval x=.pointer (some ⟨b,o,none⟩))
 (c:Array Value) (t:TypeId) (hg:af w b c t) (cs:Array Value) (hc:∀j,j<cs.size->c[o+j]?=cs[j]?) (d:TypeDesc)
 (hu:P.underlying ty=some d) (hd:d.isRow=true) (hi:(P.info? ty).map (·.size)=some cs.size)
 (h:wpList P ops Q rest (a.put op.dst (.agg cs)) w):wpList P ops Q (op::rest) a w:=
 wpList_step fun K hK=>by
  rw[if_pos hw]
  exact wp_load_mid ty x ho b o hx cs.toList d (hg.range hc) hu hd (by simpa using hi) (by simpa using hK _ _ h)
end
end
section
open Go.ChangeShapes Go.WideShapes Go.ChangeAt Go.RowKit
def mG (P:Program):Nat->TypeId->List (Nat×Option IntKind)
 |0,_=>[]
 | g+1,t=>match P.underlying t with
   |some (.int k)=>[(0,some k)]
   |some .bool=>[(0,none)]
   |some (.struct fs)=>fs.toList.flatMap fun f=>(mG P g f.type).map fun x=>(f.offset+x.1,x.2)
   |some (.array m e)=>(List.range m).flatMap fun i=>(mG P g e).map fun x=>(i*P.cellsOf e+x.1,x.2)
   |_=>[]
def K_:Option IntKind->Value->Prop
 |some k,v=>∃n,v=.int k n/\(Lit.int k n).wf=true
 |none,v=>∃b,v=.bool b
theorem kU {α:Type} {l:List α} {a n i:Nat} {v:α} (h:((l.drop a).take n)[i]?=some v):l[a+i]?=some v:=by
 rw[List.getElem?_take]at h
 split at h
 ·rwa [List.getElem?_drop]at h
 ·cases h
section
variable{H:Type} {enc:TypeId×Value->H} {P:Program} {w:World} {base:Nat} {spare:Nat->Bool} {held:Bool}
theorem sQ:∀(g:Nat) {fuel:Nat} {t:TypeId} {cs:List Value} {x:DataW H×List MemPlace},DataW.trod enc P w base spare held fuel t cs=some x->
 ∀o k,(o,k)∈mG P g t->∃v,cs[o]?=some v/\K_ k v
 |0,_,_,_,_,_,o,k,hm=>by simp[mG]at hm
 | g+1,fuel,t,cs,x,h,o,k,hm=>by
   unfold mG at hm
   split at hm
   ·rename_i k' hu
    obtain⟨n,rfl,_,hw⟩:=DataW.trod_int hu h
    simp only[List.mem_singleton,Prod.mk.injEq]at hm
    obtain⟨rfl,rfl⟩:=hm
    exact⟨_,rfl,n,rfl,hw⟩
   ·rename_i hu
    obtain⟨b,rfl,_⟩:=DataW.trod_bool hu h
    simp only[List.mem_singleton,Prod.mk.injEq]at hm
    obtain⟨rfl,rfl⟩:=hm
    exact⟨_,rfl,b,rfl⟩
   ·rename_i fs hu
    obtain⟨xs,n,_,_,_,hlen,hF⟩:=DataW.trod_struct hu h
    simp only[List.mem_flatMap,List.mem_map]at hm
    obtain⟨f,hf,y,hy,he⟩:=hm
    obtain⟨i,hi,rfl⟩:=List.mem_iff_getElem.1 hf
    have hi':i<fs.size:=by simpa using hi
    have h1:=hF i fs[i] (Array.getElem?_eq_getElem hi')
    rw[List.getElem?_eq_getElem oa]at h1
    obtain⟨v,hv,hk⟩:=sQ g h1 y.1 y.2 (by simpa using hy)
    simp only[Prod.mk.injEq]at he
    obtain⟨rfl,rfl⟩:=he
    exact⟨v,kU hv,hk⟩
   ·rename_i m e hu
    obtain⟨xs,n,_,_,_,hlen,hF⟩:=DataW.trod_array hu h
    simp only[List.mem_flatMap,List.mem_map,List.mem_range]at hm
    obtain⟨i,hi,y,hy,he⟩:=hm
    have h1:=hF i hi
    rw[List.getElem?_eq_getElem oa]at h1
    obtain⟨v,hv,hk⟩:=sQ g h1 y.1 y.2 hy
    simp only[Prod.mk.injEq]at he
    obtain⟨rfl,rfl⟩:=he
    exact⟨v,kU hv,hk⟩
   ·simp at hm
def G2 (P:Program) (t:TypeId) (ks:List (Option IntKind)):Bool:=
 decide (P.cellsOf t=ks.length)&&(ks.zipIdx.all fun x=>(mG P 8 t).contains (x.2,x.1))
theorem tV {fuel:Nat} {t:TypeId} {cs:List Value} {x:DataW H×List MemPlace} {ks:List (Option IntKind)} (hb:G2 P t ks=true) (h:DataW.trod enc P w base spare held fuel t cs=some x) (i:Nat) (k:Option IntKind) (hk:ks[i]?=some k):
 ∃v,cs[i]?=some v/\K_ k v:=by
 simp only[G2,Bool.and_eq_true,decide_eq_true_eq,List.all_eq_true]at hb
 have:=hb.2 (k,i) (by rw[List.mem_zipIdx_iff_getElem?];simpa using hk)
 exact sQ 8 h i k (by simpa using this)
def iy (w:World) (a:Option Addr) (n sz:Nat) (C:Nat->List Value):Prop:=
 ∀k,k<n->∃b off,a=some ⟨b,off,none⟩/\b<w.heap.size/\w.rangeAt b (off+k*sz) (C k)
theorem iy.below {w w':World} {a:Option Addr} {n sz:Nat} {C:Nat->List Value} (h:iy w a n sz C) (hb:Below w.heap.size w w'):iy w' a n sz C:=fun k hk=>by
 obtain⟨b,off,ha,hlt,hr⟩:=h k hk
 exact⟨b,off,ha,nq hlt hb.size,fun j v hv=>by rw[hb.cell (p:=⟨b,off+k*sz+j,none⟩) hlt];exact hr j v hv⟩
theorem rT {P:Program} (hl:laidOutB P=true) {W W':World} (hb:Below W.heap.size W W') {sp':Nat->Bool}:∀(ts:List TypeId) (vs:List Value) (ds:List (DataW H)) (ps:List MemPlace),
 (ts.all fun t=>P.readableRec t&&decide (t<P.types.size))=true->DataW.TrodAll enc P W 0 (fun _=>true) true ts vs ds ps->(∀p∈ps,p.block<W.heap.size)->(∀p∈ps,sp' p.block=true)->DataW.TrodAll enc P W' 0 sp' true ts vs ds ps
 | [],vs,ds,ps,_,h,_,_=>by
   obtain⟨rfl,rfl,rfl⟩:=trodAll_nil h
   exact rfl
 | t::ts,vs,ds,ps,hr,h,hlt,hs=>by
   obtain⟨v,vs1,d,ds1,a,b,rfl,rfl,rfl,h1,h2⟩:=trodAll_cons h
   simp only[List.all_cons,Bool.and_eq_true,decide_eq_true_eq]at hr
   refine⟨a,b,Go.WideElems.Trod_stays hl hr.1.1 hr.1.2 h1 (fun p hp=>hb.same (hlt p (List.mem_append_left _ hp))) (fun p hp=>hs p (List.mem_append_left _ hp)),?_,rfl⟩
   exact rT hl hb ts vs1 ds1 b hr.2 h2 (fun p hp=>hlt p (List.mem_append_right _ hp)) (fun p hp=>hs p (List.mem_append_right _ hp))
end
end
section
open Go.RowKit PM Dt
def Nh (Q:Exit->Act->World->Prop) (K:Act->World->Prop):Exit->Act->World->Prop
 |.normal=>K
 |e=>Q e
theorem xZ {Q:Exit->Act->World->Prop} {K:Act->World->Prop} {a:Act} {w:World} (h:K a w):Nh Q K .normal a w:=h
def m8 (v:Value) (w:World):Result Next->Prop
 |.ok (.value u) w'=>u=v/\w'=w
 |_=>False
theorem m8.eq {v:Value} {w:World} {r:Result Next} (h:m8 v w r):r=.ok (.value v) w:=by
 cases r with
 |ok n w'=>cases n<;>first|exact h.elim|(obtain⟨rfl,rfl⟩:=h;rfl)
 |halt x w'=>exact h.elim
def iI (ops:Array Oper) (listed:Array Bool):Prop:=
 ∀j oj,ops[j]?=some oj->listed.getD j false=true->∀d∈oj.after,Region.binds .any d=true->listed.getD d.on false=true
theorem iI.set {ops:Array Oper} {listed:Array Bool} {i:Nat} (h:iI ops listed) (hr:i∈Region.ready .any ops listed):iI ops (listed.setIfInBounds i true):=by
 intro j oj hj hl d hd hb
 refine getD_set_true ?_
 by_cases hij:i=j
 ·subst hij
  obtain⟨_,o,ho,hall⟩:=mem_ready.1 hr
  rw[hj]at ho;cases ho
  exact hall d hd hb
 ·rw[getD_set_ne false hij]at hl
  exact h j oj hj hl d hd hb
def lr (ops:Array Oper):Nat->Nat->Nat->Bool
 |0,_,_=>false
 | f+1,e,i=>match ops[e]? with
   |some oe=>oe.after.any fun d=>Region.binds .any d&&(d.on==i||lr ops f d.on i)
   |none=>false
theorem iI.reach {ops:Array Oper} {listed:Array Bool} (h:iI ops listed):∀(f e i:Nat),(∀oe,ops[e]?=some oe->∀d∈oe.after,Region.binds .any d=true->listed.getD d.on false=true)->lr ops f e i=true->listed.getD i false=true
 |0,_,_,_,hr=>by simp[lr]at hr
 | f +1,e,i,he,hr=>by
   unfold lr at hr
   cases ho:ops[e]? with
   |none=>simp[ho]at hr
   | some oe=>
     simp only[ho]at hr
     obtain⟨k,hk,hr⟩:=Array.any_eq_true.1 hr
     simp only[Bool.and_eq_true,Bool.or_eq_true,beq_iff_eq]at hr
     obtain⟨hb,hr⟩:=hr
     have hd:=Array.getElem_mem hk
     generalize oe.after[k]=d at *
     have hl:=he oe ho d hd hb
     rcases hr with rfl|hr
     ·exact hl
     ·exact h.reach f d.on i (fun od hod d' hd' hb'=>h d.on od hod hl d' hd' hb') hr
section
variable{P:Program} {S:World->Prop} {Q:Exit->Act->World->Prop} {e:Nat}
theorem zF {ops:Array Oper} {K:Act->World->Prop} {a:Act} {w:World} {i:Nat} {o:Oper} (ho:ops[i]?=some o) (h:wpList P ops (Nh Q K) [o] a w):wpOp P ops Q i K a w:=by
 unfold Go.wpOp
 rw[ho]
 unfold wpList at h
 show if _ then _ else _
 split
 ·rename_i hw
  rw[if_pos hw]at h
  rcases h with h|h
  ·left
   unfold Oper.wp Oper.upon at *
   exact h
  ·exact .inr h
 ·rename_i hw
  rw[if_neg hw]at h
  exact h
def Ge (S:World->Prop) (e:Nat) (listed:Array Bool) (w:World):Prop:=listed.getD e false=false->S w
theorem Ge.set {i:Nat} {listed:Array Bool} {w:World} (hie:i≠e):Ge S e (listed.setIfInBounds i true) w↔Ge S e listed w:=by
 unfold Ge;rw[getD_set_ne false hie]
def Ku (P:Program) (ops:Array Oper) (Q:Exit->Act->World->Prop) (S:World->Prop) (e:Nat):Nat->Array Bool->Act->World->Prop
 |0,listed,a,w=>Region.ready .any ops listed=[]/\Q .normal a w
 | f+1,listed,a,w=>
   (Region.ready .any ops listed=[]->Q .normal a w)/\
   ∀i∈Region.ready .any ops listed,wpOp P ops Q i (fun a' w'=>Ge S e (listed.setIfInBounds i true) w'/\Ku P ops Q S e f (listed.setIfInBounds i true) a' w') a w
theorem pM {ops:Array Oper}:∀(f:Nat) (listed:Array Bool) (a:Act) (w:World),Ku P ops Q S e f listed a w->wpAny P .any ops Q f listed a w
 |0,_,_,_,h=>h
 |f+1,_,_,_,h=>⟨h.1,fun i hi=>wpOp_mono (fun a' w' h'=>pM f _ a' w' h'.2) (h.2 i hi)⟩
theorem qh {i:Nat} {listed:Array Bool} (h0:listed.getD i true=false):listed.getD i false≠true:=by
 intro h'
 rcases Nat.lt_or_ge i listed.size with hx|hx
 ·simp[hx]at h0 h';rw[h0]at h';cases h'
 ·simp[Array.getElem?_eq_none hx]at h'
theorem iI.yet {ops:Array Oper} {listed:Array Bool} {i:Nat} (hc:iI ops listed) (hsz:listed.size=ops.size) (hi:listed.getD i true=false) (hre:ops.size<=e\/∃f,lr ops f e i=true):listed.getD e false=false:=by
 cases hle:listed.getD e false with
 |false=>rfl
 | true=>
   rcases hre with hs|⟨f,hf⟩
   ·simp[Array.getElem?_eq_none (show listed.size<=e by omega)]at hle
   ·exact absurd (hc.reach f e i (fun oe hoe d hd hb=>hc e oe hoe hle d hd hb) hf) (qh hi)
theorem Ay {ops:Array Oper} {i:Nat} {oi:Oper} {v:Value} (hi:ops[i]?=some oi) (hsel:∀(j:Nat) (o:Oper) cs b,ops[j]?=some o->o.op≠.select cs b)
 (hQ:∀c a w,Q (.panic c) (a.put oi.dst v) w->Q (.panic c) a w) (hie:i≠e) (hre:ops.size<=e\/∃f,lr ops f e i=true):
 ∀(fuel:Nat) (listed:Array Bool) (a:Act) (w:World),iI ops listed->listed.size=ops.size->
  (∀j oj,ops[j]?=some oj->j≠i->listed.getD j true=false->(∀e∈oj.after,Region.binds .any e=true->e.on≠i)->oi.apart ops oj=true)->
  i∈Region.ready .any ops listed->YieldsIf P ops S oi v a->S w->
  Ku P ops Q S e fuel (listed.setIfInBounds i true) (a.put oi.dst v) w->Ku P ops Q S e (fuel+1) listed a w:=by
 intro fuel
 induction fuel with
 | zero=>
   intro listed a w _ _ _ hr hy hS H
   refine⟨fun h=>(by rw[h]at hr;cases hr),fun j hj=>?_⟩
   by_cases hji:j=i
   ·subst hji;exact hy.wpOp hi hS ⟨fun _=>hS,H⟩
   ·have:=ready_mono hj hji
    rw[H.1]at this
    cases this
 | succ fuel ih=>
   intro listed a w hcl hsz hfree hr hy hS H
   refine⟨fun h=>(by rw[h]at hr;cases hr),fun j hj=>?_⟩
   by_cases hji:j=i
   ·subst hji;exact hy.wpOp hi hS ⟨fun _=>hS,H⟩
   ·have h1:=H.2 j (ready_mono hj hji)
    obtain⟨hjun,oj,hoj,hall⟩:=mem_ready.1 hj
    have h0:=(mem_ready.1 hr).1
    have hnot:∀e∈oj.after,Region.binds .any e=true->e.on≠i:=fun e he hb heq=>by
     have h1:=hall e he hb
     rw[heq]at h1
     exact qh h0 h1
    have h2:=wpOp_putIf hoj (hfree j oj hoj hji hjun hnot) (fun cs b=>hsel i oi cs b hi) (fun cs b=>hsel j oj cs b hoj) hQ hy h1
    have hfree':∀k ok,ops[k]?=some ok->k≠i->(listed.setIfInBounds j true).getD k true=false->
     (∀e∈ok.after,Region.binds .any e=true->e.on≠i)->oi.apart ops ok=true:=fun k ok hk hki hun hno=>by
     refine hfree k ok hk hki ?_ hno
     by_cases hjk:j=k
     ·subst hjk;exact hjun
     ·rw[getD_set_ne true hjk]at hun;exact hun
    have hyet:(listed.setIfInBounds j true).getD e false=false:=(hcl.set hj).yet (by simpa using hsz) (by rw[getD_set_ne true hji];exact h0) hre
    refine wpOp_mono (fun a' w' h3=>?_) h2
    obtain⟨hyy,hg,hz⟩:=h3
    rw[Array.setIfInBounds_comm _ _ (Ne.symm hji)]at hg hz
    rw[Ge.set hie]at hg
    exact⟨hg,ih (listed.setIfInBounds j true) a' w' (hcl.set hj) (by simpa using hsz) hfree' (ready_mono hr (Ne.symm hji)) hyy (hg hyet) hz⟩
/-! ###The moves-/
def AO (P:Program) (l:List Oper) (Q:Exit->Act->World->Prop) (S:World->Prop) (e f:Nat) (listed:Array Bool) (a:Act) (w:World):Prop:=
 iI l.toArray listed->listed.size=l.length->Ku P l.toArray Q S e f listed a w
def BY (ops:Array Oper) (e i:Nat) (listed:Array Bool):Bool:=
 lc ops i listed&&(decide (i≠e)&&(decide (ops.size<=e)||lr ops ops.size e i))
theorem fB {l:List Oper} {f:Nat} {listed:Array Bool} {a:Act} {w:World} (i:Nat) {o:Oper} (v:Value) (ho':l[i]?=some o) (hg:o.guard=none)
 (hB:BY l.toArray e i listed=true) (hQ:∀c a w,Q (.panic c) (a.put o.dst v) w->Q (.panic c) a w) (hS:S w)
 (h:∀w',S w'->m8 v w' ((execOp a.eval o).run P w'))
 (h2:AO P l Q S e f (listed.setIfInBounds i true) (a.put o.dst v) w):AO P l Q S e (f+1) listed a w:=by
 have ho:l.toArray[i]?=some o:=by simpa using ho'
 intro hcl hsz
 simp only[BY,lc,Bool.and_eq_true,Bool.or_eq_true,decide_eq_true_eq]at hB
 obtain⟨⟨⟨hsel,hr⟩,hf⟩,hie,hre⟩:=hB
 have hr':i∈Region.ready .any l.toArray listed:=by simpa using hr
 exact Ay ho (Region.noSelect_spec hsel) hQ hie (hre.imp id fun h=>⟨_,h⟩) f listed a w hcl (by simpa using hsz) (Region.free_spec ho hf) hr' (.inl ⟨by simp[Region.wanted,hg],fun w' hw'=>(h w' hw').eq⟩) hS (h2 (hcl.set hr') (by simpa using hsz))
theorem oh {l:List Oper} {f:Nat} {listed:Array Bool} {a:Act} {w:World} (i:Nat) {o:Oper} (ho':l[i]?=some o) (hr:Region.ready .any l.toArray listed=[i])
 (h:wpList P l.toArray (Nh Q fun a' w'=>Ge S e (listed.setIfInBounds i true) w'/\AO P l Q S e f (listed.setIfInBounds i true) a' w') [o] a w):AO P l Q S e (f+1) listed a w:=by
 intro hcl hsz
 refine⟨fun h0=>(by rw[hr]at h0;cases h0),fun j hj=>?_⟩
 have hj':=hj
 rw[hr]at hj
 obtain rfl:j=i:=by simpa using hj
 exact wpOp_mono (fun a' w' h'=>⟨h'.1,h'.2 (hcl.set hj') (by simpa using hsz)⟩) (zF (by simpa using ho') h)
theorem F4 {l:List Oper} {listed:Array Bool} {a:Act} {w:World} (hr:Region.ready .any l.toArray listed=[]) (h:wpList P l.toArray Q [] a w):AO P l Q S e 0 listed a w:=fun _ _=>⟨hr,h⟩
theorem uR {id:Nat} {a:Act} {w:World} {l:List Oper} (n e:Nat) (S:World->Prop) (hn:l.length=n) (hm:P.follows .mixedOrders=true)
 (h:AO P l Q S e n (Array.replicate n false) a w.drew):(Code.region id l.toArray true).wp P Q a w:=by
 refine wp_region_any hm (pM (S:=S) (e:=e) _ _ _ _ ?_)
 have hs:l.toArray.size=n:=by simpa using hn
 rw[hs]
 refine h (fun j oj _ hl=>?_) (by simp[hn])
 rw[getD_replicate_false]at hl;cases hl
theorem aO {op:Oper} {a:Act} {w:World} (ty:TypeId) (x:Operand) (ho:op.op=.load ty x) (b o:Nat) (hx:a.eval x=.pointer (some ⟨b,o,none⟩))
 (c:Array Value) (t:TypeId) (hg:af w b c t) (cs:Array Value) (hc:∀j,j<cs.size->c[o+j]?=cs[j]?) (d:TypeDesc)
 (hu:P.underlying ty=some d) (hd:d.isRow=true) (hi:(P.info? ty).map (·.size)=some cs.size) {v:Value} (hv:v=.agg cs):m8 v w ((execOp a.eval op).run P w):=by
 unfold execOp
 simp only[ho,hx,Instr.loadAt,Instr.sureAddr,Sem.run_bind,Sem.run_pure,Result.andThen_ok,run_loadVar_mid w b o ty cs.toList d (hg.range hc) hu hd (by simpa using hi)]
 exact⟨by rw[hv],rfl⟩
theorem br {op:Oper} {a:Act} {w:World} (ty:TypeId) (x:Operand) (ho:op.op=.load ty x) (b:Nat) (hx:a.eval x=.pointer (some ⟨b,0,none⟩))
 (c:Array Value) (t:TypeId) (hg:af w b c t) (d:TypeDesc)
 (hu:P.underlying ty=some d) (hd:d.isRow=true) (hi:(P.info? ty).map (·.size)=some c.size) {v:Value} (hv:v=.agg c):m8 v w ((execOp a.eval op).run P w):=
 aO ty x ho b 0 hx c t hg c (fun j _=>by rw[Nat.zero_add]) d hu hd hi hv
end
end
end Go.Proofs.YtbhahonkhiiilaaGreat
