/-
  Vectors of three numbers: what it is that one is valid, in the package and in its specification. Products and norms of vectors of three numbers, in the package and in its specification. A vector component by component: each, with the function that gives the components.
-/
import Derived.Test.YtbhahonkhiiilaaGreatAlg
set_option linter.unusedSimpArgs false
set_option linter.unusedVariables false
set_option maxRecDepth 100000
set_option maxHeartbeats 2000000
namespace Go.Proofs.YtbhahonkhiiilaaGreat
open Go.RowKit PM Dt
def ah (f:Nat->Int):Array Value:=#[.int .i64 (f 0),.int .i64 (f 1),.int .i64 (f 2)]
theorem ad (f:Nat->Int):(ah f).size=3:=rfl
theorem aG (f:Nat->Int):(ah f).all (·.oneCell')=true:=by simp[ah,Value.oneCell']
theorem az (f:Nat->Int) {i:Nat} (h:i<3):(ah f)[i]?=some (.int .i64 (f i)):=by
 have:i=0\/i=1\/i=2:=oa
 rcases this with rfl|rfl|rfl<;>rfl
theorem dD {f g:Nat->Int} (h:∀i,i<3->f i=g i):ah f=ah g:=by
 unfold ah;rw[h 0 oa,h 1 oa,h 2 oa]
theorem kF {f g:Nat->Int} {i:Nat} {v:Int} (h:i<3) (hx:v=g i) (hg:∀j,j<3->j≠i->f j=g j):(ah f).setIfInBounds i (.int .i64 v)=ah g:=by
 subst hx
 have:i=0\/i=1\/i=2:=oa
 rcases this with rfl|rfl|rfl
 ·unfold ah;rw[hg 1 oa oa,hg 2 oa oa];rfl
 ·unfold ah;rw[hg 0 oa oa,hg 2 oa oa];rfl
 ·unfold ah;rw[hg 0 oa oa,hg 1 oa oa];rfl
theorem aQ:#[Value.int .i64 0,.int .i64 0,.int .i64 0]=ah (fun _=>0):=rfl
def vb (a:Int):Bool:=decide (-1099511627776<=a)&&decide (a<=1099511627776)
theorem bE (a:Int):vb a=true↔(-1099511627776<=a/\a<=1099511627776):=by unfold vb;rw[Bool.and_eq_true,decide_eq_true_eq,decide_eq_true_eq]
def cx (f:Nat->Int):Bool:=vb (f 0)&&(vb (f 1)&&vb (f 2))
theorem bK (f:Nat->Int):cx f=true↔∀i,i<3->vb (f i)=true:=by
 unfold cx
 rw[Bool.and_eq_true,Bool.and_eq_true]
 constructor
 ·rintro⟨h0,h1,h2⟩ i hi
  have:i=0\/i=1\/i=2:=oa
  rcases this with rfl|rfl|rfl<;>assumption
 ·intro h;exact⟨h 0 oa,h 1 oa,h 2 oa⟩
attribute [irreducible] ah
theorem nY {w:World} {b:Nat} {f:Nat->Int} {t:TypeId} (h:af w b (ah f) t):iL w (.slice (some ⟨b,0,none⟩) 3 3) [f 0,f 1,f 2]:=
 Or.inr ⟨by simp,b,0,3,rfl,h.lt,fun k hk=>by
  have hk:k<3:=hk
  rw[Nat.zero_add]
  refine(h.cellIs (az f hk)).trans ?_
  have:k=0\/k=1\/k=2:=oa
  rcases this with rfl|rfl|rfl<;>rfl⟩
theorem iQ {f:Nat->Int} (h:∀i,i<3->bu (f i)):∀k,k< [f 0,f 1,f 2].length->bu ([f 0,f 1,f 2].getD k 0):=by
 intro k hk
 have hk:k<3:=hk
 have:k=0\/k=1\/k=2:=oa
 rcases this with rfl|rfl|rfl
 ·exact h 0 oa
 ·exact h 1 oa
 ·exact h 2 oa
theorem aq {P:Program} {fn:Func} {p u:Tmp} {ty:TypeId} (h:fn.results=#[.cell p ty,.tmp u]) (tmps:Array Value) (w:World) (g:Nat) (t:TypeId) (cs:Array Value) (fr:Nat×Nat) (d:TypeDesc)
 (hp:tmps.getD p undef=.pointer (some ⟨g,0,none⟩)) (hg:w.heap[g]?=some (.cells cs t fr))
 (hu:P.underlying ty=some d) (hd:(match d with|.struct _|.array _ _=>true|_=>false)=true) (hi:(P.info? ty).map (·.size)=some cs.size):
 (results fn tmps).run P w=.ok (.tuple #[.agg cs,tmps.getD u undef]) w:=by
 rw[results_cell_tmp h]
 have hp':tmps[p]?.getD undef=.pointer (some ⟨g,0,none⟩):=by simpa using hp
 simp[hp',asAddr,run_loadVar_row w g t ty cs fr d hg hu hd hi,Result.andThen]
theorem ej (a:Int) (w:World):Calls Tryz.prog 70 #[.int .i64 a] w fun e w'=>e=.returned (.bool (vb a))/\w=w':=by
 by_cases h1:-1099511627776<=a
 ·have d1:decide (-1099511627776<=a)=true:=dT h1
  by_cases h2:a<=1099511627776
  ·have d2:decide (a<=1099511627776)=true:=dT h2
   have hv:vb a=true:=by unfold vb;rw[d1,d2];rfl
   rw[hv]
   clear h1 h2 hv
   go_enter Tryz.func70,Tryz.ntmps70
   go_wp2_with (fail)
   go_ret
   exact⟨rfl,rfl⟩
  ·have d2:decide (a<=1099511627776)=false:=dF h2
   have hv:vb a=false:=by unfold vb;rw[d1,d2];rfl
   rw[hv]
   clear h1 h2 hv
   go_enter Tryz.func70,Tryz.ntmps70
   go_wp2_with (fail)
   go_ret
   exact⟨rfl,rfl⟩
 ·have d1:decide (-1099511627776<=a)=false:=dF h1
  have hv:vb a=false:=by unfold vb;rw[d1];rfl
  rw[hv]
  clear h1 hv
  go_enter Tryz.func70,Tryz.ntmps70
  go_wp2_with (fail)
  go_ret
  exact⟨rfl,rfl⟩
theorem cd (f:Nat->Int) (w:World):Calls Tryz.prog 32 #[.agg (ah f)] w fun e w'=>e=.returned (.bool (cx f))/\Below w.heap.size w w':=by
 have W0:=aa (fun w=>ej (f 0) w)
 have W1:=aa (fun w=>ej (f 1) w)
 have W2:=aa (fun w=>ej (f 2) w)
 have p:af (w.alloc (.cells (ah f) 25)) w.heap.size (ah f) 25:=af.new _ _ _
 have hB:Below w.heap.size w (w.alloc (.cells (ah f) 25)):=by go_grown
 have c0:(w.alloc (.cells (ah f) 25)).cell? ⟨w.heap.size,0,none⟩=some (.int .i64 (f 0)):=p.cellIs (az f oa)
 have c1:(w.alloc (.cells (ah f) 25)).cell? ⟨w.heap.size,1,none⟩=some (.int .i64 (f 1)):=p.cellIs (az f oa)
 have c2:(w.alloc (.cells (ah f) 25)).cell? ⟨w.heap.size,2,none⟩=some (.int .i64 (f 2)):=p.cellIs (az f oa)
 unfold cx
 generalize vb (f 0)=b0 at *
 generalize vb (f 1)=b1 at *
 generalize vb (f 2)=b2 at *
 cases b0<;>cases b1<;>cases b2
 all_goals
  go_enter Tryz.func32,Tryz.ntmps32
  go_wp2_with (first
   |(go_at_call 70;with_reducible refine(W0.out _).mono ?_;rintro e w1 ⟨rfl,rfl⟩)
   |(go_at_call 70;with_reducible refine(W1.out _).mono ?_;rintro e w1 ⟨rfl,rfl⟩)
   |(go_at_call 70;with_reducible refine(W2.out _).mono ?_;rintro e w1 ⟨rfl,rfl⟩))
  go_ret
  exact⟨rfl,hB⟩
theorem ac {P:Program} {ops:Array Oper} {rest:List Oper} {o:Oper} {a:Act} {w:World} {Q:Exit->Act->World->Prop} (hw:Region.wanted o (yielded ops a.tmps)=true) (ty:TypeId) (x:Operand) (ho:o.op=.load ty x)
 (g:Nat) (hx:a.eval x=.pointer (some ⟨g,0,none⟩)) (t:TypeId) (cs:Array Value) (fr:Nat×Nat) (d:TypeDesc) (hg:w.heap[g]?=some (.cells cs t fr))
 (hu:P.underlying ty=some d) (hd:(match d with|.struct _|.array _ _=>true|_=>false)=true) (hi:(P.info? ty).map (·.size)=some cs.size)
 (h:wpList P ops Q rest (a.put o.dst (.agg cs)) w):wpList P ops Q (o::rest) a w:=
 wpList_step fun K hK=>by rw[if_pos hw];exact wp_load_row ty x ho g hx t cs fr d hg hu hd hi (hK _ _ h)
theorem s8 {a:Int} (h:vb a=true):bu a:=by
 have:=(bE a).1 h
 exact⟨oa,oa⟩
theorem uo {S:Int} (h1:-1237940039285380274899124224<=S) (h2:S<=1237940039285380274899124224):dG (gA S)=gA S/\gu (gA S)=0:=nB (by unfold gA;omega) (by unfold gA;omega)
theorem fh {a b:Int} (ha:vb a=true) (hb:vb b=true):-1208925819614629174706176<=a*b/\a*b<=1208925819614629174706176:=by
 have h1:=(bE a).1 ha
 have h2:=(bE b).1 hb
 have:=bR (P:=1099511627776) (R:=1099511627776) h1.1 h1.2 h2.1 h2.2
 exact this
def d3 (f g:Nat->Int):Int:=du [f 0,f 1,f 2] [g 0,g 1,g 2]
theorem mE {f g:Nat->Int} (hf:cx f=true) (hg:cx g=true):gK [f 0,f 1,f 2] [g 0,g 1,g 2]=gA (d3 f g)/\jY [f 0,f 1,f 2] [g 0,g 1,g 2]=0:=by
 have a0:=fh ((bK f).1 hf 0 oa) ((bK g).1 hg 0 oa)
 have a1:=fh ((bK f).1 hf 1 oa) ((bK g).1 hg 1 oa)
 have a2:=fh ((bK f).1 hf 2 oa) ((bK g).1 hg 2 oa)
 have e:du [f 0,f 1,f 2] [g 0,g 1,g 2]=f 0*g 0+(f 1*g 1+(f 2*g 2+0)):=by rw[aK,aK,aK,cJ]
 have:=uo (S:=du [f 0,f 1,f 2] [g 0,g 1,g 2]) (by rw[e];omega) (by rw[e];omega)
 unfold gK jY d3
 rw[if_neg sd,if_neg sd]
 exact this
theorem nK {f:Nat->Int} (hf:cx f=true):∀i,i<3->bu (f i):=fun i hi=>s8 ((bK f).1 hf i hi)
theorem DH (f g:Nat->Int) (b c:Nat) (w:World) (hf:cx f=true) (hg:cx g=true) (p:af w b (ah f) 25) (q:af w c (ah g) 25):
 Calls Tryz.prog 49 #[.slice (some ⟨b,0,none⟩) 3 3,.slice (some ⟨c,0,none⟩) 3 3] w fun e w'=>e=.returned (.tuple #[.int .i64 (gA (d3 f g)),.int .i64 0])/\Below w.heap.size w w':=
 (ic [f 0,f 1,f 2] [g 0,g 1,g 2] _ _ w (nY p) (nY q) (iQ (nK hf)) (iQ (nK hg))).mono fun e w' h=>⟨h.1.trans (by rw[(mE hf hg).1,(mE hf hg).2]),h.2⟩
def gO (f g:Nat->Int):Int:=if cx f&&cx g then gA (d3 f g)else 0
def pn (f g:Nat->Int):Int:=if cx f&&cx g then 0 else 2
def ga (x er:Nat->Int):Bool:=(er 0==0&&vb (x 0))&&((er 1==0&&vb (x 1))&&(er 2==0&&vb (x 2)))
theorem fO (x er:Nat->Int):ga x er=true↔∀i,i<3->er i=0/\vb (x i)=true:=by
 unfold ga
 simp only[Bool.and_eq_true,beq_iff_eq]
 constructor
 ·rintro⟨h0,h1,h2⟩ i hi
  have:i=0\/i=1\/i=2:=oa
  rcases this with rfl|rfl|rfl<;>assumption
 ·intro h;exact⟨h 0 oa,h 1 oa,h 2 oa⟩
theorem eI {x er:Nat->Int} {i:Nat} (h:i<3) (hb:¬(er i=0/\vb (x i)=true)):ga x er=false:=by
 rw[Bool.eq_false_iff];intro h2;exact hb ((fO x er).1 h2 i h)
def dC (x:Nat->Int) (k:Nat):Nat->Int:=fun j=>if j<k then x j else 0
def dP (x er:Nat->Int):Nat->Int:=if ga x er then x else fun _=>0
def dO (x er:Nat->Int):Int:=if ga x er then 0 else 7
theorem gD (v:Value) (w:World):Calls Tryz.prog 86 #[.bool false,v] w fun e w'=>e=.returned (.tuple #[.agg (ah fun _=>0),.int .i64 2])/\Below w.heap.size w w':=by
 go_enter Tryz.func86,Tryz.ntmps86
 go_upto_region 2 with(fail)
 rw[aQ]
 have p:af ((w.alloc (.cells (ah fun _=>0) 25)).alloc (.cells (ah fun _=>0) 25)) w.heap.size (ah fun _=>0) 25:=(af.new _ _ _).alloc _
 have q:af ((w.alloc (.cells (ah fun _=>0) 25)).alloc (.cells (ah fun _=>0) 25)) (w.heap.size+1) (ah fun _=>0) 25:=af.new' sd
 have hB:Below w.heap.size w ((w.alloc (.cells (ah fun _=>0) 25)).alloc (.cells (ah fun _=>0) 25)):=by go_grown
 generalize(w.alloc (.cells (ah fun _=>0) 25)).alloc (.cells (ah fun _=>0) 25)=w0 at *
 go_wp2_with (first|(refine ac ?hw _ _ rfl _ rfl _ _ _ _ q yc rfl ?hi ?_;(case hw=>(first|rfl|(simp[Region.wanted,yielded];done)));(case hi=>(rw[ad];kernel_rfl)))|(refine ag rfl _ _ _ rfl _ rfl _ rfl _ _ p (by rw[ad];kernel_rfl) (by simp only[ad]) (aG _) ?_))
 refine bodyPost_ret (aq rfl _ _ _ _ _ _ _ rfl (p.row (ah (fun _=>0))) yc rfl (by rw[ad];kernel_rfl)) rfl ?_;refine⟨?_,Below.setRow hB (ns _) _⟩
 rfl
theorem qC (x er:Nat->Int) (c1 c2:Value) (w:World)
 (hf:Hid (∀i:Nat,i<3->∀w1,Below w.heap.size w w1->Calls Tryz.prog 101 #[.int .i64 i,c1,c2] w1 fun e w'=>e=.returned (.tuple #[.int .i64 (x i),.int .i64 (er i)])/\Below w1.heap.size w1 w')):
 Calls Tryz.prog 86 #[.bool true,.func (.func 101) #[] #[c1,c2]] w fun e w'=>e=.returned (.tuple #[.agg (ah (dP x er)),.int .i64 (dO x er)])/\Below w.heap.size w w':=by
 go_enter Tryz.func86,Tryz.ntmps86
 go_upto_region 2 with(fail)
 rw[aQ]
 have p:af ((w.alloc (.cells (ah fun _=>0) 25)).alloc (.cells (ah fun _=>0) 25)) w.heap.size (ah fun _=>0) 25:=(af.new _ _ _).alloc _
 have q:af ((w.alloc (.cells (ah fun _=>0) 25)).alloc (.cells (ah fun _=>0) 25)) (w.heap.size+1) (ah fun _=>0) 25:=af.new' sd
 have hB:Below w.heap.size w ((w.alloc (.cells (ah fun _=>0) 25)).alloc (.cells (ah fun _=>0) 25)):=by go_grown
 generalize(w.alloc (.cells (ah fun _=>0) 25)).alloc (.cells (ah fun _=>0) 25)=w0 at *
 go_wp2_with (fail)
 go_loopg [13] 3 (fun g iv wr=>∃k:Nat,g+k=3/\iv=.int .i64 k/\Hid (∀j,j<k->er j=0/\vb (x j)=true)/\af wr w.heap.size (ah fun _=>0) 25/\af wr (w.heap.size+1) (ah (dC x k)) 25/\Below w.heap.size w wr)
 case atStart=>exact⟨0,rfl,rfl,fun j hj=>by omega,p,by rw[show ah (dC x 0)=ah (fun _=>0)from dD fun i _=>by simp[dC]];exact q,hB⟩
 case round=>
  clear p q hB
  obtain⟨k,hk,rfl,hall,p,q,hB⟩:=hrel
  by_cases hkn:k<3
  ·have hdk:decide ((k:Int)<3)=true:=dT oa
   have hdk':decide (k<3)=true:=dT oa
   have hw3:IntKind.i64.wrap ((k:Int)+1)=((k+1:Nat):Int):=by rw[wI];omega
   have W0:=aa (fun w=>ej (x k) w)
   have HC:=aa (hf.out k hkn)
   by_cases he:er k=0
   ·have de:(er k !=0)=false:=by simp[he]
    have HE:=aa he
    obtain⟨b,hb⟩:∃b,vb (x k)=b:=⟨_,rfl⟩
    rw[hb]at W0
    have HVB:=aa hb
    clear hb he
    cases b
    ·have HG:=aa (show ga x er=false from eI hkn (by rintro⟨_,h⟩;rw[HVB.out]at h;cases h))
     go_wp2_with (first
      |(go_at_call 101;refine(HC.out _ hB).mono ?_;rintro e w1 ⟨rfl,hb⟩;replace hB:=hB.trans (hb.mono hB.size);replace p:=p.below hb p.lt;replace q:=q.below hb q.lt;clear hb)
      |(go_at_call 70;refine(W0.out _).mono ?_;rintro e w1 ⟨rfl,rfl⟩)
      |(rw[aQ];refine ag rfl _ _ _ rfl _ rfl _ rfl _ _ p (by rw[ad];kernel_rfl) (by simp only[ad]) (aG _) ?_))
     refine bodyPost_ret (aq rfl _ _ _ _ _ _ _ rfl (p.row (ah (fun _=>0))) yc rfl (by rw[ad];kernel_rfl)) rfl ?_;refine⟨?_,Below.setRow hB (ns _) _⟩
     unfold dP dO;rw[HG.out];rfl
    ·go_upto_region 8 with(go_at_call 101;refine(HC.out _ hB).mono ?_;rintro e w1 ⟨rfl,hb⟩;replace hB:=hB.trans (hb.mono hB.size);replace p:=p.below hb p.lt;replace q:=q.below hb q.lt;clear hb)
     have fz:w1.frozen? ⟨w.heap.size+1,k,none⟩=false:=q.free _
     have cz:w1.cell? ⟨w.heap.size+1,k,none⟩=some (.int .i64 (dC x k k)):=q.cellIs (az _ hkn)
     go_wp2_with (go_at_call 70;refine(W0.out _).mono ?_;rintro e w1 ⟨rfl,rfl⟩)
     go_roundg (3-(k+1))
     case rel=>
      refine⟨k+1,oa,rfl,fun j hj=>?_,p.setOther sd _,q.set' (kF hkn ?_ ?_),hB.setCell sd _⟩
      ·by_cases e:j=k
       ·subst e;exact⟨HE.out,HVB.out⟩
       ·exact hall.out j oa
      ·simp[dC]
      ·intro j hj hne;simp only[dC];split<;>split<;>first|rfl|omega
     case measure=>omega
   ·have de:(er k !=0)=true:=by simpa using he
    have HG:=aa (show ga x er=false from eI hkn (by rintro⟨h,_⟩;exact he h))
    clear he
    go_wp2_with (first
     |(go_at_call 101;refine(HC.out _ hB).mono ?_;rintro e w1 ⟨rfl,hb⟩;replace hB:=hB.trans (hb.mono hB.size);replace p:=p.below hb p.lt;replace q:=q.below hb q.lt;clear hb)
     |(rw[aQ];refine ag rfl _ _ _ rfl _ rfl _ rfl _ _ p (by rw[ad];kernel_rfl) (by simp only[ad]) (aG _) ?_))
    refine bodyPost_ret (aq rfl _ _ _ _ _ _ _ rfl (p.row (ah (fun _=>0))) yc rfl (by rw[ad];kernel_rfl)) rfl ?_;refine⟨?_,Below.setRow hB (ns _) _⟩
    unfold dP dO;rw[HG.out];rfl
  ·obtain rfl:k=3:=oa
   have HG:=aa ((fO x er).2 hall.out)
   have e3:ah (dC x 3)=ah x:=dD fun i hi=>by simp[dC,hi]
   rw[e3]at q
   go_wp2_with (first|(refine ac ?hw _ _ rfl _ rfl _ _ _ _ q yc rfl ?hi ?_;(case hw=>(first|rfl|(simp[Region.wanted,yielded];done)));(case hi=>(rw[ad];kernel_rfl)))|(refine ag rfl _ _ _ rfl _ rfl _ rfl _ _ p (by rw[ad];kernel_rfl) (by simp only[ad]) (aG _) ?_))
   refine bodyPost_ret (aq rfl _ _ _ _ _ _ _ rfl (p.row (ah x)) yc rfl (by rw[ad];kernel_rfl)) rfl ?_;refine⟨?_,Below.setRow hB (ns _) _⟩
   unfold dP dO;rw[HG.out];rfl
def KF (a b:Int):Int:=bG a b 1073741824
theorem CK (q:Int):bu (dG q):=by
 unfold dG jA bu
 split
 ·rename_i h;simp at h;omega
 ·omega
theorem Dw (a b c:Int):bu (bG a b c):=by
 unfold bG
 split
 ·unfold bu;omega
 ·exact CK _
def JL (y:Int) (t:Nat->Int):Nat->Int
 |0=>0
 |k+1=>KF y (wrap64 (t (4-k)-JL y t k))
theorem pd {a:Int} (h:bu a):wrap64 a=a:=by unfold bu at h;unfold wrap64;omega
attribute [irreducible] JL KF
theorem ou {a b:Int} (ha:bu a) (hb:bu b):∀k,k< [a,b].length->bu ([a,b].getD k 0):=by
 intro k hk
 rcases k with _|_|k
 ·exact ha
 ·exact hb
 ·simp at hk;omega
theorem sH {w:World} {b:Nat} {a c:Int} {t:TypeId} (h:af w b #[.int .i64 a,.int .i64 c] t):iL w (.slice (some ⟨b,0,none⟩) 2 2) [a,c]:=
 Or.inr ⟨by simp,b,0,2,rfl,h.lt,fun k hk=>by
  rcases k with _|_|k
  ·exact h.cellIs rfl
  ·exact h.cellIs rfl
  ·simp at hk;omega⟩
def vV (a b c d:Int):Int:=gA (du [a,-c] [b,d])
theorem mD {a:Int} (h:vb a=true):vb (-a)=true:=(bE _).2 (by have:=(bE a).1 h;omega)
theorem yZ {a b c d:Int} (ha:vb a=true) (hb:vb b=true) (hc:vb c=true) (hd:vb d=true):gK [a,-c] [b,d]=vV a b c d/\jY [a,-c] [b,d]=0:=by
 have a0:=fh ha hb
 have a1:=fh (mD hc) hd
 have e:du [a,-c] [b,d]=a*b+(-c*d+0):=by rw[aK,aK,cJ]
 have:=uo (S:=du [a,-c] [b,d]) (by rw[e];omega) (by rw[e];omega)
 unfold gK jY vV
 rw[if_neg sd,if_neg sd]
 exact this
theorem sV (a b c d:Int) (x y:Nat) (w:World) (ha:vb a=true) (hb:vb b=true) (hc:vb c=true) (hd:vb d=true) (p:af w x #[.int .i64 a,.int .i64 (-c)] 2) (q:af w y #[.int .i64 b,.int .i64 d] 2):
 Calls Tryz.prog 49 #[.slice (some ⟨x,0,none⟩) 2 2,.slice (some ⟨y,0,none⟩) 2 2] w fun e w'=>e=.returned (.tuple #[.int .i64 (vV a b c d),.int .i64 0])/\Below w.heap.size w w':=
 (ic [a,-c] [b,d] _ _ w (sH p) (sH q) (ou (s8 ha) (s8 (mD hc))) (ou (s8 hb) (s8 hd))).mono fun e w' h=>⟨h.1.trans (by rw[(yZ ha hb hc hd).1,(yZ ha hb hc hd).2]),h.2⟩
theorem vE (f g:Nat->Int) (w:World):Calls Tryz.prog 102 #[.agg (ah f),.agg (ah g)] w fun e w'=>e=.returned (.tuple #[.int .i64 (gO f g),.int .i64 (pn f g)])/\Below w.heap.size w w':=by
 have V1:=aa (fun w=>cd f w)
 have V2:=aa (fun w=>cd g w)
 have D:=aa (fun h1 h2=>fun x y w p q=>DH f g x y w h1 h2 p q)
 unfold gO pn
 obtain⟨bf,hf⟩:∃b,cx f=b:=⟨_,rfl⟩
 obtain⟨bg,hg⟩:∃b,cx g=b:=⟨_,rfl⟩
 rw[hf]at V1 D|-
 rw[hg]at V2 D|-
 clear hf hg
 obtain⟨X,hX⟩:∃X,X=gA (d3 f g):=⟨_,rfl⟩
 rw[<-hX]at D|-
 clear hX
 go_enter Tryz.func102,Tryz.ntmps102
 go_upto_region 1 with(fail)
 have p:af ((w.alloc (.cells (ah f) 25)).alloc (.cells (ah g) 25)) w.heap.size (ah f) 25:=(af.new _ _ _).alloc _
 have q:af ((w.alloc (.cells (ah f) 25)).alloc (.cells (ah g) 25)) (w.heap.size+1) (ah g) 25:=af.new' sd
 have hB:Below w.heap.size w ((w.alloc (.cells (ah f) 25)).alloc (.cells (ah g) 25)):=by go_grown
 generalize(w.alloc (.cells (ah f) 25)).alloc (.cells (ah g) 25)=w0 at *
 cases bf
 ·go_wp2_with (first|(refine ac ?hw _ _ rfl _ rfl _ _ _ _ p yc rfl ?hi ?_;(case hw=>(first|rfl|(simp[Region.wanted,yielded];done)));(case hi=>(rw[ad];kernel_rfl)))|(refine ac ?hw _ _ rfl _ rfl _ _ _ _ q yc rfl ?hi ?_;(case hw=>(first|rfl|(simp[Region.wanted,yielded];done)));(case hi=>(rw[ad];kernel_rfl)))|(go_at_call 32;with_reducible refine(V1.out _).mono ?_;rintro e w1 ⟨rfl,hb⟩;replace hB:=hB.trans (hb.mono hB.size);replace p:=p.below hb p.lt;replace q:=q.below hb q.lt;clear hb)|(go_at_call 32;with_reducible refine(V2.out _).mono ?_;rintro e w1 ⟨rfl,hb⟩;replace hB:=hB.trans (hb.mono hB.size);replace p:=p.below hb p.lt;replace q:=q.below hb q.lt;clear hb))
  go_ret2
  exact⟨rfl,hB⟩
 cases bg
 ·go_wp2_with (first|(refine ac ?hw _ _ rfl _ rfl _ _ _ _ p yc rfl ?hi ?_;(case hw=>(first|rfl|(simp[Region.wanted,yielded];done)));(case hi=>(rw[ad];kernel_rfl)))|(refine ac ?hw _ _ rfl _ rfl _ _ _ _ q yc rfl ?hi ?_;(case hw=>(first|rfl|(simp[Region.wanted,yielded];done)));(case hi=>(rw[ad];kernel_rfl)))|(go_at_call 32;with_reducible refine(V1.out _).mono ?_;rintro e w1 ⟨rfl,hb⟩;replace hB:=hB.trans (hb.mono hB.size);replace p:=p.below hb p.lt;replace q:=q.below hb q.lt;clear hb)|(go_at_call 32;with_reducible refine(V2.out _).mono ?_;rintro e w1 ⟨rfl,hb⟩;replace hB:=hB.trans (hb.mono hB.size);replace p:=p.below hb p.lt;replace q:=q.below hb q.lt;clear hb))
  go_ret2
  exact⟨rfl,hB⟩
 replace D:=aa (D.out rfl rfl)
 go_upto_region 3 with(first|(refine ac ?hw _ _ rfl _ rfl _ _ _ _ p yc rfl ?hi ?_;(case hw=>(first|rfl|(simp[Region.wanted,yielded];done)));(case hi=>(rw[ad];kernel_rfl)))|(refine ac ?hw _ _ rfl _ rfl _ _ _ _ q yc rfl ?hi ?_;(case hw=>(first|rfl|(simp[Region.wanted,yielded];done)));(case hi=>(rw[ad];kernel_rfl)))|(go_at_call 32;with_reducible refine(V1.out _).mono ?_;rintro e w1 ⟨rfl,hb⟩;replace hB:=hB.trans (hb.mono hB.size);replace p:=p.below hb p.lt;replace q:=q.below hb q.lt;clear hb)|(go_at_call 32;with_reducible refine(V2.out _).mono ?_;rintro e w1 ⟨rfl,hb⟩;replace hB:=hB.trans (hb.mono hB.size);replace p:=p.below hb p.lt;replace q:=q.below hb q.lt;clear hb))
 refine bV 99 7 rfl ke ?_
 replace p:=p.drew
 replace q:=q.drew
 replace hB:Below w.heap.size w _:=hB.drew
 generalize w1.drew=wo at *
 refine ai 0 (.slice (some ⟨w.heap.size,0,none⟩) 3 3) rfl rfl ke (fun w1=>by go_simp;exact⟨rfl,Below.refl _ _⟩) ?_
 simp only[Act.put,aL,aM,aN]
 refine ai 1 (.slice (some ⟨w.heap.size+1,0,none⟩) 3 3) rfl rfl ke (fun w1=>by go_simp;exact⟨rfl,Below.refl _ _⟩) ?_
 simp only[Act.put,aL,aM,aN]
 refine aV 2 (.tuple #[.int .i64 X,.int .i64 0]) rfl rfl ke ke (fun w1 h1=>?_) ?_
 ·go_simp
  refine(D.out _ _ _ (p.below h1 p.lt) (q.below h1 q.lt)).mono ?_
  rintro e w2 ⟨rfl,h2⟩
  exact⟨rfl,h2⟩
 simp only[Act.put,aL,aM,aN]
 refine ai 3 (.int .i64 X) rfl rfl ke (fun w1=>by go_simp;exact⟨rfl,Below.refl _ _⟩) ?_
 simp only[Act.put,aL,aM,aN]
 refine ai 4 (.int .i64 0) rfl rfl ke (fun w1=>by go_simp;exact⟨rfl,Below.refl _ _⟩) ?_
 simp only[Act.put,aL,aM,aN]
 refine ai 5 (.int .i64 X) rfl rfl ke (fun w1=>by go_simp;exact⟨rfl,Below.refl _ _⟩) ?_
 simp only[Act.put,aL,aM,aN]
 refine ai 6 (.int .i64 0) rfl rfl ke (fun w1=>by go_simp;exact⟨rfl,Below.refl _ _⟩) ?_
 simp only[Act.put,aL,aM,aN]
 refine dq ke (fun w3 h3=>?_)
 replace hB:=hB.trans (h3.mono hB.size)
 go_wp2_with (fail)
 go_ret2
 exact⟨rfl,hB⟩
def gW (f:Nat->Int):Int:=if cx f then dG (ig [f 0,f 1,f 2])else 0
def kW (f:Nat->Int):Int:=if cx f then gu (ig [f 0,f 1,f 2])else 2
theorem mH (f:Nat->Int) (w:World):Calls Tryz.prog 10 #[.agg (ah f)] w fun e w'=>e=.returned (.tuple #[.int .i64 (gW f),.int .i64 (kW f)])/\Below w.heap.size w w':=by
 have V1:=aa (fun w=>cd f w)
 have D:=aa (fun(h:cx f=true) (b:Nat) (w:World) (p:af w b (ah f) 25)=>mO [f 0,f 1,f 2] _ w (nY p) (iQ (nK h)))
 rw[show(if 8< [f 0,f 1,f 2].length then(0:Int)else dG (ig [f 0,f 1,f 2]))=dG (ig [f 0,f 1,f 2])from if_neg sd,show(if 8< [f 0,f 1,f 2].length then(2:Int)else gu (ig [f 0,f 1,f 2]))=gu (ig [f 0,f 1,f 2])from if_neg sd]at D
 unfold gW kW
 obtain⟨bf,hf⟩:∃b,cx f=b:=⟨_,rfl⟩
 rw[hf]at V1 D|-
 clear hf
 generalize dG (ig [f 0,f 1,f 2])=X at *
 generalize gu (ig [f 0,f 1,f 2])=E at *
 go_enter Tryz.func10,Tryz.ntmps10
 go_upto_region 1 with(fail)
 have p:af (w.alloc (.cells (ah f) 25)) w.heap.size (ah f) 25:=af.new _ _ _
 have hB:Below w.heap.size w (w.alloc (.cells (ah f) 25)):=by go_grown
 generalize w.alloc (.cells (ah f) 25)=w0 at *
 cases bf
 ·go_wp2_with (first|(refine ac ?hw _ _ rfl _ rfl _ _ _ _ p yc rfl ?hi ?_;(case hw=>(first|rfl|(simp[Region.wanted,yielded];done)));(case hi=>(rw[ad];kernel_rfl)))|(go_at_call 32;refine(V1.out _).mono ?_;rintro e w1 ⟨rfl,hb⟩;replace hB:=hB.trans (hb.mono hB.size);replace p:=p.below hb p.lt;clear hb))
  go_ret2
  exact⟨rfl,hB⟩
 ·replace D:=aa (D.out rfl)
  go_wp2_with (first
   |(refine ac ?hw _ _ rfl _ rfl _ _ _ _ p yc rfl ?hi ?_;(case hw=>(first|rfl|(simp[Region.wanted,yielded];done)));(case hi=>(rw[ad];kernel_rfl)))
   |(go_at_call 32;refine(V1.out _).mono ?_;rintro e w1 ⟨rfl,hb⟩;replace hB:=hB.trans (hb.mono hB.size);replace p:=p.below hb p.lt;clear hb)
   |(go_at_call 15;refine(D.out _ _ p).mono ?_;rintro e w2 ⟨rfl,rfl⟩))
  go_ret2
  exact⟨rfl,hB⟩
def fw (f g:Nat->Int) (i:Nat):Int:=vV (f ((i+1) % 3)) (g ((i+2) % 3)) (f ((i+2) % 3)) (g ((i+1) % 3))
theorem Ff (f g:Nat->Int) (b c:Nat) (w:World) (p:af w b (ah f) 25) (q:af w c (ah g) 25) (hw1:wrap64 (-f 2)=-f 2) (X:Int)
 (D:Hid (∀x y w,af w x #[.int .i64 (f 1),.int .i64 (-f 2)] 2->af w y #[.int .i64 (g 2),.int .i64 (g 1)] 2->Calls Tryz.prog 49 #[.slice (some ⟨x,0,none⟩) 2 2,.slice (some ⟨y,0,none⟩) 2 2] w fun e w'=>e=.returned (.tuple #[.int .i64 X,.int .i64 0])/\Below w.heap.size w w')):
 Calls Tryz.prog 101 #[.int .i64 0,.pointer (some ⟨b,0,none⟩),.pointer (some ⟨c,0,none⟩)] w fun e w'=>e=.returned (.tuple #[.int .i64 X,.int .i64 0])/\Below w.heap.size w w':=by
 have hw2:IntKind.i64.wrap (-f 2)=-f 2:=by rw[wI];unfold wrap64 at hw1;exact hw1
 go_enter Tryz.func101,Tryz.ntmps101
 go_upto_region 2 with(fail)
 have hB:bl w w:=Below.refl _ _
 refine dx 18 ke ke ?_
 replace p:=p.drew
 replace q:=q.drew
 replace hB:bl w w.drew:=hB.drew
 generalize hwo:w.drew=wo at *
 refine ao 0 (.int .i64 1) rfl rfl ke (fun w1 h1=>by go_simp;exact⟨rfl,Below.refl _ _⟩) ?_
 simp only[Act.put,aL,aM,aN]
 refine ao 1 (.pointer (some ⟨b,1,none⟩)) rfl rfl ke (fun w1 h1=>by go_simp;exact⟨rfl,Below.refl _ _⟩) ?_
 simp only[Act.put,aL,aM,aN]
 refine ao 2 (.int .i64 (f 1)) rfl rfl ke (fun w1 h1=>by have hc:w1.cell? ⟨b,1,none⟩=some (.int .i64 (f 1)):=(p.below h1 p.lt).cellIs (az _ oa);go_simp;exact⟨rfl,Below.refl _ _⟩) ?_
 simp only[Act.put,aL,aM,aN]
 refine ao 3 (.int .i64 2) rfl rfl ke (fun w1 h1=>by go_simp;exact⟨rfl,Below.refl _ _⟩) ?_
 simp only[Act.put,aL,aM,aN]
 refine ao 4 (.pointer (some ⟨b,2,none⟩)) rfl rfl ke (fun w1 h1=>by go_simp;exact⟨rfl,Below.refl _ _⟩) ?_
 simp only[Act.put,aL,aM,aN]
 refine ao 5 (.int .i64 (f 2)) rfl rfl ke (fun w1 h1=>by have hc:w1.cell? ⟨b,2,none⟩=some (.int .i64 (f 2)):=(p.below h1 p.lt).cellIs (az _ oa);go_simp;exact⟨rfl,Below.refl _ _⟩) ?_
 simp only[Act.put,aL,aM,aN]
 refine ao 6 (.int .i64 (-f 2)) rfl rfl ke (fun w1 h1=>by go_simp;exact⟨by first|rfl|rw[hw2],Below.refl _ _⟩) ?_
 simp only[Act.put,aL,aM,aN]
 refine ao 8 (.int .i64 2) rfl rfl ke (fun w1 h1=>by go_simp;exact⟨rfl,Below.refl _ _⟩) ?_
 simp only[Act.put,aL,aM,aN]
 refine ao 9 (.pointer (some ⟨c,2,none⟩)) rfl rfl ke (fun w1 h1=>by go_simp;exact⟨rfl,Below.refl _ _⟩) ?_
 simp only[Act.put,aL,aM,aN]
 refine ao 10 (.int .i64 (g 2)) rfl rfl ke (fun w1 h1=>by have hc:w1.cell? ⟨c,2,none⟩=some (.int .i64 (g 2)):=(q.below h1 q.lt).cellIs (az _ oa);go_simp;exact⟨rfl,Below.refl _ _⟩) ?_
 simp only[Act.put,aL,aM,aN]
 refine ao 11 (.int .i64 1) rfl rfl ke (fun w1 h1=>by go_simp;exact⟨rfl,Below.refl _ _⟩) ?_
 simp only[Act.put,aL,aM,aN]
 refine ao 12 (.pointer (some ⟨c,1,none⟩)) rfl rfl ke (fun w1 h1=>by go_simp;exact⟨rfl,Below.refl _ _⟩) ?_
 simp only[Act.put,aL,aM,aN]
 refine ao 13 (.int .i64 (g 1)) rfl rfl ke (fun w1 h1=>by have hc:w1.cell? ⟨c,1,none⟩=some (.int .i64 (g 1)):=(q.below h1 q.lt).cellIs (az _ oa);go_simp;exact⟨rfl,Below.refl _ _⟩) ?_
 simp only[Act.put,aL,aM,aN]
 refine sO 7 14 rfl rfl rfl rfl oa oa ke ?_ ?_
 ·intro w1 h1 K hK
  go_simp
  refine hK _ _ ((Below.refl _ _).alloc (ns _) _) ?_
  have hB2:bl w (w1.alloc (.cells #[.int .i64 (f 1),.int .i64 (-f 2)] 2)):=bl.trans hB (bl.trans h1 (Below.alloc (Below.refl _ _) (ns _) _))
  have n1:=af.new w1 #[.int .i64 (f 1),.int .i64 (-f 2)] 2
  clear hK K h1
  generalize w1.heap.size=b1 at *
  generalize w1.alloc (.cells #[.int .i64 (f 1),.int .i64 (-f 2)] 2)=w2 at *
  refine kh 14 rfl rfl oa ke (fun w3 h3 K hK=>?_)
  go_simp
  refine hK _ _ ((Below.refl _ _).alloc (ns _) _) ?_
  replace hB2:bl w (w3.alloc (.cells #[.int .i64 (g 2),.int .i64 (g 1)] 2)):=bl.trans hB2 (bl.trans h3 (Below.alloc (Below.refl _ _) (ns _) _))
  replace n1:=(n1.below h3 n1.lt).alloc (.cells #[.int .i64 (g 2),.int .i64 (g 1)] 2)
  have n2:=af.new w3 #[.int .i64 (g 2),.int .i64 (g 1)] 2
  clear hK K h3
  generalize w3.heap.size=b2 at *
  generalize w3.alloc (.cells #[.int .i64 (g 2),.int .i64 (g 1)] 2)=w4 at *
  refine ao 15 (.tuple #[.int .i64 X,.int .i64 0]) rfl rfl ke (fun w1 h1=>?_) ?_
  ·go_simp
   refine(D.out _ _ _ (n1.below h1 n1.lt) (n2.below h1 n2.lt)).mono ?_
   rintro e w5 ⟨rfl,h5⟩
   exact⟨rfl,h5⟩
  simp only[Act.put,aL,aM,aN]
  refine ao 16 (.int .i64 X) rfl rfl ke (fun w1 h1=>by go_simp;exact⟨rfl,Below.refl _ _⟩) ?_
  simp only[Act.put,aL,aM,aN]
  refine ao 17 (.int .i64 0) rfl rfl ke (fun w1 h1=>by go_simp;exact⟨rfl,Below.refl _ _⟩) ?_
  simp only[Act.put,aL,aM,aN]
  refine d8 ke (fun wt ht=>?_)
  simp only[List.drop_succ_cons,List.drop_zero]
  replace hB2:=bl.trans hB2 ht
  go_wp2_with (fail)
  go_ret2
  exact⟨rfl,hB2⟩
 ·intro w1 h1 K hK
  go_simp
  refine hK _ _ ((Below.refl _ _).alloc (ns _) _) ?_
  have hB2:bl w (w1.alloc (.cells #[.int .i64 (g 2),.int .i64 (g 1)] 2)):=bl.trans hB (bl.trans h1 (Below.alloc (Below.refl _ _) (ns _) _))
  have n1:=af.new w1 #[.int .i64 (g 2),.int .i64 (g 1)] 2
  clear hK K h1
  generalize w1.heap.size=b1 at *
  generalize w1.alloc (.cells #[.int .i64 (g 2),.int .i64 (g 1)] 2)=w2 at *
  refine kh 7 rfl rfl oa ke (fun w3 h3 K hK=>?_)
  go_simp
  refine hK _ _ ((Below.refl _ _).alloc (ns _) _) ?_
  replace hB2:bl w (w3.alloc (.cells #[.int .i64 (f 1),.int .i64 (-f 2)] 2)):=bl.trans hB2 (bl.trans h3 (Below.alloc (Below.refl _ _) (ns _) _))
  replace n1:=(n1.below h3 n1.lt).alloc (.cells #[.int .i64 (f 1),.int .i64 (-f 2)] 2)
  have n2:=af.new w3 #[.int .i64 (f 1),.int .i64 (-f 2)] 2
  clear hK K h3
  generalize w3.heap.size=b2 at *
  generalize w3.alloc (.cells #[.int .i64 (f 1),.int .i64 (-f 2)] 2)=w4 at *
  refine ao 15 (.tuple #[.int .i64 X,.int .i64 0]) rfl rfl ke (fun w1 h1=>?_) ?_
  ·go_simp
   refine(D.out _ _ _ (n2.below h1 n2.lt) (n1.below h1 n1.lt)).mono ?_
   rintro e w5 ⟨rfl,h5⟩
   exact⟨rfl,h5⟩
  simp only[Act.put,aL,aM,aN]
  refine ao 16 (.int .i64 X) rfl rfl ke (fun w1 h1=>by go_simp;exact⟨rfl,Below.refl _ _⟩) ?_
  simp only[Act.put,aL,aM,aN]
  refine ao 17 (.int .i64 0) rfl rfl ke (fun w1 h1=>by go_simp;exact⟨rfl,Below.refl _ _⟩) ?_
  simp only[Act.put,aL,aM,aN]
  refine d8 ke (fun wt ht=>?_)
  simp only[List.drop_succ_cons,List.drop_zero]
  replace hB2:=bl.trans hB2 ht
  go_wp2_with (fail)
  go_ret2
  exact⟨rfl,hB2⟩
theorem Gi (f g:Nat->Int) (b c:Nat) (w:World) (p:af w b (ah f) 25) (q:af w c (ah g) 25) (hw1:wrap64 (-f 0)=-f 0) (X:Int)
 (D:Hid (∀x y w,af w x #[.int .i64 (f 2),.int .i64 (-f 0)] 2->af w y #[.int .i64 (g 0),.int .i64 (g 2)] 2->Calls Tryz.prog 49 #[.slice (some ⟨x,0,none⟩) 2 2,.slice (some ⟨y,0,none⟩) 2 2] w fun e w'=>e=.returned (.tuple #[.int .i64 X,.int .i64 0])/\Below w.heap.size w w')):
 Calls Tryz.prog 101 #[.int .i64 1,.pointer (some ⟨b,0,none⟩),.pointer (some ⟨c,0,none⟩)] w fun e w'=>e=.returned (.tuple #[.int .i64 X,.int .i64 0])/\Below w.heap.size w w':=by
 have hw2:IntKind.i64.wrap (-f 0)=-f 0:=by rw[wI];unfold wrap64 at hw1;exact hw1
 go_enter Tryz.func101,Tryz.ntmps101
 go_upto_region 2 with(fail)
 have hB:bl w w:=Below.refl _ _
 refine dx 18 ke ke ?_
 replace p:=p.drew
 replace q:=q.drew
 replace hB:bl w w.drew:=hB.drew
 generalize hwo:w.drew=wo at *
 refine ao 0 (.int .i64 2) rfl rfl ke (fun w1 h1=>by go_simp;exact⟨rfl,Below.refl _ _⟩) ?_
 simp only[Act.put,aL,aM,aN]
 refine ao 1 (.pointer (some ⟨b,2,none⟩)) rfl rfl ke (fun w1 h1=>by go_simp;exact⟨rfl,Below.refl _ _⟩) ?_
 simp only[Act.put,aL,aM,aN]
 refine ao 2 (.int .i64 (f 2)) rfl rfl ke (fun w1 h1=>by have hc:w1.cell? ⟨b,2,none⟩=some (.int .i64 (f 2)):=(p.below h1 p.lt).cellIs (az _ oa);go_simp;exact⟨rfl,Below.refl _ _⟩) ?_
 simp only[Act.put,aL,aM,aN]
 refine ao 3 (.int .i64 0) rfl rfl ke (fun w1 h1=>by go_simp;exact⟨rfl,Below.refl _ _⟩) ?_
 simp only[Act.put,aL,aM,aN]
 refine ao 4 (.pointer (some ⟨b,0,none⟩)) rfl rfl ke (fun w1 h1=>by go_simp;exact⟨rfl,Below.refl _ _⟩) ?_
 simp only[Act.put,aL,aM,aN]
 refine ao 5 (.int .i64 (f 0)) rfl rfl ke (fun w1 h1=>by have hc:w1.cell? ⟨b,0,none⟩=some (.int .i64 (f 0)):=(p.below h1 p.lt).cellIs (az _ oa);go_simp;exact⟨rfl,Below.refl _ _⟩) ?_
 simp only[Act.put,aL,aM,aN]
 refine ao 6 (.int .i64 (-f 0)) rfl rfl ke (fun w1 h1=>by go_simp;exact⟨by first|rfl|rw[hw2],Below.refl _ _⟩) ?_
 simp only[Act.put,aL,aM,aN]
 refine ao 8 (.int .i64 0) rfl rfl ke (fun w1 h1=>by go_simp;exact⟨rfl,Below.refl _ _⟩) ?_
 simp only[Act.put,aL,aM,aN]
 refine ao 9 (.pointer (some ⟨c,0,none⟩)) rfl rfl ke (fun w1 h1=>by go_simp;exact⟨rfl,Below.refl _ _⟩) ?_
 simp only[Act.put,aL,aM,aN]
 refine ao 10 (.int .i64 (g 0)) rfl rfl ke (fun w1 h1=>by have hc:w1.cell? ⟨c,0,none⟩=some (.int .i64 (g 0)):=(q.below h1 q.lt).cellIs (az _ oa);go_simp;exact⟨rfl,Below.refl _ _⟩) ?_
 simp only[Act.put,aL,aM,aN]
 refine ao 11 (.int .i64 2) rfl rfl ke (fun w1 h1=>by go_simp;exact⟨rfl,Below.refl _ _⟩) ?_
 simp only[Act.put,aL,aM,aN]
 refine ao 12 (.pointer (some ⟨c,2,none⟩)) rfl rfl ke (fun w1 h1=>by go_simp;exact⟨rfl,Below.refl _ _⟩) ?_
 simp only[Act.put,aL,aM,aN]
 refine ao 13 (.int .i64 (g 2)) rfl rfl ke (fun w1 h1=>by have hc:w1.cell? ⟨c,2,none⟩=some (.int .i64 (g 2)):=(q.below h1 q.lt).cellIs (az _ oa);go_simp;exact⟨rfl,Below.refl _ _⟩) ?_
 simp only[Act.put,aL,aM,aN]
 refine sO 7 14 rfl rfl rfl rfl oa oa ke ?_ ?_
 ·intro w1 h1 K hK
  go_simp
  refine hK _ _ ((Below.refl _ _).alloc (ns _) _) ?_
  have hB2:bl w (w1.alloc (.cells #[.int .i64 (f 2),.int .i64 (-f 0)] 2)):=bl.trans hB (bl.trans h1 (Below.alloc (Below.refl _ _) (ns _) _))
  have n1:=af.new w1 #[.int .i64 (f 2),.int .i64 (-f 0)] 2
  clear hK K h1
  generalize w1.heap.size=b1 at *
  generalize w1.alloc (.cells #[.int .i64 (f 2),.int .i64 (-f 0)] 2)=w2 at *
  refine kh 14 rfl rfl oa ke (fun w3 h3 K hK=>?_)
  go_simp
  refine hK _ _ ((Below.refl _ _).alloc (ns _) _) ?_
  replace hB2:bl w (w3.alloc (.cells #[.int .i64 (g 0),.int .i64 (g 2)] 2)):=bl.trans hB2 (bl.trans h3 (Below.alloc (Below.refl _ _) (ns _) _))
  replace n1:=(n1.below h3 n1.lt).alloc (.cells #[.int .i64 (g 0),.int .i64 (g 2)] 2)
  have n2:=af.new w3 #[.int .i64 (g 0),.int .i64 (g 2)] 2
  clear hK K h3
  generalize w3.heap.size=b2 at *
  generalize w3.alloc (.cells #[.int .i64 (g 0),.int .i64 (g 2)] 2)=w4 at *
  refine ao 15 (.tuple #[.int .i64 X,.int .i64 0]) rfl rfl ke (fun w1 h1=>?_) ?_
  ·go_simp
   refine(D.out _ _ _ (n1.below h1 n1.lt) (n2.below h1 n2.lt)).mono ?_
   rintro e w5 ⟨rfl,h5⟩
   exact⟨rfl,h5⟩
  simp only[Act.put,aL,aM,aN]
  refine ao 16 (.int .i64 X) rfl rfl ke (fun w1 h1=>by go_simp;exact⟨rfl,Below.refl _ _⟩) ?_
  simp only[Act.put,aL,aM,aN]
  refine ao 17 (.int .i64 0) rfl rfl ke (fun w1 h1=>by go_simp;exact⟨rfl,Below.refl _ _⟩) ?_
  simp only[Act.put,aL,aM,aN]
  refine d8 ke (fun wt ht=>?_)
  simp only[List.drop_succ_cons,List.drop_zero]
  replace hB2:=bl.trans hB2 ht
  go_wp2_with (fail)
  go_ret2
  exact⟨rfl,hB2⟩
 ·intro w1 h1 K hK
  go_simp
  refine hK _ _ ((Below.refl _ _).alloc (ns _) _) ?_
  have hB2:bl w (w1.alloc (.cells #[.int .i64 (g 0),.int .i64 (g 2)] 2)):=bl.trans hB (bl.trans h1 (Below.alloc (Below.refl _ _) (ns _) _))
  have n1:=af.new w1 #[.int .i64 (g 0),.int .i64 (g 2)] 2
  clear hK K h1
  generalize w1.heap.size=b1 at *
  generalize w1.alloc (.cells #[.int .i64 (g 0),.int .i64 (g 2)] 2)=w2 at *
  refine kh 7 rfl rfl oa ke (fun w3 h3 K hK=>?_)
  go_simp
  refine hK _ _ ((Below.refl _ _).alloc (ns _) _) ?_
  replace hB2:bl w (w3.alloc (.cells #[.int .i64 (f 2),.int .i64 (-f 0)] 2)):=bl.trans hB2 (bl.trans h3 (Below.alloc (Below.refl _ _) (ns _) _))
  replace n1:=(n1.below h3 n1.lt).alloc (.cells #[.int .i64 (f 2),.int .i64 (-f 0)] 2)
  have n2:=af.new w3 #[.int .i64 (f 2),.int .i64 (-f 0)] 2
  clear hK K h3
  generalize w3.heap.size=b2 at *
  generalize w3.alloc (.cells #[.int .i64 (f 2),.int .i64 (-f 0)] 2)=w4 at *
  refine ao 15 (.tuple #[.int .i64 X,.int .i64 0]) rfl rfl ke (fun w1 h1=>?_) ?_
  ·go_simp
   refine(D.out _ _ _ (n2.below h1 n2.lt) (n1.below h1 n1.lt)).mono ?_
   rintro e w5 ⟨rfl,h5⟩
   exact⟨rfl,h5⟩
  simp only[Act.put,aL,aM,aN]
  refine ao 16 (.int .i64 X) rfl rfl ke (fun w1 h1=>by go_simp;exact⟨rfl,Below.refl _ _⟩) ?_
  simp only[Act.put,aL,aM,aN]
  refine ao 17 (.int .i64 0) rfl rfl ke (fun w1 h1=>by go_simp;exact⟨rfl,Below.refl _ _⟩) ?_
  simp only[Act.put,aL,aM,aN]
  refine d8 ke (fun wt ht=>?_)
  simp only[List.drop_succ_cons,List.drop_zero]
  replace hB2:=bl.trans hB2 ht
  go_wp2_with (fail)
  go_ret2
  exact⟨rfl,hB2⟩
theorem ET (f g:Nat->Int) (b c:Nat) (w:World) (p:af w b (ah f) 25) (q:af w c (ah g) 25) (hw1:wrap64 (-f 1)=-f 1) (X:Int)
 (D:Hid (∀x y w,af w x #[.int .i64 (f 0),.int .i64 (-f 1)] 2->af w y #[.int .i64 (g 1),.int .i64 (g 0)] 2->Calls Tryz.prog 49 #[.slice (some ⟨x,0,none⟩) 2 2,.slice (some ⟨y,0,none⟩) 2 2] w fun e w'=>e=.returned (.tuple #[.int .i64 X,.int .i64 0])/\Below w.heap.size w w')):
 Calls Tryz.prog 101 #[.int .i64 2,.pointer (some ⟨b,0,none⟩),.pointer (some ⟨c,0,none⟩)] w fun e w'=>e=.returned (.tuple #[.int .i64 X,.int .i64 0])/\Below w.heap.size w w':=by
 have hw2:IntKind.i64.wrap (-f 1)=-f 1:=by rw[wI];unfold wrap64 at hw1;exact hw1
 go_enter Tryz.func101,Tryz.ntmps101
 go_upto_region 2 with(fail)
 have hB:bl w w:=Below.refl _ _
 refine dx 18 ke ke ?_
 replace p:=p.drew
 replace q:=q.drew
 replace hB:bl w w.drew:=hB.drew
 generalize hwo:w.drew=wo at *
 refine ao 0 (.int .i64 0) rfl rfl ke (fun w1 h1=>by go_simp;exact⟨rfl,Below.refl _ _⟩) ?_
 simp only[Act.put,aL,aM,aN]
 refine ao 1 (.pointer (some ⟨b,0,none⟩)) rfl rfl ke (fun w1 h1=>by go_simp;exact⟨rfl,Below.refl _ _⟩) ?_
 simp only[Act.put,aL,aM,aN]
 refine ao 2 (.int .i64 (f 0)) rfl rfl ke (fun w1 h1=>by have hc:w1.cell? ⟨b,0,none⟩=some (.int .i64 (f 0)):=(p.below h1 p.lt).cellIs (az _ oa);go_simp;exact⟨rfl,Below.refl _ _⟩) ?_
 simp only[Act.put,aL,aM,aN]
 refine ao 3 (.int .i64 1) rfl rfl ke (fun w1 h1=>by go_simp;exact⟨rfl,Below.refl _ _⟩) ?_
 simp only[Act.put,aL,aM,aN]
 refine ao 4 (.pointer (some ⟨b,1,none⟩)) rfl rfl ke (fun w1 h1=>by go_simp;exact⟨rfl,Below.refl _ _⟩) ?_
 simp only[Act.put,aL,aM,aN]
 refine ao 5 (.int .i64 (f 1)) rfl rfl ke (fun w1 h1=>by have hc:w1.cell? ⟨b,1,none⟩=some (.int .i64 (f 1)):=(p.below h1 p.lt).cellIs (az _ oa);go_simp;exact⟨rfl,Below.refl _ _⟩) ?_
 simp only[Act.put,aL,aM,aN]
 refine ao 6 (.int .i64 (-f 1)) rfl rfl ke (fun w1 h1=>by go_simp;exact⟨by first|rfl|rw[hw2],Below.refl _ _⟩) ?_
 simp only[Act.put,aL,aM,aN]
 refine ao 8 (.int .i64 1) rfl rfl ke (fun w1 h1=>by go_simp;exact⟨rfl,Below.refl _ _⟩) ?_
 simp only[Act.put,aL,aM,aN]
 refine ao 9 (.pointer (some ⟨c,1,none⟩)) rfl rfl ke (fun w1 h1=>by go_simp;exact⟨rfl,Below.refl _ _⟩) ?_
 simp only[Act.put,aL,aM,aN]
 refine ao 10 (.int .i64 (g 1)) rfl rfl ke (fun w1 h1=>by have hc:w1.cell? ⟨c,1,none⟩=some (.int .i64 (g 1)):=(q.below h1 q.lt).cellIs (az _ oa);go_simp;exact⟨rfl,Below.refl _ _⟩) ?_
 simp only[Act.put,aL,aM,aN]
 refine ao 11 (.int .i64 0) rfl rfl ke (fun w1 h1=>by go_simp;exact⟨rfl,Below.refl _ _⟩) ?_
 simp only[Act.put,aL,aM,aN]
 refine ao 12 (.pointer (some ⟨c,0,none⟩)) rfl rfl ke (fun w1 h1=>by go_simp;exact⟨rfl,Below.refl _ _⟩) ?_
 simp only[Act.put,aL,aM,aN]
 refine ao 13 (.int .i64 (g 0)) rfl rfl ke (fun w1 h1=>by have hc:w1.cell? ⟨c,0,none⟩=some (.int .i64 (g 0)):=(q.below h1 q.lt).cellIs (az _ oa);go_simp;exact⟨rfl,Below.refl _ _⟩) ?_
 simp only[Act.put,aL,aM,aN]
 refine sO 7 14 rfl rfl rfl rfl oa oa ke ?_ ?_
 ·intro w1 h1 K hK
  go_simp
  refine hK _ _ ((Below.refl _ _).alloc (ns _) _) ?_
  have hB2:bl w (w1.alloc (.cells #[.int .i64 (f 0),.int .i64 (-f 1)] 2)):=bl.trans hB (bl.trans h1 (Below.alloc (Below.refl _ _) (ns _) _))
  have n1:=af.new w1 #[.int .i64 (f 0),.int .i64 (-f 1)] 2
  clear hK K h1
  generalize w1.heap.size=b1 at *
  generalize w1.alloc (.cells #[.int .i64 (f 0),.int .i64 (-f 1)] 2)=w2 at *
  refine kh 14 rfl rfl oa ke (fun w3 h3 K hK=>?_)
  go_simp
  refine hK _ _ ((Below.refl _ _).alloc (ns _) _) ?_
  replace hB2:bl w (w3.alloc (.cells #[.int .i64 (g 1),.int .i64 (g 0)] 2)):=bl.trans hB2 (bl.trans h3 (Below.alloc (Below.refl _ _) (ns _) _))
  replace n1:=(n1.below h3 n1.lt).alloc (.cells #[.int .i64 (g 1),.int .i64 (g 0)] 2)
  have n2:=af.new w3 #[.int .i64 (g 1),.int .i64 (g 0)] 2
  clear hK K h3
  generalize w3.heap.size=b2 at *
  generalize w3.alloc (.cells #[.int .i64 (g 1),.int .i64 (g 0)] 2)=w4 at *
  refine ao 15 (.tuple #[.int .i64 X,.int .i64 0]) rfl rfl ke (fun w1 h1=>?_) ?_
  ·go_simp
   refine(D.out _ _ _ (n1.below h1 n1.lt) (n2.below h1 n2.lt)).mono ?_
   rintro e w5 ⟨rfl,h5⟩
   exact⟨rfl,h5⟩
  simp only[Act.put,aL,aM,aN]
  refine ao 16 (.int .i64 X) rfl rfl ke (fun w1 h1=>by go_simp;exact⟨rfl,Below.refl _ _⟩) ?_
  simp only[Act.put,aL,aM,aN]
  refine ao 17 (.int .i64 0) rfl rfl ke (fun w1 h1=>by go_simp;exact⟨rfl,Below.refl _ _⟩) ?_
  simp only[Act.put,aL,aM,aN]
  refine d8 ke (fun wt ht=>?_)
  simp only[List.drop_succ_cons,List.drop_zero]
  replace hB2:=bl.trans hB2 ht
  go_wp2_with (fail)
  go_ret2
  exact⟨rfl,hB2⟩
 ·intro w1 h1 K hK
  go_simp
  refine hK _ _ ((Below.refl _ _).alloc (ns _) _) ?_
  have hB2:bl w (w1.alloc (.cells #[.int .i64 (g 1),.int .i64 (g 0)] 2)):=bl.trans hB (bl.trans h1 (Below.alloc (Below.refl _ _) (ns _) _))
  have n1:=af.new w1 #[.int .i64 (g 1),.int .i64 (g 0)] 2
  clear hK K h1
  generalize w1.heap.size=b1 at *
  generalize w1.alloc (.cells #[.int .i64 (g 1),.int .i64 (g 0)] 2)=w2 at *
  refine kh 7 rfl rfl oa ke (fun w3 h3 K hK=>?_)
  go_simp
  refine hK _ _ ((Below.refl _ _).alloc (ns _) _) ?_
  replace hB2:bl w (w3.alloc (.cells #[.int .i64 (f 0),.int .i64 (-f 1)] 2)):=bl.trans hB2 (bl.trans h3 (Below.alloc (Below.refl _ _) (ns _) _))
  replace n1:=(n1.below h3 n1.lt).alloc (.cells #[.int .i64 (f 0),.int .i64 (-f 1)] 2)
  have n2:=af.new w3 #[.int .i64 (f 0),.int .i64 (-f 1)] 2
  clear hK K h3
  generalize w3.heap.size=b2 at *
  generalize w3.alloc (.cells #[.int .i64 (f 0),.int .i64 (-f 1)] 2)=w4 at *
  refine ao 15 (.tuple #[.int .i64 X,.int .i64 0]) rfl rfl ke (fun w1 h1=>?_) ?_
  ·go_simp
   refine(D.out _ _ _ (n2.below h1 n2.lt) (n1.below h1 n1.lt)).mono ?_
   rintro e w5 ⟨rfl,h5⟩
   exact⟨rfl,h5⟩
  simp only[Act.put,aL,aM,aN]
  refine ao 16 (.int .i64 X) rfl rfl ke (fun w1 h1=>by go_simp;exact⟨rfl,Below.refl _ _⟩) ?_
  simp only[Act.put,aL,aM,aN]
  refine ao 17 (.int .i64 0) rfl rfl ke (fun w1 h1=>by go_simp;exact⟨rfl,Below.refl _ _⟩) ?_
  simp only[Act.put,aL,aM,aN]
  refine d8 ke (fun wt ht=>?_)
  simp only[List.drop_succ_cons,List.drop_zero]
  replace hB2:=bl.trans hB2 ht
  go_wp2_with (fail)
  go_ret2
  exact⟨rfl,hB2⟩
theorem wH (f g:Nat->Int) (b c:Nat) (w:World) (hf:cx f=true) (hg:cx g=true) (p:af w b (ah f) 25) (q:af w c (ah g) 25) (i:Nat) (hi:i<3):
 Calls Tryz.prog 101 #[.int .i64 i,.pointer (some ⟨b,0,none⟩),.pointer (some ⟨c,0,none⟩)] w fun e w'=>e=.returned (.tuple #[.int .i64 (fw f g i),.int .i64 0])/\Below w.heap.size w w':=by
 have vf:=(bK f).1 hf
 have vg:=(bK g).1 hg
 have:i=0\/i=1\/i=2:=oa
 rcases this with rfl|rfl|rfl
 ·exact Ff f g b c w p q (pd (s8 (mD (vf 2 oa)))) _ (fun x y w h1 h2=>sV _ _ _ _ x y w (vf 1 oa) (vg 2 oa) (vf 2 oa) (vg 1 oa) h1 h2)
 ·exact Gi f g b c w p q (pd (s8 (mD (vf 0 oa)))) _ (fun x y w h1 h2=>sV _ _ _ _ x y w (vf 2 oa) (vg 0 oa) (vf 0 oa) (vg 2 oa) h1 h2)
 ·exact ET f g b c w p q (pd (s8 (mD (vf 1 oa)))) _ (fun x y w h1 h2=>sV _ _ _ _ x y w (vf 0 oa) (vg 1 oa) (vf 1 oa) (vg 0 oa) h1 h2)
def dM (f g:Nat->Int):Nat->Int:=if cx f&&cx g then(if cx (fw f g)then fw f g else fun _=>0)else fun _=>0
def lL (f g:Nat->Int):Int:=if cx f&&cx g then(if cx (fw f g)then 0 else 7)else 2
theorem zo (x:Nat->Int):ga x (fun _=>0)=cx x:=by unfold ga cx;simp
def iV (x:Nat->Int):Nat->Int:=if cx x then x else fun _=>0
def m6 (x:Nat->Int):Int:=if cx x then 0 else 7
theorem fC (x:Nat->Int):dP x (fun _=>0)=iV x/\dO x (fun _=>0)=m6 x:=by
 unfold dP dO iV m6;rw[zo];exact⟨rfl,rfl⟩
theorem lC (f g:Nat->Int) (w:World):Calls Tryz.prog 76 #[.agg (ah f),.agg (ah g)] w fun e w'=>e=.returned (.tuple #[.agg (ah (dM f g)),.int .i64 (lL f g)])/\Below w.heap.size w w':=by
 have V1:=aa (fun w=>cd f w)
 have V2:=aa (fun w=>cd g w)
 have hk:∃F E,(cx f=true->cx g=true->F=iV (fw f g)/\E=m6 (fw f g))/\dM f g=(if cx f&&cx g then F else fun _=>0)/\lL f g=(if cx f&&cx g then E else 2):=⟨_,_,fun _ _=>⟨rfl,rfl⟩,rfl,rfl⟩
 obtain⟨F,E,hk,e1,e2⟩:=hk
 rw[e1,e2]
 clear e1 e2
 have HK:=aa hk
 clear hk
 obtain⟨bf,hf⟩:∃b,cx f=b:=⟨_,rfl⟩
 obtain⟨bg,hg⟩:∃b,cx g=b:=⟨_,rfl⟩
 rw[hf]at V1 HK|-
 rw[hg]at V2 HK|-
 have HF:=aa hf
 have HG:=aa hg
 clear hf hg
 go_enter Tryz.func76,Tryz.ntmps76
 go_upto_region 1 with(fail)
 rw[aQ]
 have p:af (((w.alloc (.cells (ah f) 25)).alloc (.cells (ah g) 25)).alloc (.cells (ah fun _=>0) 25)) w.heap.size (ah f) 25:=((af.new _ _ _).alloc _).alloc _
 have q:af (((w.alloc (.cells (ah f) 25)).alloc (.cells (ah g) 25)).alloc (.cells (ah fun _=>0) 25)) (w.heap.size+1) (ah g) 25:=(af.new' sd).alloc _
 have r:af (((w.alloc (.cells (ah f) 25)).alloc (.cells (ah g) 25)).alloc (.cells (ah fun _=>0) 25)) (w.heap.size+1+1) (ah fun _=>0) 25:=af.new' sd
 have hB:Below w.heap.size w (((w.alloc (.cells (ah f) 25)).alloc (.cells (ah g) 25)).alloc (.cells (ah fun _=>0) 25)):=by go_grown
 generalize((w.alloc (.cells (ah f) 25)).alloc (.cells (ah g) 25)).alloc (.cells (ah fun _=>0) 25)=w0 at *
 cases bf
 ·go_wp2_with (first
   |(refine ac ?hw _ _ rfl _ rfl _ _ _ _ p yc rfl ?hi ?_;(case hw=>(first|rfl|(simp[Region.wanted,yielded];done)));(case hi=>(rw[ad];kernel_rfl)))
   |(refine ac ?hw _ _ rfl _ rfl _ _ _ _ q yc rfl ?hi ?_;(case hw=>(first|rfl|(simp[Region.wanted,yielded];done)));(case hi=>(rw[ad];kernel_rfl)))
   |(go_at_call 32;with_reducible refine(V1.out _).mono ?_;rintro e w1 ⟨rfl,hb⟩;replace hB:=hB.trans (hb.mono hB.size);replace p:=p.below hb p.lt;replace q:=q.below hb q.lt;replace r:=r.below hb r.lt;clear hb)
   |(go_at_call 32;with_reducible refine(V2.out _).mono ?_;rintro e w1 ⟨rfl,hb⟩;replace hB:=hB.trans (hb.mono hB.size);replace p:=p.below hb p.lt;replace q:=q.below hb q.lt;replace r:=r.below hb r.lt;clear hb)
   |(go_at_call 86;refine(gD _ _).mono ?_;rintro e w2 ⟨rfl,hb⟩;replace hB:=hB.trans (hb.mono hB.size);replace r:=r.below hb r.lt;clear hb)
   |(refine ag rfl _ _ _ rfl _ rfl _ rfl _ _ r (by rw[ad];kernel_rfl) (by simp only[ad]) (aG _) ?_))
  refine bodyPost_ret (aq rfl _ _ _ _ _ _ _ rfl (r.row (ah (fun _=>0))) yc rfl (by rw[ad];kernel_rfl)) rfl ?_;refine⟨?_,Below.setRow hB oa _⟩
  rfl
 cases bg
 ·go_wp2_with (first
   |(refine ac ?hw _ _ rfl _ rfl _ _ _ _ p yc rfl ?hi ?_;(case hw=>(first|rfl|(simp[Region.wanted,yielded];done)));(case hi=>(rw[ad];kernel_rfl)))
   |(refine ac ?hw _ _ rfl _ rfl _ _ _ _ q yc rfl ?hi ?_;(case hw=>(first|rfl|(simp[Region.wanted,yielded];done)));(case hi=>(rw[ad];kernel_rfl)))
   |(go_at_call 32;with_reducible refine(V1.out _).mono ?_;rintro e w1 ⟨rfl,hb⟩;replace hB:=hB.trans (hb.mono hB.size);replace p:=p.below hb p.lt;replace q:=q.below hb q.lt;replace r:=r.below hb r.lt;clear hb)
   |(go_at_call 32;with_reducible refine(V2.out _).mono ?_;rintro e w1 ⟨rfl,hb⟩;replace hB:=hB.trans (hb.mono hB.size);replace p:=p.below hb p.lt;replace q:=q.below hb q.lt;replace r:=r.below hb r.lt;clear hb)
   |(go_at_call 86;refine(gD _ _).mono ?_;rintro e w2 ⟨rfl,hb⟩;replace hB:=hB.trans (hb.mono hB.size);replace r:=r.below hb r.lt;clear hb)
   |(refine ag rfl _ _ _ rfl _ rfl _ rfl _ _ r (by rw[ad];kernel_rfl) (by simp only[ad]) (aG _) ?_))
  refine bodyPost_ret (aq rfl _ _ _ _ _ _ _ rfl (r.row (ah (fun _=>0))) yc rfl (by rw[ad];kernel_rfl)) rfl ?_;refine⟨?_,Below.setRow hB oa _⟩
  rfl
 obtain⟨hF,hE⟩:=HK.out rfl rfl
 have HFE:=aa (And.intro hF hE)
 clear HK hF hE
 go_wp2_with (first
  |(refine ac ?hw _ _ rfl _ rfl _ _ _ _ p yc rfl ?hi ?_;(case hw=>(first|rfl|(simp[Region.wanted,yielded];done)));(case hi=>(rw[ad];kernel_rfl)))
  |(refine ac ?hw _ _ rfl _ rfl _ _ _ _ q yc rfl ?hi ?_;(case hw=>(first|rfl|(simp[Region.wanted,yielded];done)));(case hi=>(rw[ad];kernel_rfl)))
  |(go_at_call 32;with_reducible refine(V1.out _).mono ?_;rintro e w1 ⟨rfl,hb⟩;replace hB:=hB.trans (hb.mono hB.size);replace p:=p.below hb p.lt;replace q:=q.below hb q.lt;replace r:=r.below hb r.lt;clear hb)
  |(go_at_call 32;with_reducible refine(V2.out _).mono ?_;rintro e w1 ⟨rfl,hb⟩;replace hB:=hB.trans (hb.mono hB.size);replace p:=p.below hb p.lt;replace q:=q.below hb q.lt;replace r:=r.below hb r.lt;clear hb)
  |(go_at_call 86;refine(qC (fw f g) (fun _=>0) _ _ _ (fun i hi wx hx=>wH f g _ _ wx HF.out HG.out (p.below hx p.lt) (q.below hx q.lt) i hi)).mono ?_;rintro e w2 ⟨rfl,hb⟩;rw[(fC _).1,(fC _).2,<-HFE.out.1,<-HFE.out.2];replace hB:=hB.trans (hb.mono hB.size);replace r:=r.below hb r.lt;clear hb)
  |(refine ag rfl _ _ _ rfl _ rfl _ rfl _ _ r (by rw[ad];kernel_rfl) (by simp only[ad]) (aG _) ?_))
 refine bodyPost_ret (aq rfl _ _ _ _ _ _ _ rfl (r.row (ah F)) yc rfl (by rw[ad];kernel_rfl)) rfl ?_;refine⟨?_,Below.setRow hB oa _⟩
 rfl
end Go.Proofs.YtbhahonkhiiilaaGreat
