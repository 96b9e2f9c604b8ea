/-
  A loop is begun.
-/
import Derived.Test.YtbhahonkhiiilaaGreatTpB
set_option linter.unusedSimpArgs false
set_option linter.unusedVariables false
set_option maxRecDepth 100000
set_option maxHeartbeats 8000000
namespace Go.Proofs.YtbhahonkhiiilaaGreat
section
open Go.RowKit PM Dt
def fx (x:cG×(Nat->Int)):Array Value:=#[.int .i64 (x.1.Q 0),.int .i64 (x.1.Q 1),.int .i64 (x.1.Q 2),.int .i64 (x.1.Q 3),.int .i64 (x.1.T 0),.int .i64 (x.1.T 1),.int .i64 (x.1.T 2),.int .i64 (x.2 0),.int .i64 (x.2 1),.int .i64 (x.2 2),.int .i64 (x.1.h 0),.int .i64 (x.1.h 1),.int .i64 (x.1.h 2),.int .i64 (x.1.h 3),.int .i64 x.1.f]
theorem rP (x:cG×(Nat->Int)):(fx x).size=15:=rfl
theorem xT (X:cG) (B:Nat->Int) (j:Nat) (hj:j<(aj X.Q).size):(fx (X,B))[0+j]?=(aj X.Q)[j]?:=by
 rw[ak]at hj
 rw[aD _ hj]
 rcases(show j=0\/j=1\/j=2\/j=3 by omega)with rfl|rfl|rfl|rfl<;>rfl
theorem Cv (X:cG) (B:Nat->Int) (j:Nat) (hj:j<(ah X.T).size):(fx (X,B))[4+j]?=(ah X.T)[j]?:=by
 rw[ad]at hj
 rw[az _ hj]
 rcases(show j=0\/j=1\/j=2 by omega)with rfl|rfl|rfl<;>rfl
theorem G6 (X:cG) (B:Nat->Int) (j:Nat) (hj:j<(ah B).size):(fx (X,B))[7+j]?=(ah B)[j]?:=by
 rw[ad]at hj
 rw[az _ hj]
 rcases(show j=0\/j=1\/j=2 by omega)with rfl|rfl|rfl<;>rfl
theorem GN (X:cG) (B:Nat->Int) (j:Nat) (hj:j<(aj X.h).size):(fx (X,B))[10+j]?=(aj X.h)[j]?:=by
 rw[ak]at hj
 rw[aD _ hj]
 rcases(show j=0\/j=1\/j=2\/j=3 by omega)with rfl|rfl|rfl|rfl<;>rfl
theorem AK (q:Nat->Int) (w:World) (hq:∀i,i<4->bu (q i)):Calls Tryz.prog 13 #[.agg (aj q)] w fun e w'=>∃p er,e=.returned (.tuple #[.pointer p,.int .i64 er])/\Below w.heap.size w w':=by
 cases hv:au q with
 |false=>exact(Fb q w hq hv).mono fun e w' ⟨he,hb⟩=>⟨_,_,he,hb⟩
 |true=>exact(xO q w hq hv).mono fun e w' ⟨b,he,_,_,hb⟩=>⟨_,_,he,hb⟩
theorem po (X:cG) (Bs:Nat->Int) (w:World) (hQ:∀i,i<4->bu (X.Q i)) (hB1:∀i,i<3->-262144<=Bs i/\Bs i<=262144) (hk:jT X=true):Calls Tryz.prog 4 #[.agg (fx (X,Bs))] w fun e w'=>∃P lo lb,e=.returned (.tuple #[.pointer (some ⟨lb,0,none⟩),.bool true])/\w.heap.size<=lo/\m_ P lo lb w' (X,dw.zero,(X.Q,fun _=>0),r4 Bs 1099511627776)/\Below w.heap.size w w':=by
 have hsm:aE Bs 16777216=true:=cP fun i hi=>by have:=hB1 i hi;omega
 have NG:=aa (fun w=>xY Bs 1099511627776 w hsm da da)
 have hv:au X.Q=true:=by unfold jT at hk;simp only[Bool.and_eq_true]at hk;exact hk.2.1
 have NB:=aa (fun w=>CT X w hQ hk)
 have NF:=aa (fun w=>xO X.Q w hQ hv)
 have NS:=aa (fun w=>vq w)
 clear hsm hQ hB1 hk hv
 go_enter Tryz.func4,Tryz.ntmps4
 go_upto_region 1 with(fail)
 have v:af (w.alloc (.cells (fx (X,Bs)) 27)) w.heap.size (fx (X,Bs)) 27:=af.new _ _ _
 have hB:Below w.heap.size w (w.alloc (.cells (fx (X,Bs)) 27)):=by go_grown
 generalize(w.alloc (.cells (fx (X,Bs)) 27))=w0 at *
 have hlo:=hB.size
 have c14:w0.cell? ⟨w.heap.size,14,none⟩=some (.int .i64 X.f):=v.cellIs rfl
 go_upto_region 2 with(first|(refine bB ?hw _ _ rfl _ 0 rfl _ _ v (aj X.Q) (xT X Bs) _ yb rfl ?hi ?_;(case hw=>exact rW);(case hi=>exact rI))|(refine bB ?hw _ _ rfl _ 4 rfl _ _ v (ah X.T) (Cv X Bs) _ yc rfl ?hi ?_;(case hw=>exact rW);(case hi=>exact rI))|(refine bB ?hw _ _ rfl _ 10 rfl _ _ v (aj X.h) (GN X Bs) _ ya rfl ?hi ?_;(case hw=>exact rW);(case hi=>exact rI))|(go_at_call 11;with_reducible refine(NB.out _).mono ?_;rintro e w1 ⟨ob,rfl,o,hb⟩;replace hB:=hB.trans (hb.mono hB.size);replace v:=v.below hb v.lt;clear hb))
 clear NB c14
 go_upto_region 3 with(first|(refine bB ?hw _ _ rfl _ 7 rfl _ _ v (ah Bs) (G6 X Bs) _ yc rfl ?hi ?_;(case hw=>exact rW);(case hi=>exact rI))|(go_at_call 12;with_reducible refine(NG.out _).mono ?_;rintro e w2 ⟨gb,rfl,gy,hge,hb⟩;have l1:ob<gb:=nq o.lt hge;replace o:=o.below hb o.lt;replace hB:=hB.trans (hb.mono hB.size);replace v:=v.below hb v.lt;clear hb))
 clear NG hge
 go_upto_region 4 with(first|(refine bB ?hw _ _ rfl _ 0 rfl _ _ v (aj X.Q) (xT X Bs) _ yb rfl ?hi ?_;(case hw=>exact rW);(case hi=>exact rI))|(go_at_call 13;with_reducible refine(NF.out _).mono ?_;rintro e w3 ⟨fb,rfl,f,hge,hb⟩;have l2:gb<fb:=nq gy.lt hge;replace o:=o.below hb o.lt;replace gy:=gy.below hb gy.lt;replace hB:=hB.trans (hb.mono hB.size);replace v:=v.below hb v.lt;clear hb))
 clear NF hge
 go_wp2_with ((go_at_call 14;with_reducible refine(NS.out _).mono ?_;rintro e w4 ⟨sb,rfl,st,hge,hb⟩;have l3:fb<sb:=nq f.lt hge;replace o:=o.below hb o.lt;replace gy:=gy.below hb gy.lt;replace f:=f.below hb f.lt;replace hB:=hB.trans (hb.mono hB.size);replace v:=v.below hb v.lt;clear hb))
 go_ret2
 exact⟨(ob,gb,fb,sb),w0.heap.size,w4.heap.size,rfl,hlo,⟨l1,l2,l3,st.lt,o.alloc _,gy.alloc _,f.alloc _,st.alloc _,af.new _ _ _⟩,hB.alloc hB.size _⟩
theorem AI (X:cG) (Bs:Nat->Int) (w:World) (hQ:∀i,i<4->bu (X.Q i)) (hB1:∀i,i<3->-262144<=Bs i/\Bs i<=262144) (hk:jT X=false):Calls Tryz.prog 4 #[.agg (fx (X,Bs))] w fun e w'=>∃v,e=.returned (.tuple #[v,.bool false])/\Below w.heap.size w w':=by
 have hsm:aE Bs 16777216=true:=cP fun i hi=>by have:=hB1 i hi;omega
 have NG:=aa (fun w=>xY Bs 1099511627776 w hsm da da)
 have NB:=aa (fun w=>Gd X w hQ hk)
 have NF:=aa (fun w=>AK X.Q w hQ)
 have NS:=aa (fun w=>vq w)
 clear hsm hQ hB1 hk
 go_enter Tryz.func4,Tryz.ntmps4
 go_upto_region 1 with(fail)
 have v:af (w.alloc (.cells (fx (X,Bs)) 27)) w.heap.size (fx (X,Bs)) 27:=af.new _ _ _
 have hB:Below w.heap.size w (w.alloc (.cells (fx (X,Bs)) 27)):=by go_grown
 generalize(w.alloc (.cells (fx (X,Bs)) 27))=w0 at *
 have hlo:=hB.size
 have c14:w0.cell? ⟨w.heap.size,14,none⟩=some (.int .i64 X.f):=v.cellIs rfl
 go_upto_region 2 with(first|(refine bB ?hw _ _ rfl _ 0 rfl _ _ v (aj X.Q) (xT X Bs) _ yb rfl ?hi ?_;(case hw=>exact rW);(case hi=>exact rI))|(refine bB ?hw _ _ rfl _ 4 rfl _ _ v (ah X.T) (Cv X Bs) _ yc rfl ?hi ?_;(case hw=>exact rW);(case hi=>exact rI))|(refine bB ?hw _ _ rfl _ 10 rfl _ _ v (aj X.h) (GN X Bs) _ ya rfl ?hi ?_;(case hw=>exact rW);(case hi=>exact rI))|(go_at_call 11;with_reducible refine(NB.out _).mono ?_;rintro e w1 ⟨rfl,hb⟩;replace hB:=hB.trans (hb.mono hB.size);replace v:=v.below hb v.lt;clear hb))
 clear NB c14
 go_upto_region 3 with(first|(refine bB ?hw _ _ rfl _ 7 rfl _ _ v (ah Bs) (G6 X Bs) _ yc rfl ?hi ?_;(case hw=>exact rW);(case hi=>exact rI))|(go_at_call 12;with_reducible refine(NG.out _).mono ?_;rintro e w2 ⟨gb,rfl,gy,hge,hb⟩;replace hB:=hB.trans (hb.mono hB.size);replace v:=v.below hb v.lt;clear hb))
 clear NG hge gy
 go_upto_region 4 with(first|(refine bB ?hw _ _ rfl _ 0 rfl _ _ v (aj X.Q) (xT X Bs) _ yb rfl ?hi ?_;(case hw=>exact rW);(case hi=>exact rI))|(go_at_call 13;with_reducible refine(NF.out _).mono ?_;rintro e w3 ⟨fp,er,rfl,hb⟩;replace hB:=hB.trans (hb.mono hB.size);replace v:=v.below hb v.lt;clear hb))
 clear NF
 go_wp2_with ((go_at_call 14;with_reducible refine(NS.out _).mono ?_;rintro e w4 ⟨sb,rfl,st,hge,hb⟩;replace hB:=hB.trans (hb.mono hB.size);replace v:=v.below hb v.lt;clear hb))
 go_ret2
 exact⟨_,rfl,hB.alloc hB.size _⟩
end
section
open Go.ChangeShapes Go.WideShapes Go.ChangeAt Go.RowKit PM Dt
def mA (l:List Value):Nat->Int:=fun i=>match l[i]? with
 |some (.int .i64 n)=>n
 |_=>0
theorem Cp {n:Nat} {l:List Value} (hl:l.length=n) (h:∀(i:Nat) (q:Option IntKind),(List.replicate n (some IntKind.i64))[i]?=some q->∃u,l[i]?=some u/\K_ q u):(∀i,bu (mA l i))/\l=(List.range n).map fun i=>Value.int .i64 (mA l i):=by
 have k:∀i,i<n->∃a,l[i]?=some (.int .i64 a)/\bu a:=fun i hi=>by
  obtain⟨u,hu,a,rfl,hw⟩:=h i (some .i64) (by simp[hi])
  exact⟨a,hu,Kx hw⟩
 constructor
 ·intro i
  by_cases hi:i<n
  ·obtain⟨a,e,ha⟩:=k i hi
   unfold mA;rw[e];exact ha
  ·unfold mA
   rw[List.getElem?_eq_none oa]
   exact⟨da,da⟩
 ·apply List.ext_getElem?
  intro i
  by_cases hi:i<n
  ·obtain⟨a,e,_⟩:=k i hi
   rw[e];simp[hi,mA,e]
  ·rw[List.getElem?_eq_none oa,List.getElem?_eq_none (by simp;omega)]
def Kk (x:cG×(Nat->Int)):Prop:=∀i,i<4->bu (x.1.Q i)
def KH (x:Nat->Int):Prop:=∀i,i<4->bu (x i)
section
variable{H:Type} {enc:TypeId×Value->H} {W:World} {base:Nat} {spare:Nat->Bool} {held:Bool} {v:Value} {d:DataW H} {p:List MemPlace}
theorem Co (hval:Value.okWide Tryz.prog W .any base 27 v) (h:DataW.Trod enc Tryz.prog W 0 spare held 27 v d p):∃x,v=.agg (fx x)/\Kk x:=by
 obtain⟨cs,rfl,hsz,_⟩:∃cs,v=.agg cs/\cs.size=Tryz.prog.cellsOf 27/\Row.okWide Tryz.prog W .any base 27 cs:=by
  simpa[Value.okWide,Tryz.underlying27]using hval
 obtain⟨l⟩:=cs
 obtain⟨fuel,hf⟩:=h
 rw[show Tryz.prog.cellsOf 27=15 by kernel_rfl]at hsz
 obtain⟨a,e⟩:=Cp (n:=15) hsz (fun i q hq=>tV ke hf i q hq)
 refine⟨(⟨mA l,fun i=>mA l (4+i),fun i=>mA l (10+i),mA l 14⟩,fun i=>mA l (7+i)),congrArg Value.agg (Array.ext' ?_),fun i _=>a i⟩
 generalize mA l=f at *
 exact e
theorem BV (hval:Value.okWide Tryz.prog W .any base 23 v) (h:DataW.Trod enc Tryz.prog W 0 spare held 23 v d p):∃x,v=.agg (aj x)/\KH x:=by
 obtain⟨cs,rfl,hsz,_⟩:∃cs,v=.agg cs/\cs.size=Tryz.prog.cellsOf 23/\Row.okWide Tryz.prog W .any base 23 cs:=by
  simpa[Value.okWide,Tryz.underlying23]using hval
 obtain⟨l⟩:=cs
 obtain⟨fuel,hf⟩:=h
 rw[show Tryz.prog.cellsOf 23=4 by kernel_rfl]at hsz
 obtain⟨a,e⟩:=Cp (n:=4) hsz (fun i q hq=>tV (by kernel_rfl) hf i q hq)
 refine⟨mA l,congrArg Value.agg (Array.ext' ?_),fun i _=>a i⟩
 generalize mA l=f at *
 unfold aj;exact e
end
end
end Go.Proofs.YtbhahonkhiiilaaGreat
