/-
  Matrices of nine numbers: rows, and what it is that one is valid. The product of a matrix and a vector: Apply, in the package and in its specification. Columns of matrices, the transposed matrix, and its product with a vector: Back.
-/
import Derived.Test.YtbhahonkhiiilaaGreatMc
import Derived.Test.YtbhahonkhiiilaaGreatMac
import Derived.Test.YtbhahonkhiiilaaGreatVecA
import Derived.Deep.MidRow
import Derived.Test.YtbhahonkhiiilaaGreatBase
set_option linter.unusedSimpArgs false
set_option linter.unusedVariables false
set_option maxHeartbeats 2000000
set_option maxRecDepth 100000
namespace Go.Proofs.YtbhahonkhiiilaaGreat
open Go.RowKit PM Dt
def cH (g:Nat->Int):Array Value:=((List.range 9).map fun i=>Value.int .i64 (g i)).toArray
theorem ex (g:Nat->Int):(cH g).size=9:=by simp[cH]
theorem kl (g:Nat->Int):(cH g).all (·.oneCell')=true:=by simp[cH,Value.oneCell']
theorem dr (g:Nat->Int) {i:Nat} (h:i<9):(cH g)[i]?=some (.int .i64 (g i)):=by simp[cH,List.getElem?_range h]
theorem rE {f g:Nat->Int} (h:∀i,i<9->f i=g i):cH f=cH g:=by
 apply Array.ext_getElem?
 intro j
 by_cases hj:j<9
 ·rw[dr _ hj,dr _ hj,h j hj]
 ·rw[Array.getElem?_eq_none (by rw[ex];omega),Array.getElem?_eq_none (by rw[ex];omega)]
theorem EJ {f g:Nat->Int} {i:Nat} {v:Int} (h:i<9) (hx:v=g i) (hg:∀j,j<9->j≠i->f j=g j):(cH f).setIfInBounds i (.int .i64 v)=cH g:=by
 subst hx
 apply Array.ext_getElem?
 intro j
 rw[Array.getElem?_setIfInBounds,ex]
 by_cases hj:j<9
 ·by_cases e:i=j
  ·subst e;rw[if_pos rfl,if_pos h,dr _ h]
  ·rw[if_neg e,dr _ hj,dr _ hj,hg j hj (Ne.symm e)]
 ·by_cases e:i=j
  ·omega
  ·rw[if_neg e,Array.getElem?_eq_none (by rw[ex];omega),Array.getElem?_eq_none (by rw[ex];omega)]
theorem ix:#[Value.int .i64 0,.int .i64 0,.int .i64 0,.int .i64 0,.int .i64 0,.int .i64 0,.int .i64 0,.int .i64 0,.int .i64 0]=cH (fun _=>0):=rfl
attribute [irreducible] cH
def h_ (g:Nat->Int) (r:Nat):Nat->Int:=fun k=>g (3*r+k)
def qt (g:Nat->Int):Bool:=cx (h_ g 0)&&(cx (h_ g 1)&&cx (h_ g 2))
theorem s5 (g:Nat->Int):qt g=true↔∀r,r<3->cx (h_ g r)=true:=by
 unfold qt
 rw[Bool.and_eq_true,Bool.and_eq_true]
 constructor
 ·rintro⟨h0,h1,h2⟩ i hi
  have:i=0\/i=1\/i=2:=oa
  rcases this with rfl|rfl|rfl<;>assumption
 ·intro h;exact⟨h 0 oa,h 1 oa,h 2 oa⟩
theorem xk (g:Nat->Int) (r:Nat):[Value.int .i64 (g (3*r)),.int .i64 (g (3*r+1)),.int .i64 (g (3*r+2))].toArray=ah (h_ g r):=by unfold ah h_;rfl
theorem wX {w:World} {b:Nat} {g:Nat->Int} {t:TypeId} (p:af w b (cH g) t) {r:Nat} (hr:r<3):w.rangeAt b (3*r) [Value.int .i64 (g (3*r)),.int .i64 (g (3*r+1)),.int .i64 (g (3*r+2))]:=by
 intro j v hv
 have hj:j<3:=by
  have:=(List.getElem?_eq_some_iff.1 hv).1
  simpa using this
 have:j=0\/j=1\/j=2:=oa
 rcases this with rfl|rfl|rfl
 ·simp at hv;subst hv;exact p.cellIs (dr g oa)
 ·simp at hv;subst hv;exact p.cellIs (dr g oa)
 ·simp at hv;subst hv;exact p.cellIs (dr g oa)
theorem s6 (w:World) (b r:Nat) (g:Nat->Int) {t:TypeId} (hr:r<3) (p:af w b (cH g) t):(loadVar 25 ⟨b,3*r,none⟩).run Tryz.prog w=.ok (.agg (ah (h_ g r))) w:=by
 rw[<-xk]
 exact run_loadVar_mid w b (3*r) 25 _ _ (wX p hr) yc rfl ke
theorem gV {ops:Array Oper} {rest:List Oper} {o:Oper} {a:Act} {w:World} {Q:Exit->Act->World->Prop} (hw:Region.wanted o (yielded ops a.tmps)=true) (x:Operand) (ho:o.op=.load 25 x)
 (b r:Nat) (g:Nat->Int) {off:Nat} (hx:a.eval x=.pointer (some ⟨b,off,none⟩)) (hoff:off=3*r) (hr:r<3) {t:TypeId} (p:af w b (cH g) t)
 (h:wpList Tryz.prog ops Q rest (a.put o.dst (.agg (ah (h_ g r)))) w):wpList Tryz.prog ops Q (o::rest) a w:=
 wpList_step fun K hK=>by
  rw[if_pos hw]
  subst hoff
  unfold Oper.wp execOp
  simp only[ho,hx,Instr.loadAt,Instr.sureAddr,Sem.run_bind,Sem.run_pure,Result.andThen_ok,s6 w b r g hr p]
  exact hK _ _ h
theorem EL {w:World} {b r:Nat} {g:Nat->Int} {t:TypeId} (h:af w b (cH g) t) (hr:r<3):iL w (.slice (some ⟨b,3*r,none⟩) 3 3) [h_ g r 0,h_ g r 1,h_ g r 2]:=
 Or.inr ⟨by simp,b,3*r,3,rfl,h.lt,fun k hk=>by
  have hk:k<3:=hk
  refine(h.cellIs (dr g oa)).trans ?_
  have:k=0\/k=1\/k=2:=oa
  rcases this with rfl|rfl|rfl<;>rfl⟩
theorem pU (g:Nat->Int) (w:World):Calls Tryz.prog 106 #[.agg (cH g)] w fun e w'=>e=.returned (.bool (qt g))/\Below w.heap.size w w':=by
 have W0:=aa (fun w=>cd (h_ g 0) w)
 have W1:=aa (fun w=>cd (h_ g 1) w)
 have W2:=aa (fun w=>cd (h_ g 2) w)
 have p0:af (w.alloc (.cells (cH g) 143)) w.heap.size (cH g) 143:=af.new _ _ _
 have hB0:Below w.heap.size w (w.alloc (.cells (cH g) 143)):=by go_grown
 unfold qt
 generalize cx (h_ g 0)=b0 at *
 generalize cx (h_ g 1)=b1 at *
 generalize cx (h_ g 2)=b2 at *
 cases b0<;>cases b1<;>cases b2
 all_goals
  go_enter Tryz.func106,Tryz.ntmps106
  go_upto_region 1 with(fail)
  have p:=p0
  have hB:=hB0
  generalize w.alloc (.cells (cH g) 143)=w0 at *
  go_wp2_with (first
   |(refine gV ?hw _ rfl w.heap.size 0 g rfl rfl oa p ?_;(case hw=>exact rW))
   |(refine gV ?hw _ rfl w.heap.size 1 g rfl rfl oa p ?_;(case hw=>exact rW))
   |(refine gV ?hw _ rfl w.heap.size 2 g rfl rfl oa p ?_;(case hw=>exact rW))
   |(go_at_call 32;with_reducible refine(W0.out _).mono ?_;rintro e w1 ⟨rfl,hb⟩;replace hB:=hB.trans (hb.mono hB.size);replace p:=p.below hb p.lt;clear hb)
   |(go_at_call 32;with_reducible refine(W1.out _).mono ?_;rintro e w1 ⟨rfl,hb⟩;replace hB:=hB.trans (hb.mono hB.size);replace p:=p.below hb p.lt;clear hb)
   |(go_at_call 32;with_reducible refine(W2.out _).mono ?_;rintro e w1 ⟨rfl,hb⟩;replace hB:=hB.trans (hb.mono hB.size);replace p:=p.below hb p.lt;clear hb))
  go_ret
  exact⟨rfl,hB⟩
def iC (g f:Nat->Int) (i:Nat):Int:=gA (d3 (h_ g i) f)
theorem lA (g f:Nat->Int) (r:Nat) (hr:r<3) (b c:Nat) (w:World) (hg:qt g=true) (hf:cx f=true) (p:af w b (cH g) 143) (q:af w c (ah f) 25):
 Calls Tryz.prog 49 #[.slice (some ⟨b,3*r,none⟩) 3 3,.slice (some ⟨c,0,none⟩) 3 3] w fun e w'=>e=.returned (.tuple #[.int .i64 (iC g f r),.int .i64 0])/\Below w.heap.size w w':=by
 have hr':=(s5 g).1 hg r hr
 refine(ic [h_ g r 0,h_ g r 1,h_ g r 2] [f 0,f 1,f 2] _ _ w (EL p hr) (nY q) (iQ (nK hr')) (iQ (nK hf))).mono fun e w' h=>⟨h.1.trans ?_,h.2⟩
 rw[(mE hr' hf).1,(mE hr' hf).2];rfl
theorem Gx (g f:Nat->Int) (b c:Nat) (w:World) (p:af w b (cH g) 143) (q:af w c (ah f) 25) (X:Int)
 (D:Hid (∀w,af w b (cH g) 143->af w c (ah f) 25->Calls Tryz.prog 49 #[.slice (some ⟨b,0,none⟩) 3 3,.slice (some ⟨c,0,none⟩) 3 3] w fun e w'=>e=.returned (.tuple #[.int .i64 X,.int .i64 0])/\Below w.heap.size w w')):
 Calls Tryz.prog 107 #[.int .i64 0,.pointer (some ⟨b,0,none⟩),.pointer (some ⟨c,0,none⟩)] w fun e w'=>e=.returned (.tuple #[.int .i64 X,.int .i64 0])/\Below w.heap.size w w':=by
 go_enter Tryz.func107,Tryz.ntmps107
 go_upto_region 1 with(fail)
 have hB:bl w w:=Below.refl _ _
 refine bV 99 9 rfl ke ?_
 replace p:=p.drew
 replace q:=q.drew
 replace hB:bl w w.drew:=hB.drew
 generalize w.drew=wo at *
 refine ai 0 (.int .i64 0) rfl rfl ke (fun w1=>by go_simp;exact⟨rfl,Below.refl _ _⟩) ?_
 simp only[Act.put,aL,aM,aN]
 refine ai 1 (.pointer (some ⟨b,0,none⟩)) rfl rfl ke (fun w1=>by go_simp;exact⟨rfl,Below.refl _ _⟩) ?_
 simp only[Act.put,aL,aM,aN]
 refine ai 2 (.slice (some ⟨b,0,none⟩) 3 3) rfl rfl ke (fun w1=>by go_simp;exact⟨rfl,Below.refl _ _⟩) ?_
 simp only[Act.put,aL,aM,aN]
 refine ai 3 (.slice (some ⟨c,0,none⟩) 3 3) rfl rfl ke (fun w1=>by go_simp;exact⟨rfl,Below.refl _ _⟩) ?_
 simp only[Act.put,aL,aM,aN]
 refine aV 4 (.tuple #[.int .i64 X,.int .i64 0]) rfl rfl ke ke (fun w1 h1=>?_) ?_
 ·go_simp
  exact(D.out _ (p.below h1 p.lt) (q.below h1 q.lt)).mono rC
 simp only[Act.put,aL,aM,aN]
 refine ai 5 (.int .i64 X) rfl rfl ke (fun w1=>by go_simp;exact⟨rfl,Below.refl _ _⟩) ?_
 simp only[Act.put,aL,aM,aN]
 refine ai 6 (.int .i64 0) rfl rfl ke (fun w1=>by go_simp;exact⟨rfl,Below.refl _ _⟩) ?_
 simp only[Act.put,aL,aM,aN]
 refine ai 7 (.int .i64 X) rfl rfl ke (fun w1=>by go_simp;exact⟨rfl,Below.refl _ _⟩) ?_
 simp only[Act.put,aL,aM,aN]
 refine ai 8 (.int .i64 0) rfl rfl ke (fun w1=>by go_simp;exact⟨rfl,Below.refl _ _⟩) ?_
 simp only[Act.put,aL,aM,aN]
 refine dq ke (fun w3 h3=>?_)
 replace hB:=bl.trans hB h3
 go_wp2_with (fail)
 go_ret2
 exact⟨rfl,hB⟩
theorem Fv (g f:Nat->Int) (b c:Nat) (w:World) (p:af w b (cH g) 143) (q:af w c (ah f) 25) (X:Int)
 (D:Hid (∀w,af w b (cH g) 143->af w c (ah f) 25->Calls Tryz.prog 49 #[.slice (some ⟨b,3,none⟩) 3 3,.slice (some ⟨c,0,none⟩) 3 3] w fun e w'=>e=.returned (.tuple #[.int .i64 X,.int .i64 0])/\Below w.heap.size w w')):
 Calls Tryz.prog 107 #[.int .i64 1,.pointer (some ⟨b,0,none⟩),.pointer (some ⟨c,0,none⟩)] w fun e w'=>e=.returned (.tuple #[.int .i64 X,.int .i64 0])/\Below w.heap.size w w':=by
 go_enter Tryz.func107,Tryz.ntmps107
 go_upto_region 1 with(fail)
 have hB:bl w w:=Below.refl _ _
 refine bV 99 9 rfl ke ?_
 replace p:=p.drew
 replace q:=q.drew
 replace hB:bl w w.drew:=hB.drew
 generalize w.drew=wo at *
 refine ai 0 (.int .i64 1) rfl rfl ke (fun w1=>by go_simp;exact⟨rfl,Below.refl _ _⟩) ?_
 simp only[Act.put,aL,aM,aN]
 refine ai 1 (.pointer (some ⟨b,3,none⟩)) rfl rfl ke (fun w1=>by go_simp;exact⟨rfl,Below.refl _ _⟩) ?_
 simp only[Act.put,aL,aM,aN]
 refine ai 2 (.slice (some ⟨b,3,none⟩) 3 3) rfl rfl ke (fun w1=>by go_simp;exact⟨rfl,Below.refl _ _⟩) ?_
 simp only[Act.put,aL,aM,aN]
 refine ai 3 (.slice (some ⟨c,0,none⟩) 3 3) rfl rfl ke (fun w1=>by go_simp;exact⟨rfl,Below.refl _ _⟩) ?_
 simp only[Act.put,aL,aM,aN]
 refine aV 4 (.tuple #[.int .i64 X,.int .i64 0]) rfl rfl ke ke (fun w1 h1=>?_) ?_
 ·go_simp
  exact(D.out _ (p.below h1 p.lt) (q.below h1 q.lt)).mono rC
 simp only[Act.put,aL,aM,aN]
 refine ai 5 (.int .i64 X) rfl rfl ke (fun w1=>by go_simp;exact⟨rfl,Below.refl _ _⟩) ?_
 simp only[Act.put,aL,aM,aN]
 refine ai 6 (.int .i64 0) rfl rfl ke (fun w1=>by go_simp;exact⟨rfl,Below.refl _ _⟩) ?_
 simp only[Act.put,aL,aM,aN]
 refine ai 7 (.int .i64 X) rfl rfl ke (fun w1=>by go_simp;exact⟨rfl,Below.refl _ _⟩) ?_
 simp only[Act.put,aL,aM,aN]
 refine ai 8 (.int .i64 0) rfl rfl ke (fun w1=>by go_simp;exact⟨rfl,Below.refl _ _⟩) ?_
 simp only[Act.put,aL,aM,aN]
 refine dq ke (fun w3 h3=>?_)
 replace hB:=bl.trans hB h3
 go_wp2_with (fail)
 go_ret2
 exact⟨rfl,hB⟩
theorem Fs (g f:Nat->Int) (b c:Nat) (w:World) (p:af w b (cH g) 143) (q:af w c (ah f) 25) (X:Int)
 (D:Hid (∀w,af w b (cH g) 143->af w c (ah f) 25->Calls Tryz.prog 49 #[.slice (some ⟨b,6,none⟩) 3 3,.slice (some ⟨c,0,none⟩) 3 3] w fun e w'=>e=.returned (.tuple #[.int .i64 X,.int .i64 0])/\Below w.heap.size w w')):
 Calls Tryz.prog 107 #[.int .i64 2,.pointer (some ⟨b,0,none⟩),.pointer (some ⟨c,0,none⟩)] w fun e w'=>e=.returned (.tuple #[.int .i64 X,.int .i64 0])/\Below w.heap.size w w':=by
 go_enter Tryz.func107,Tryz.ntmps107
 go_upto_region 1 with(fail)
 have hB:bl w w:=Below.refl _ _
 refine bV 99 9 rfl ke ?_
 replace p:=p.drew
 replace q:=q.drew
 replace hB:bl w w.drew:=hB.drew
 generalize w.drew=wo at *
 refine ai 0 (.int .i64 2) rfl rfl ke (fun w1=>by go_simp;exact⟨rfl,Below.refl _ _⟩) ?_
 simp only[Act.put,aL,aM,aN]
 refine ai 1 (.pointer (some ⟨b,6,none⟩)) rfl rfl ke (fun w1=>by go_simp;exact⟨rfl,Below.refl _ _⟩) ?_
 simp only[Act.put,aL,aM,aN]
 refine ai 2 (.slice (some ⟨b,6,none⟩) 3 3) rfl rfl ke (fun w1=>by go_simp;exact⟨rfl,Below.refl _ _⟩) ?_
 simp only[Act.put,aL,aM,aN]
 refine ai 3 (.slice (some ⟨c,0,none⟩) 3 3) rfl rfl ke (fun w1=>by go_simp;exact⟨rfl,Below.refl _ _⟩) ?_
 simp only[Act.put,aL,aM,aN]
 refine aV 4 (.tuple #[.int .i64 X,.int .i64 0]) rfl rfl ke ke (fun w1 h1=>?_) ?_
 ·go_simp
  exact(D.out _ (p.below h1 p.lt) (q.below h1 q.lt)).mono rC
 simp only[Act.put,aL,aM,aN]
 refine ai 5 (.int .i64 X) rfl rfl ke (fun w1=>by go_simp;exact⟨rfl,Below.refl _ _⟩) ?_
 simp only[Act.put,aL,aM,aN]
 refine ai 6 (.int .i64 0) rfl rfl ke (fun w1=>by go_simp;exact⟨rfl,Below.refl _ _⟩) ?_
 simp only[Act.put,aL,aM,aN]
 refine ai 7 (.int .i64 X) rfl rfl ke (fun w1=>by go_simp;exact⟨rfl,Below.refl _ _⟩) ?_
 simp only[Act.put,aL,aM,aN]
 refine ai 8 (.int .i64 0) rfl rfl ke (fun w1=>by go_simp;exact⟨rfl,Below.refl _ _⟩) ?_
 simp only[Act.put,aL,aM,aN]
 refine dq ke (fun w3 h3=>?_)
 replace hB:=bl.trans hB h3
 go_wp2_with (fail)
 go_ret2
 exact⟨rfl,hB⟩
theorem xL (g f:Nat->Int) (b c:Nat) (w:World) (hg:qt g=true) (hf:cx f=true) (p:af w b (cH g) 143) (q:af w c (ah f) 25) (i:Nat) (hi:i<3):
 Calls Tryz.prog 107 #[.int .i64 i,.pointer (some ⟨b,0,none⟩),.pointer (some ⟨c,0,none⟩)] w fun e w'=>e=.returned (.tuple #[.int .i64 (iC g f i),.int .i64 0])/\Below w.heap.size w w':=by
 have:i=0\/i=1\/i=2:=oa
 rcases this with rfl|rfl|rfl
 ·exact Gx g f b c w p q _ (fun w p q=>lA g f 0 oa b c w hg hf p q)
 ·exact Fv g f b c w p q _ (fun w p q=>lA g f 1 oa b c w hg hf p q)
 ·exact Fs g f b c w p q _ (fun w p q=>lA g f 2 oa b c w hg hf p q)
theorem qK (x er:Nat->Int) (c1 c2:Value) (w:World)
 (hf:Hid (∀i:Nat,i<3->∀w1,Below w.heap.size w w1->Calls Tryz.prog 107 #[.int .i64 i,c1,c2] w1 fun e w'=>e=.returned (.tuple #[.int .i64 (x i),.int .i64 (er i)])/\Below w1.heap.size w1 w')):
 Calls Tryz.prog 86 #[.bool true,.func (.func 107) #[] #[c1,c2]] w fun e w'=>e=.returned (.tuple #[.agg (ah (dP x er)),.int .i64 (dO x er)])/\Below w.heap.size w w':=by
 go_enter Tryz.func86,Tryz.ntmps86
 go_upto_region 2 with(fail)
 rw[aQ]
 have p:af ((w.alloc (.cells (ah fun _=>0) 25)).alloc (.cells (ah fun _=>0) 25)) w.heap.size (ah fun _=>0) 25:=(af.new _ _ _).alloc _
 have q:af ((w.alloc (.cells (ah fun _=>0) 25)).alloc (.cells (ah fun _=>0) 25)) (w.heap.size+1) (ah fun _=>0) 25:=af.new' sd
 have hB:Below w.heap.size w ((w.alloc (.cells (ah fun _=>0) 25)).alloc (.cells (ah fun _=>0) 25)):=by go_grown
 generalize(w.alloc (.cells (ah fun _=>0) 25)).alloc (.cells (ah fun _=>0) 25)=w0 at *
 go_wp2_with (fail)
 go_loopg [13] 3 (fun g iv wr=>∃k:Nat,g+k=3/\iv=.int .i64 k/\Hid (∀j,j<k->er j=0/\vb (x j)=true)/\af wr w.heap.size (ah fun _=>0) 25/\af wr (w.heap.size+1) (ah (dC x k)) 25/\Below w.heap.size w wr)
 case atStart=>exact⟨0,rfl,rfl,fun j hj=>by omega,p,by rw[show ah (dC x 0)=ah (fun _=>0)from dD fun i _=>by simp[dC]];exact q,hB⟩
 case round=>
  clear p q hB
  obtain⟨k,hk,rfl,hall,p,q,hB⟩:=hrel
  by_cases hkn:k<3
  ·have hdk:decide ((k:Int)<3)=true:=dT oa
   have hdk':decide (k<3)=true:=dT oa
   have hw3:IntKind.i64.wrap ((k:Int)+1)=((k+1:Nat):Int):=by rw[wI];omega
   have W0:=aa (fun w=>ej (x k) w)
   have HC:=aa (hf.out k hkn)
   by_cases he:er k=0
   ·have de:(er k !=0)=false:=by simp[he]
    have HE:=aa he
    obtain⟨b,hb⟩:∃b,vb (x k)=b:=⟨_,rfl⟩
    rw[hb]at W0
    have HVB:=aa hb
    clear hb he
    cases b
    ·have HG:=aa (show ga x er=false from eI hkn (by rintro⟨_,h⟩;rw[HVB.out]at h;cases h))
     go_wp2_with (first
      |(go_at_call 107;refine(HC.out _ hB).mono ?_;rintro e w1 ⟨rfl,hb⟩;replace hB:=hB.trans (hb.mono hB.size);replace p:=p.below hb p.lt;replace q:=q.below hb q.lt;clear hb)
      |(go_at_call 70;refine(W0.out _).mono ?_;rintro e w1 ⟨rfl,rfl⟩)
      |(rw[aQ];refine ag rfl _ _ _ rfl _ rfl _ rfl _ _ p rI (by simp only[ad]) (aG _) ?_))
     refine bodyPost_ret (aq rfl _ _ _ _ _ _ _ rfl (p.row (ah (fun _=>0))) yc rfl rI) rfl ?_;refine⟨?_,Below.setRow hB (ns _) _⟩
     unfold dP dO;rw[HG.out];rfl
    ·go_upto_region 8 with(go_at_call 107;refine(HC.out _ hB).mono ?_;rintro e w1 ⟨rfl,hb⟩;replace hB:=hB.trans (hb.mono hB.size);replace p:=p.below hb p.lt;replace q:=q.below hb q.lt;clear hb)
     have fz:w1.frozen? ⟨w.heap.size+1,k,none⟩=false:=q.free _
     have cz:w1.cell? ⟨w.heap.size+1,k,none⟩=some (.int .i64 (dC x k k)):=q.cellIs (az _ hkn)
     go_wp2_with (go_at_call 70;refine(W0.out _).mono ?_;rintro e w1 ⟨rfl,rfl⟩)
     go_roundg (3-(k+1))
     case rel=>
      refine⟨k+1,oa,rfl,fun j hj=>?_,p.setOther sd _,q.set' (kF hkn ?_ ?_),hB.setCell sd _⟩
      ·by_cases e:j=k
       ·subst e;exact⟨HE.out,HVB.out⟩
       ·exact hall.out j oa
      ·simp[dC]
      ·intro j hj hne;simp only[dC];split<;>split<;>first|rfl|omega
     case measure=>omega
   ·have de:(er k !=0)=true:=by simpa using he
    have HG:=aa (show ga x er=false from eI hkn (by rintro⟨h,_⟩;exact he h))
    clear he
    go_wp2_with (first
     |(go_at_call 107;refine(HC.out _ hB).mono ?_;rintro e w1 ⟨rfl,hb⟩;replace hB:=hB.trans (hb.mono hB.size);replace p:=p.below hb p.lt;replace q:=q.below hb q.lt;clear hb)
     |(rw[aQ];refine ag rfl _ _ _ rfl _ rfl _ rfl _ _ p rI (by simp only[ad]) (aG _) ?_))
    refine bodyPost_ret (aq rfl _ _ _ _ _ _ _ rfl (p.row (ah (fun _=>0))) yc rfl rI) rfl ?_;refine⟨?_,Below.setRow hB (ns _) _⟩
    unfold dP dO;rw[HG.out];rfl
  ·obtain rfl:k=3:=oa
   have HG:=aa ((fO x er).2 hall.out)
   have e3:ah (dC x 3)=ah x:=dD fun i hi=>by simp[dC,hi]
   rw[e3]at q
   go_wp2_with (first|(refine ac ?hw _ _ rfl _ rfl _ _ _ _ q yc rfl ?hi ?_;(case hw=>exact rW);(case hi=>exact rI))|(refine ag rfl _ _ _ rfl _ rfl _ rfl _ _ p rI (by simp only[ad]) (aG _) ?_))
   refine bodyPost_ret (aq rfl _ _ _ _ _ _ _ rfl (p.row (ah x)) yc rfl rI) rfl ?_;refine⟨?_,Below.setRow hB (ns _) _⟩
   unfold dP dO;rw[HG.out];rfl
def l5 (g f:Nat->Int):Nat->Int:=if qt g&&cx f then iV (iC g f)else fun _=>0
def lQ (g f:Nat->Int):Int:=if qt g&&cx f then m6 (iC g f)else 2
set_option maxHeartbeats 2000000 in
theorem wY (g f:Nat->Int) (w:World):Calls Tryz.prog 97 #[.agg (cH g),.agg (ah f)] w fun e w'=>e=.returned (.tuple #[.agg (ah (l5 g f)),.int .i64 (lQ g f)])/\Below w.heap.size w w':=by
 have V1:=Lib.hid (fun w=>pU g w)
 have V2:=Lib.hid (fun w=>cd f w)
 have hk:∃F E,(qt g=true->cx f=true->F=iV (iC g f)/\E=m6 (iC g f))/\l5 g f=(if qt g&&cx f then F else fun _=>0)/\lQ g f=(if qt g&&cx f then E else 2):=⟨_,_,fun _ _=>⟨rfl,rfl⟩,rfl,rfl⟩
 obtain⟨F,E,hk,e1,e2⟩:=hk
 rw[e1,e2]
 clear e1 e2
 have HK:=Lib.hid hk
 clear hk
 obtain⟨bf,hf⟩:∃b,qt g=b:=⟨_,rfl⟩
 obtain⟨bg,hg⟩:∃b,cx f=b:=⟨_,rfl⟩
 rw[hf]at V1 HK|-
 rw[hg]at V2 HK|-
 have HF:=Lib.hid hf
 have HG:=Lib.hid hg
 clear hf hg
 go_enter Tryz.func97,Tryz.ntmps97
 go_upto_region 1 with(fail)
 rw[aQ]
 have p:af (((w.alloc (.cells (cH g) 143)).alloc (.cells (ah f) 25)).alloc (.cells (ah fun _=>0) 25)) w.heap.size (cH g) 143:=((af.new _ _ _).alloc _).alloc _
 have q:af (((w.alloc (.cells (cH g) 143)).alloc (.cells (ah f) 25)).alloc (.cells (ah fun _=>0) 25)) (w.heap.size+1) (ah f) 25:=(af.new' (by simp)).alloc _
 have r:af (((w.alloc (.cells (cH g) 143)).alloc (.cells (ah f) 25)).alloc (.cells (ah fun _=>0) 25)) (w.heap.size+1+1) (ah fun _=>0) 25:=af.new' (by simp)
 have hB:Below w.heap.size w (((w.alloc (.cells (cH g) 143)).alloc (.cells (ah f) 25)).alloc (.cells (ah fun _=>0) 25)):=by go_grown
 generalize((w.alloc (.cells (cH g) 143)).alloc (.cells (ah f) 25)).alloc (.cells (ah fun _=>0) 25)=w0 at *
 cases bf
 ·go_wp2_with (first
   |(refine ac ?hw _ _ rfl _ rfl _ _ _ _ p Tryz.underlying143 rfl ?hi ?_;(case hw=>(first|rfl|(simp[Region.wanted,yielded];done)));(case hi=>(rw[ex];kernel_rfl)))
   |(refine ac ?hw _ _ rfl _ rfl _ _ _ _ q Tryz.underlying25 rfl ?hi ?_;(case hw=>(first|rfl|(simp[Region.wanted,yielded];done)));(case hi=>(rw[ad];kernel_rfl)))
   |(go_at_call 106;with_reducible refine(V1.out _).mono ?_;rintro e w1 ⟨rfl,hb⟩;replace hB:=hB.trans (hb.mono hB.size);replace p:=p.below hb p.lt;replace q:=q.below hb q.lt;replace r:=r.below hb r.lt;clear hb)
   |(go_at_call 32;with_reducible refine(V2.out _).mono ?_;rintro e w1 ⟨rfl,hb⟩;replace hB:=hB.trans (hb.mono hB.size);replace p:=p.below hb p.lt;replace q:=q.below hb q.lt;replace r:=r.below hb r.lt;clear hb)
   |(go_at_call 86;refine(gD _ _).mono ?_;rintro e w2 ⟨rfl,hb⟩;replace hB:=hB.trans (hb.mono hB.size);replace r:=r.below hb r.lt;clear hb)
   |(refine ag rfl _ _ _ rfl _ rfl _ rfl _ _ r (by rw[ad];kernel_rfl) (by simp only[ad]) (aG _) ?_))
  refine bodyPost_ret (aq rfl _ _ _ _ _ _ _ rfl (r.row (ah (fun _=>0))) Tryz.underlying25 rfl (by rw[ad];kernel_rfl)) rfl ?_;refine⟨?_,Below.setRow hB (by omega) _⟩
  rfl
 cases bg
 ·go_wp2_with (first
   |(refine ac ?hw _ _ rfl _ rfl _ _ _ _ p Tryz.underlying143 rfl ?hi ?_;(case hw=>(first|rfl|(simp[Region.wanted,yielded];done)));(case hi=>(rw[ex];kernel_rfl)))
   |(refine ac ?hw _ _ rfl _ rfl _ _ _ _ q Tryz.underlying25 rfl ?hi ?_;(case hw=>(first|rfl|(simp[Region.wanted,yielded];done)));(case hi=>(rw[ad];kernel_rfl)))
   |(go_at_call 106;with_reducible refine(V1.out _).mono ?_;rintro e w1 ⟨rfl,hb⟩;replace hB:=hB.trans (hb.mono hB.size);replace p:=p.below hb p.lt;replace q:=q.below hb q.lt;replace r:=r.below hb r.lt;clear hb)
   |(go_at_call 32;with_reducible refine(V2.out _).mono ?_;rintro e w1 ⟨rfl,hb⟩;replace hB:=hB.trans (hb.mono hB.size);replace p:=p.below hb p.lt;replace q:=q.below hb q.lt;replace r:=r.below hb r.lt;clear hb)
   |(go_at_call 86;refine(gD _ _).mono ?_;rintro e w2 ⟨rfl,hb⟩;replace hB:=hB.trans (hb.mono hB.size);replace r:=r.below hb r.lt;clear hb)
   |(refine ag rfl _ _ _ rfl _ rfl _ rfl _ _ r (by rw[ad];kernel_rfl) (by simp only[ad]) (aG _) ?_))
  refine bodyPost_ret (aq rfl _ _ _ _ _ _ _ rfl (r.row (ah (fun _=>0))) Tryz.underlying25 rfl (by rw[ad];kernel_rfl)) rfl ?_;refine⟨?_,Below.setRow hB (by omega) _⟩
  rfl
 obtain⟨hF,hE⟩:=HK.out rfl rfl
 have HFE:=Lib.hid (And.intro hF hE)
 clear HK hF hE
 go_wp2_with (first
  |(refine ac ?hw _ _ rfl _ rfl _ _ _ _ p Tryz.underlying143 rfl ?hi ?_;(case hw=>(first|rfl|(simp[Region.wanted,yielded];done)));(case hi=>(rw[ex];kernel_rfl)))
  |(refine ac ?hw _ _ rfl _ rfl _ _ _ _ q Tryz.underlying25 rfl ?hi ?_;(case hw=>(first|rfl|(simp[Region.wanted,yielded];done)));(case hi=>(rw[ad];kernel_rfl)))
  |(go_at_call 106;with_reducible refine(V1.out _).mono ?_;rintro e w1 ⟨rfl,hb⟩;replace hB:=hB.trans (hb.mono hB.size);replace p:=p.below hb p.lt;replace q:=q.below hb q.lt;replace r:=r.below hb r.lt;clear hb)
  |(go_at_call 32;with_reducible refine(V2.out _).mono ?_;rintro e w1 ⟨rfl,hb⟩;replace hB:=hB.trans (hb.mono hB.size);replace p:=p.below hb p.lt;replace q:=q.below hb q.lt;replace r:=r.below hb r.lt;clear hb)
  |(go_at_call 86;refine(qK (iC g f) (fun _=>0) _ _ _ (fun i hi wx hx=>xL g f _ _ wx HF.out HG.out (p.below hx p.lt) (q.below hx q.lt) i hi)).mono ?_;rintro e w2 ⟨rfl,hb⟩;rw[(fC _).1,(fC _).2,<-HFE.out.1,<-HFE.out.2];replace hB:=hB.trans (hb.mono hB.size);replace r:=r.below hb r.lt;clear hb)
  |(refine ag rfl _ _ _ rfl _ rfl _ rfl _ _ r (by rw[ad];kernel_rfl) (by simp only[ad]) (aG _) ?_))
 refine bodyPost_ret (aq rfl _ _ _ _ _ _ _ rfl (r.row (ah F)) Tryz.underlying25 rfl (by rw[ad];kernel_rfl)) rfl ?_;refine⟨?_,Below.setRow hB (by omega) _⟩
 rfl
def mS (g:Nat->Int) (k:Nat):Nat->Int:=fun r=>g (3*r+k)
theorem BU {g:Nat->Int} (h:qt g=true) {i:Nat} (hi:i<9):vb (g i)=true:=by
 have h1:=(bK _).1 ((s5 g).1 h (i/3) oa) (i % 3) oa
 unfold h_ at h1
 rw[show 3* (i/3)+i % 3=i by omega]at h1
 exact h1
theorem EZ {g:Nat->Int} (h:qt g=true) {k:Nat} (hk:k<3):cx (mS g k)=true:=(bK _).2 fun r hr=>BU h oa
theorem Ka (g:Nat->Int) (w:World):Calls Tryz.prog 109 #[.agg (cH g),.int .i64 0] w fun e w'=>∃nb,e=.returned (.slice (some ⟨nb,0,none⟩) 3 3)/\af w' nb (ah (mS g 0)) 2/\Below w.heap.size w w':=by
 go_enter Tryz.func109,Tryz.ntmps109
 go_upto_region 1 with(fail)
 have p:af (w.alloc (.cells (cH g) 143)) w.heap.size (cH g) 143:=af.new _ _ _
 have hB:Below w.heap.size w (w.alloc (.cells (cH g) 143)):=by go_grown
 generalize w.alloc (.cells (cH g) 143)=w0 at *
 have HX:Hid (#[Value.int .i64 (g 0),.int .i64 (g 3),.int .i64 (g 6)]=ah (mS g 0)):=by show _=_;unfold ah;rfl
 refine dx 12 ke ke ?_
 replace p:=p.drew
 replace hB:Below w.heap.size w w0.drew:=hB.drew
 generalize w0.drew=wo at *
 refine ao 0 (.int .i64 0) rfl rfl ke (fun w1 h1=>by go_simp;exact⟨rfl,Below.refl _ _⟩) ?_
 simp only[Act.put,aL,aM,aN]
 refine ao 1 (.pointer (some ⟨w.heap.size,0,none⟩)) rfl rfl ke (fun w1 h1=>by go_simp;exact⟨rfl,Below.refl _ _⟩) ?_
 simp only[Act.put,aL,aM,aN]
 refine ao 2 (.pointer (some ⟨w.heap.size,0,none⟩)) rfl rfl ke (fun w1 h1=>by go_simp;exact⟨rfl,Below.refl _ _⟩) ?_
 simp only[Act.put,aL,aM,aN]
 refine ao 3 (.int .i64 (g 0)) rfl rfl ke (fun w1 h1=>by have hc:w1.cell? ⟨w.heap.size,0,none⟩=some (.int .i64 (g 0)):=(p.below h1 p.lt).cellIs (dr _ oa);go_simp;exact⟨rfl,Below.refl _ _⟩) ?_
 simp only[Act.put,aL,aM,aN]
 refine ao 4 (.int .i64 0) rfl rfl ke (fun w1 h1=>by go_simp;exact⟨rfl,Below.refl _ _⟩) ?_
 simp only[Act.put,aL,aM,aN]
 refine ao 5 (.pointer (some ⟨w.heap.size,3,none⟩)) rfl rfl ke (fun w1 h1=>by go_simp;exact⟨rfl,Below.refl _ _⟩) ?_
 simp only[Act.put,aL,aM,aN]
 refine ao 6 (.pointer (some ⟨w.heap.size,3,none⟩)) rfl rfl ke (fun w1 h1=>by go_simp;exact⟨rfl,Below.refl _ _⟩) ?_
 simp only[Act.put,aL,aM,aN]
 refine ao 7 (.int .i64 (g 3)) rfl rfl ke (fun w1 h1=>by have hc:w1.cell? ⟨w.heap.size,3,none⟩=some (.int .i64 (g 3)):=(p.below h1 p.lt).cellIs (dr _ oa);go_simp;exact⟨rfl,Below.refl _ _⟩) ?_
 simp only[Act.put,aL,aM,aN]
 refine ao 8 (.int .i64 0) rfl rfl ke (fun w1 h1=>by go_simp;exact⟨rfl,Below.refl _ _⟩) ?_
 simp only[Act.put,aL,aM,aN]
 refine ao 9 (.pointer (some ⟨w.heap.size,6,none⟩)) rfl rfl ke (fun w1 h1=>by go_simp;exact⟨rfl,Below.refl _ _⟩) ?_
 simp only[Act.put,aL,aM,aN]
 refine ao 10 (.pointer (some ⟨w.heap.size,6,none⟩)) rfl rfl ke (fun w1 h1=>by go_simp;exact⟨rfl,Below.refl _ _⟩) ?_
 simp only[Act.put,aL,aM,aN]
 refine ao 11 (.int .i64 (g 6)) rfl rfl ke (fun w1 h1=>by have hc:w1.cell? ⟨w.heap.size,6,none⟩=some (.int .i64 (g 6)):=(p.below h1 p.lt).cellIs (dr _ oa);go_simp;exact⟨rfl,Below.refl _ _⟩) ?_
 simp only[Act.put,aL,aM,aN]
 refine d8 ke (fun wt ht=>?_)
 simp only[List.drop_succ_cons,List.drop_zero]
 replace hB:=hB.trans (ht.mono hB.size)
 go_wp2_with (fail)
 go_ret
 exact⟨_,rfl,by rw[<-HX.out];exact af.new _ _ _,hB.alloc hB.size _⟩
theorem JT (g:Nat->Int) (w:World):Calls Tryz.prog 109 #[.agg (cH g),.int .i64 1] w fun e w'=>∃nb,e=.returned (.slice (some ⟨nb,0,none⟩) 3 3)/\af w' nb (ah (mS g 1)) 2/\Below w.heap.size w w':=by
 go_enter Tryz.func109,Tryz.ntmps109
 go_upto_region 1 with(fail)
 have p:af (w.alloc (.cells (cH g) 143)) w.heap.size (cH g) 143:=af.new _ _ _
 have hB:Below w.heap.size w (w.alloc (.cells (cH g) 143)):=by go_grown
 generalize w.alloc (.cells (cH g) 143)=w0 at *
 have HX:Hid (#[Value.int .i64 (g 1),.int .i64 (g 4),.int .i64 (g 7)]=ah (mS g 1)):=by show _=_;unfold ah;rfl
 refine dx 12 ke ke ?_
 replace p:=p.drew
 replace hB:Below w.heap.size w w0.drew:=hB.drew
 generalize w0.drew=wo at *
 refine ao 0 (.int .i64 1) rfl rfl ke (fun w1 h1=>by go_simp;exact⟨rfl,Below.refl _ _⟩) ?_
 simp only[Act.put,aL,aM,aN]
 refine ao 1 (.pointer (some ⟨w.heap.size,0,none⟩)) rfl rfl ke (fun w1 h1=>by go_simp;exact⟨rfl,Below.refl _ _⟩) ?_
 simp only[Act.put,aL,aM,aN]
 refine ao 2 (.pointer (some ⟨w.heap.size,1,none⟩)) rfl rfl ke (fun w1 h1=>by go_simp;exact⟨rfl,Below.refl _ _⟩) ?_
 simp only[Act.put,aL,aM,aN]
 refine ao 3 (.int .i64 (g 1)) rfl rfl ke (fun w1 h1=>by have hc:w1.cell? ⟨w.heap.size,1,none⟩=some (.int .i64 (g 1)):=(p.below h1 p.lt).cellIs (dr _ oa);go_simp;exact⟨rfl,Below.refl _ _⟩) ?_
 simp only[Act.put,aL,aM,aN]
 refine ao 4 (.int .i64 1) rfl rfl ke (fun w1 h1=>by go_simp;exact⟨rfl,Below.refl _ _⟩) ?_
 simp only[Act.put,aL,aM,aN]
 refine ao 5 (.pointer (some ⟨w.heap.size,3,none⟩)) rfl rfl ke (fun w1 h1=>by go_simp;exact⟨rfl,Below.refl _ _⟩) ?_
 simp only[Act.put,aL,aM,aN]
 refine ao 6 (.pointer (some ⟨w.heap.size,4,none⟩)) rfl rfl ke (fun w1 h1=>by go_simp;exact⟨rfl,Below.refl _ _⟩) ?_
 simp only[Act.put,aL,aM,aN]
 refine ao 7 (.int .i64 (g 4)) rfl rfl ke (fun w1 h1=>by have hc:w1.cell? ⟨w.heap.size,4,none⟩=some (.int .i64 (g 4)):=(p.below h1 p.lt).cellIs (dr _ oa);go_simp;exact⟨rfl,Below.refl _ _⟩) ?_
 simp only[Act.put,aL,aM,aN]
 refine ao 8 (.int .i64 1) rfl rfl ke (fun w1 h1=>by go_simp;exact⟨rfl,Below.refl _ _⟩) ?_
 simp only[Act.put,aL,aM,aN]
 refine ao 9 (.pointer (some ⟨w.heap.size,6,none⟩)) rfl rfl ke (fun w1 h1=>by go_simp;exact⟨rfl,Below.refl _ _⟩) ?_
 simp only[Act.put,aL,aM,aN]
 refine ao 10 (.pointer (some ⟨w.heap.size,7,none⟩)) rfl rfl ke (fun w1 h1=>by go_simp;exact⟨rfl,Below.refl _ _⟩) ?_
 simp only[Act.put,aL,aM,aN]
 refine ao 11 (.int .i64 (g 7)) rfl rfl ke (fun w1 h1=>by have hc:w1.cell? ⟨w.heap.size,7,none⟩=some (.int .i64 (g 7)):=(p.below h1 p.lt).cellIs (dr _ oa);go_simp;exact⟨rfl,Below.refl _ _⟩) ?_
 simp only[Act.put,aL,aM,aN]
 refine d8 ke (fun wt ht=>?_)
 simp only[List.drop_succ_cons,List.drop_zero]
 replace hB:=hB.trans (ht.mono hB.size)
 go_wp2_with (fail)
 go_ret
 exact⟨_,rfl,by rw[<-HX.out];exact af.new _ _ _,hB.alloc hB.size _⟩
theorem Kh (g:Nat->Int) (w:World):Calls Tryz.prog 109 #[.agg (cH g),.int .i64 2] w fun e w'=>∃nb,e=.returned (.slice (some ⟨nb,0,none⟩) 3 3)/\af w' nb (ah (mS g 2)) 2/\Below w.heap.size w w':=by
 go_enter Tryz.func109,Tryz.ntmps109
 go_upto_region 1 with(fail)
 have p:af (w.alloc (.cells (cH g) 143)) w.heap.size (cH g) 143:=af.new _ _ _
 have hB:Below w.heap.size w (w.alloc (.cells (cH g) 143)):=by go_grown
 generalize w.alloc (.cells (cH g) 143)=w0 at *
 have HX:Hid (#[Value.int .i64 (g 2),.int .i64 (g 5),.int .i64 (g 8)]=ah (mS g 2)):=by show _=_;unfold ah;rfl
 refine dx 12 ke ke ?_
 replace p:=p.drew
 replace hB:Below w.heap.size w w0.drew:=hB.drew
 generalize w0.drew=wo at *
 refine ao 0 (.int .i64 2) rfl rfl ke (fun w1 h1=>by go_simp;exact⟨rfl,Below.refl _ _⟩) ?_
 simp only[Act.put,aL,aM,aN]
 refine ao 1 (.pointer (some ⟨w.heap.size,0,none⟩)) rfl rfl ke (fun w1 h1=>by go_simp;exact⟨rfl,Below.refl _ _⟩) ?_
 simp only[Act.put,aL,aM,aN]
 refine ao 2 (.pointer (some ⟨w.heap.size,2,none⟩)) rfl rfl ke (fun w1 h1=>by go_simp;exact⟨rfl,Below.refl _ _⟩) ?_
 simp only[Act.put,aL,aM,aN]
 refine ao 3 (.int .i64 (g 2)) rfl rfl ke (fun w1 h1=>by have hc:w1.cell? ⟨w.heap.size,2,none⟩=some (.int .i64 (g 2)):=(p.below h1 p.lt).cellIs (dr _ oa);go_simp;exact⟨rfl,Below.refl _ _⟩) ?_
 simp only[Act.put,aL,aM,aN]
 refine ao 4 (.int .i64 2) rfl rfl ke (fun w1 h1=>by go_simp;exact⟨rfl,Below.refl _ _⟩) ?_
 simp only[Act.put,aL,aM,aN]
 refine ao 5 (.pointer (some ⟨w.heap.size,3,none⟩)) rfl rfl ke (fun w1 h1=>by go_simp;exact⟨rfl,Below.refl _ _⟩) ?_
 simp only[Act.put,aL,aM,aN]
 refine ao 6 (.pointer (some ⟨w.heap.size,5,none⟩)) rfl rfl ke (fun w1 h1=>by go_simp;exact⟨rfl,Below.refl _ _⟩) ?_
 simp only[Act.put,aL,aM,aN]
 refine ao 7 (.int .i64 (g 5)) rfl rfl ke (fun w1 h1=>by have hc:w1.cell? ⟨w.heap.size,5,none⟩=some (.int .i64 (g 5)):=(p.below h1 p.lt).cellIs (dr _ oa);go_simp;exact⟨rfl,Below.refl _ _⟩) ?_
 simp only[Act.put,aL,aM,aN]
 refine ao 8 (.int .i64 2) rfl rfl ke (fun w1 h1=>by go_simp;exact⟨rfl,Below.refl _ _⟩) ?_
 simp only[Act.put,aL,aM,aN]
 refine ao 9 (.pointer (some ⟨w.heap.size,6,none⟩)) rfl rfl ke (fun w1 h1=>by go_simp;exact⟨rfl,Below.refl _ _⟩) ?_
 simp only[Act.put,aL,aM,aN]
 refine ao 10 (.pointer (some ⟨w.heap.size,8,none⟩)) rfl rfl ke (fun w1 h1=>by go_simp;exact⟨rfl,Below.refl _ _⟩) ?_
 simp only[Act.put,aL,aM,aN]
 refine ao 11 (.int .i64 (g 8)) rfl rfl ke (fun w1 h1=>by have hc:w1.cell? ⟨w.heap.size,8,none⟩=some (.int .i64 (g 8)):=(p.below h1 p.lt).cellIs (dr _ oa);go_simp;exact⟨rfl,Below.refl _ _⟩) ?_
 simp only[Act.put,aL,aM,aN]
 refine d8 ke (fun wt ht=>?_)
 simp only[List.drop_succ_cons,List.drop_zero]
 replace hB:=hB.trans (ht.mono hB.size)
 go_wp2_with (fail)
 go_ret
 exact⟨_,rfl,by rw[<-HX.out];exact af.new _ _ _,hB.alloc hB.size _⟩
theorem E8 (g:Nat->Int) (k:Nat) (w:World) (hk:k<3):Calls Tryz.prog 109 #[.agg (cH g),.int .i64 k] w fun e w'=>∃nb,e=.returned (.slice (some ⟨nb,0,none⟩) 3 3)/\af w' nb (ah (mS g k)) 2/\Below w.heap.size w w':=by
 have:k=0\/k=1\/k=2:=oa
 rcases this with rfl|rfl|rfl
 ·exact Ka g w
 ·exact JT g w
 ·exact Kh g w
def cN (g f:Nat->Int) (i:Nat):Int:=gA (d3 (mS g i) f)
theorem xy (x f:Nat->Int) (b c:Nat) (t:TypeId) (w:World) (hx:cx x=true) (hf:cx f=true) (p:af w b (ah x) t) (q:af w c (ah f) 25):
 Calls Tryz.prog 49 #[.slice (some ⟨b,0,none⟩) 3 3,.slice (some ⟨c,0,none⟩) 3 3] w fun e w'=>e=.returned (.tuple #[.int .i64 (gA (d3 x f)),.int .i64 0])/\Below w.heap.size w w':=
 (ic [x 0,x 1,x 2] [f 0,f 1,f 2] _ _ w (nY p) (nY q) (iQ (nK hx)) (iQ (nK hf))).mono fun e w' h=>⟨h.1.trans (by rw[(mE hx hf).1,(mE hx hf).2]),h.2⟩
theorem z_ (g f:Nat->Int) (b c:Nat) (w:World) (hg:qt g=true) (hf:cx f=true) (p:af w b (cH g) 143) (q:af w c (ah f) 25) (i:Nat) (hi:i<3):
 Calls Tryz.prog 108 #[.int .i64 i,.pointer (some ⟨b,0,none⟩),.pointer (some ⟨c,0,none⟩)] w fun e w'=>e=.returned (.tuple #[.int .i64 (cN g f i),.int .i64 0])/\Below w.heap.size w w':=by
 have D:=aa (fun b c t w p q=>xy (mS g i) f b c t w (EZ hg hi) hf p q)
 have CL:=aa (fun w=>E8 g i w hi)
 unfold cN
 generalize gA (d3 (mS g i) f)=X at *
 clear hg hf hi
 go_enter Tryz.func108,Tryz.ntmps108
 go_upto_region 1 with(fail)
 have hB:bl w w:=Below.refl _ _
 refine bV 99 9 rfl ke ?_
 replace p:=p.drew
 replace q:=q.drew
 replace hB:bl w w.drew:=hB.drew
 generalize w.drew=wo at *
 refine aV 0 (.agg (cH g)) rfl rfl ke ke (fun w1 h1=>mh _ _ rfl _ rfl _ _ _ (p.below h1 p.lt) ye rfl rI rfl) ?_
 simp only[Act.put,aL,aM,aN]
 refine ai 1 (.int .i64 i) rfl rfl ke (fun w1=>by go_simp;exact⟨rfl,Below.refl _ _⟩) ?_
 simp only[Act.put,aL,aM,aN]
 refine ai 3 (.slice (some ⟨c,0,none⟩) 3 3) rfl rfl ke (fun w1=>by go_simp;exact⟨rfl,Below.refl _ _⟩) ?_
 simp only[Act.put,aL,aM,aN]
 refine kr 2 rfl rfl ke (fun w1 h1 K hK=>?_)
 go_simp
 refine(CL.out _).mono ?_
 rintro e w2 ⟨nb,rfl,pc,hm⟩
 refine hK _ _ hm ?_
 replace hB:=bl.trans hB (bl.trans h1 hm)
 replace q:=(q.below h1 q.lt).below hm (by have:=q.lt;have:=h1.size;omega)
 clear hK K h1 hm p
 try simp only[Act.put,aL,aM,aN]
 refine aV 4 (.tuple #[.int .i64 X,.int .i64 0]) rfl rfl ke ke (fun w1 h1=>?_) ?_
 ·go_simp
  refine(D.out _ _ _ _ (pc.below h1 pc.lt) (q.below h1 q.lt)).mono ?_
  rintro e w3 ⟨rfl,h2⟩
  exact⟨rfl,h2⟩
 simp only[Act.put,aL,aM,aN]
 refine ai 5 (.int .i64 X) rfl rfl ke (fun w1=>by go_simp;exact⟨rfl,Below.refl _ _⟩) ?_
 simp only[Act.put,aL,aM,aN]
 refine ai 6 (.int .i64 0) rfl rfl ke (fun w1=>by go_simp;exact⟨rfl,Below.refl _ _⟩) ?_
 simp only[Act.put,aL,aM,aN]
 refine ai 7 (.int .i64 X) rfl rfl ke (fun w1=>by go_simp;exact⟨rfl,Below.refl _ _⟩) ?_
 simp only[Act.put,aL,aM,aN]
 refine ai 8 (.int .i64 0) rfl rfl ke (fun w1=>by go_simp;exact⟨rfl,Below.refl _ _⟩) ?_
 simp only[Act.put,aL,aM,aN]
 refine dq ke (fun w3 h3=>?_)
 replace hB:=bl.trans hB h3
 go_wp2_with (fail)
 go_ret2
 exact⟨rfl,hB⟩
theorem tB (x er:Nat->Int) (c1 c2:Value) (w:World)
 (hf:Hid (∀i:Nat,i<3->∀w1,Below w.heap.size w w1->Calls Tryz.prog 108 #[.int .i64 i,c1,c2] w1 fun e w'=>e=.returned (.tuple #[.int .i64 (x i),.int .i64 (er i)])/\Below w1.heap.size w1 w')):
 Calls Tryz.prog 86 #[.bool true,.func (.func 108) #[] #[c1,c2]] w fun e w'=>e=.returned (.tuple #[.agg (ah (dP x er)),.int .i64 (dO x er)])/\Below w.heap.size w w':=by
 go_enter Tryz.func86,Tryz.ntmps86
 go_upto_region 2 with(fail)
 rw[aQ]
 have p:af ((w.alloc (.cells (ah fun _=>0) 25)).alloc (.cells (ah fun _=>0) 25)) w.heap.size (ah fun _=>0) 25:=(af.new _ _ _).alloc _
 have q:af ((w.alloc (.cells (ah fun _=>0) 25)).alloc (.cells (ah fun _=>0) 25)) (w.heap.size+1) (ah fun _=>0) 25:=af.new' sd
 have hB:Below w.heap.size w ((w.alloc (.cells (ah fun _=>0) 25)).alloc (.cells (ah fun _=>0) 25)):=by go_grown
 generalize(w.alloc (.cells (ah fun _=>0) 25)).alloc (.cells (ah fun _=>0) 25)=w0 at *
 go_wp2_with (fail)
 go_loopg [13] 3 (fun g iv wr=>∃k:Nat,g+k=3/\iv=.int .i64 k/\Hid (∀j,j<k->er j=0/\vb (x j)=true)/\af wr w.heap.size (ah fun _=>0) 25/\af wr (w.heap.size+1) (ah (dC x k)) 25/\Below w.heap.size w wr)
 case atStart=>exact⟨0,rfl,rfl,fun j hj=>by omega,p,by rw[show ah (dC x 0)=ah (fun _=>0)from dD fun i _=>by simp[dC]];exact q,hB⟩
 case round=>
  clear p q hB
  obtain⟨k,hk,rfl,hall,p,q,hB⟩:=hrel
  by_cases hkn:k<3
  ·have hdk:decide ((k:Int)<3)=true:=dT oa
   have hdk':decide (k<3)=true:=dT oa
   have hw3:IntKind.i64.wrap ((k:Int)+1)=((k+1:Nat):Int):=by rw[wI];omega
   have W0:=aa (fun w=>ej (x k) w)
   have HC:=aa (hf.out k hkn)
   by_cases he:er k=0
   ·have de:(er k !=0)=false:=by simp[he]
    have HE:=aa he
    obtain⟨b,hb⟩:∃b,vb (x k)=b:=⟨_,rfl⟩
    rw[hb]at W0
    have HVB:=aa hb
    clear hb he
    cases b
    ·have HG:=aa (show ga x er=false from eI hkn (by rintro⟨_,h⟩;rw[HVB.out]at h;cases h))
     go_wp2_with (first
      |(go_at_call 108;refine(HC.out _ hB).mono ?_;rintro e w1 ⟨rfl,hb⟩;replace hB:=hB.trans (hb.mono hB.size);replace p:=p.below hb p.lt;replace q:=q.below hb q.lt;clear hb)
      |(go_at_call 70;refine(W0.out _).mono ?_;rintro e w1 ⟨rfl,rfl⟩)
      |(rw[aQ];refine ag rfl _ _ _ rfl _ rfl _ rfl _ _ p rI (by simp only[ad]) (aG _) ?_))
     refine bodyPost_ret (aq rfl _ _ _ _ _ _ _ rfl (p.row (ah (fun _=>0))) yc rfl rI) rfl ?_;refine⟨?_,Below.setRow hB (ns _) _⟩
     unfold dP dO;rw[HG.out];rfl
    ·go_upto_region 8 with(go_at_call 108;refine(HC.out _ hB).mono ?_;rintro e w1 ⟨rfl,hb⟩;replace hB:=hB.trans (hb.mono hB.size);replace p:=p.below hb p.lt;replace q:=q.below hb q.lt;clear hb)
     have fz:w1.frozen? ⟨w.heap.size+1,k,none⟩=false:=q.free _
     have cz:w1.cell? ⟨w.heap.size+1,k,none⟩=some (.int .i64 (dC x k k)):=q.cellIs (az _ hkn)
     go_wp2_with (go_at_call 70;refine(W0.out _).mono ?_;rintro e w1 ⟨rfl,rfl⟩)
     go_roundg (3-(k+1))
     case rel=>
      refine⟨k+1,oa,rfl,fun j hj=>?_,p.setOther sd _,q.set' (kF hkn ?_ ?_),hB.setCell sd _⟩
      ·by_cases e:j=k
       ·subst e;exact⟨HE.out,HVB.out⟩
       ·exact hall.out j oa
      ·simp[dC]
      ·intro j hj hne;simp only[dC];split<;>split<;>first|rfl|omega
     case measure=>omega
   ·have de:(er k !=0)=true:=by simpa using he
    have HG:=aa (show ga x er=false from eI hkn (by rintro⟨h,_⟩;exact he h))
    clear he
    go_wp2_with (first
     |(go_at_call 108;refine(HC.out _ hB).mono ?_;rintro e w1 ⟨rfl,hb⟩;replace hB:=hB.trans (hb.mono hB.size);replace p:=p.below hb p.lt;replace q:=q.below hb q.lt;clear hb)
     |(rw[aQ];refine ag rfl _ _ _ rfl _ rfl _ rfl _ _ p rI (by simp only[ad]) (aG _) ?_))
    refine bodyPost_ret (aq rfl _ _ _ _ _ _ _ rfl (p.row (ah (fun _=>0))) yc rfl rI) rfl ?_;refine⟨?_,Below.setRow hB (ns _) _⟩
    unfold dP dO;rw[HG.out];rfl
  ·obtain rfl:k=3:=oa
   have HG:=aa ((fO x er).2 hall.out)
   have e3:ah (dC x 3)=ah x:=dD fun i hi=>by simp[dC,hi]
   rw[e3]at q
   go_wp2_with (first|(refine ac ?hw _ _ rfl _ rfl _ _ _ _ q yc rfl ?hi ?_;(case hw=>exact rW);(case hi=>exact rI))|(refine ag rfl _ _ _ rfl _ rfl _ rfl _ _ p rI (by simp only[ad]) (aG _) ?_))
   refine bodyPost_ret (aq rfl _ _ _ _ _ _ _ rfl (p.row (ah x)) yc rfl rI) rfl ?_;refine⟨?_,Below.setRow hB (ns _) _⟩
   unfold dP dO;rw[HG.out];rfl
def jt (g f:Nat->Int):Nat->Int:=if qt g&&cx f then iV (cN g f)else fun _=>0
def p6 (g f:Nat->Int):Int:=if qt g&&cx f then m6 (cN g f)else 2
set_option maxHeartbeats 2000000 in
theorem zt (g f:Nat->Int) (w:World):Calls Tryz.prog 99 #[.agg (cH g),.agg (ah f)] w fun e w'=>e=.returned (.tuple #[.agg (ah (jt g f)),.int .i64 (p6 g f)])/\Below w.heap.size w w':=by
 have V1:=Lib.hid (fun w=>pU g w)
 have V2:=Lib.hid (fun w=>cd f w)
 have hk:∃F E,(qt g=true->cx f=true->F=iV (cN g f)/\E=m6 (cN g f))/\jt g f=(if qt g&&cx f then F else fun _=>0)/\p6 g f=(if qt g&&cx f then E else 2):=⟨_,_,fun _ _=>⟨rfl,rfl⟩,rfl,rfl⟩
 obtain⟨F,E,hk,e1,e2⟩:=hk
 rw[e1,e2]
 clear e1 e2
 have HK:=Lib.hid hk
 clear hk
 obtain⟨bf,hf⟩:∃b,qt g=b:=⟨_,rfl⟩
 obtain⟨bg,hg⟩:∃b,cx f=b:=⟨_,rfl⟩
 rw[hf]at V1 HK|-
 rw[hg]at V2 HK|-
 have HF:=Lib.hid hf
 have HG:=Lib.hid hg
 clear hf hg
 go_enter Tryz.func99,Tryz.ntmps99
 go_upto_region 1 with(fail)
 rw[aQ]
 have p:af (((w.alloc (.cells (cH g) 143)).alloc (.cells (ah f) 25)).alloc (.cells (ah fun _=>0) 25)) w.heap.size (cH g) 143:=((af.new _ _ _).alloc _).alloc _
 have q:af (((w.alloc (.cells (cH g) 143)).alloc (.cells (ah f) 25)).alloc (.cells (ah fun _=>0) 25)) (w.heap.size+1) (ah f) 25:=(af.new' (by simp)).alloc _
 have r:af (((w.alloc (.cells (cH g) 143)).alloc (.cells (ah f) 25)).alloc (.cells (ah fun _=>0) 25)) (w.heap.size+1+1) (ah fun _=>0) 25:=af.new' (by simp)
 have hB:Below w.heap.size w (((w.alloc (.cells (cH g) 143)).alloc (.cells (ah f) 25)).alloc (.cells (ah fun _=>0) 25)):=by go_grown
 generalize((w.alloc (.cells (cH g) 143)).alloc (.cells (ah f) 25)).alloc (.cells (ah fun _=>0) 25)=w0 at *
 cases bf
 ·go_wp2_with (first
   |(refine ac ?hw _ _ rfl _ rfl _ _ _ _ p Tryz.underlying143 rfl ?hi ?_;(case hw=>(first|rfl|(simp[Region.wanted,yielded];done)));(case hi=>(rw[ex];kernel_rfl)))
   |(refine ac ?hw _ _ rfl _ rfl _ _ _ _ q Tryz.underlying25 rfl ?hi ?_;(case hw=>(first|rfl|(simp[Region.wanted,yielded];done)));(case hi=>(rw[ad];kernel_rfl)))
   |(go_at_call 106;with_reducible refine(V1.out _).mono ?_;rintro e w1 ⟨rfl,hb⟩;replace hB:=hB.trans (hb.mono hB.size);replace p:=p.below hb p.lt;replace q:=q.below hb q.lt;replace r:=r.below hb r.lt;clear hb)
   |(go_at_call 32;with_reducible refine(V2.out _).mono ?_;rintro e w1 ⟨rfl,hb⟩;replace hB:=hB.trans (hb.mono hB.size);replace p:=p.below hb p.lt;replace q:=q.below hb q.lt;replace r:=r.below hb r.lt;clear hb)
   |(go_at_call 86;refine(gD _ _).mono ?_;rintro e w2 ⟨rfl,hb⟩;replace hB:=hB.trans (hb.mono hB.size);replace r:=r.below hb r.lt;clear hb)
   |(refine ag rfl _ _ _ rfl _ rfl _ rfl _ _ r (by rw[ad];kernel_rfl) (by simp only[ad]) (aG _) ?_))
  refine bodyPost_ret (aq rfl _ _ _ _ _ _ _ rfl (r.row (ah (fun _=>0))) Tryz.underlying25 rfl (by rw[ad];kernel_rfl)) rfl ?_;refine⟨?_,Below.setRow hB (by omega) _⟩
  rfl
 cases bg
 ·go_wp2_with (first
   |(refine ac ?hw _ _ rfl _ rfl _ _ _ _ p Tryz.underlying143 rfl ?hi ?_;(case hw=>(first|rfl|(simp[Region.wanted,yielded];done)));(case hi=>(rw[ex];kernel_rfl)))
   |(refine ac ?hw _ _ rfl _ rfl _ _ _ _ q Tryz.underlying25 rfl ?hi ?_;(case hw=>(first|rfl|(simp[Region.wanted,yielded];done)));(case hi=>(rw[ad];kernel_rfl)))
   |(go_at_call 106;with_reducible refine(V1.out _).mono ?_;rintro e w1 ⟨rfl,hb⟩;replace hB:=hB.trans (hb.mono hB.size);replace p:=p.below hb p.lt;replace q:=q.below hb q.lt;replace r:=r.below hb r.lt;clear hb)
   |(go_at_call 32;with_reducible refine(V2.out _).mono ?_;rintro e w1 ⟨rfl,hb⟩;replace hB:=hB.trans (hb.mono hB.size);replace p:=p.below hb p.lt;replace q:=q.below hb q.lt;replace r:=r.below hb r.lt;clear hb)
   |(go_at_call 86;refine(gD _ _).mono ?_;rintro e w2 ⟨rfl,hb⟩;replace hB:=hB.trans (hb.mono hB.size);replace r:=r.below hb r.lt;clear hb)
   |(refine ag rfl _ _ _ rfl _ rfl _ rfl _ _ r (by rw[ad];kernel_rfl) (by simp only[ad]) (aG _) ?_))
  refine bodyPost_ret (aq rfl _ _ _ _ _ _ _ rfl (r.row (ah (fun _=>0))) Tryz.underlying25 rfl (by rw[ad];kernel_rfl)) rfl ?_;refine⟨?_,Below.setRow hB (by omega) _⟩
  rfl
 obtain⟨hF,hE⟩:=HK.out rfl rfl
 have HFE:=Lib.hid (And.intro hF hE)
 clear HK hF hE
 go_wp2_with (first
  |(refine ac ?hw _ _ rfl _ rfl _ _ _ _ p Tryz.underlying143 rfl ?hi ?_;(case hw=>(first|rfl|(simp[Region.wanted,yielded];done)));(case hi=>(rw[ex];kernel_rfl)))
  |(refine ac ?hw _ _ rfl _ rfl _ _ _ _ q Tryz.underlying25 rfl ?hi ?_;(case hw=>(first|rfl|(simp[Region.wanted,yielded];done)));(case hi=>(rw[ad];kernel_rfl)))
  |(go_at_call 106;with_reducible refine(V1.out _).mono ?_;rintro e w1 ⟨rfl,hb⟩;replace hB:=hB.trans (hb.mono hB.size);replace p:=p.below hb p.lt;replace q:=q.below hb q.lt;replace r:=r.below hb r.lt;clear hb)
  |(go_at_call 32;with_reducible refine(V2.out _).mono ?_;rintro e w1 ⟨rfl,hb⟩;replace hB:=hB.trans (hb.mono hB.size);replace p:=p.below hb p.lt;replace q:=q.below hb q.lt;replace r:=r.below hb r.lt;clear hb)
  |(go_at_call 86;refine(tB (cN g f) (fun _=>0) _ _ _ (fun i hi wx hx=>z_ g f _ _ wx HF.out HG.out (p.below hx p.lt) (q.below hx q.lt) i hi)).mono ?_;rintro e w2 ⟨rfl,hb⟩;rw[(fC _).1,(fC _).2,<-HFE.out.1,<-HFE.out.2];replace hB:=hB.trans (hb.mono hB.size);replace r:=r.below hb r.lt;clear hb)
  |(refine ag rfl _ _ _ rfl _ rfl _ rfl _ _ r (by rw[ad];kernel_rfl) (by simp only[ad]) (aG _) ?_))
 refine bodyPost_ret (aq rfl _ _ _ _ _ _ _ rfl (r.row (ah F)) Tryz.underlying25 rfl (by rw[ad];kernel_rfl)) rfl ?_;refine⟨?_,Below.setRow hB (by omega) _⟩
 rfl
end Go.Proofs.YtbhahonkhiiilaaGreat
