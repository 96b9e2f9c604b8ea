/-
  Plain arithmetic for the layers fixed, vectors, quats and magnet: nearest integers, floors of square roots, digits to the base 65536. No program in sight. Small laws on blocks of memory that hold a whole array, and the digits of a number as such an array. No function of the program is walked here. A law on a statement whose order of evaluation is open. An operation that gives one value, and only makes memory, in whatever world that has come of the present one by making memory, may be taken first (the library's laws of this kind ask that the world stays as it is, or are for loads alone). Other operations (alloc) are branched over; a forced tail (stores) is walked as it stands. No function of the program is walked here. A second law on a statement whose order of evaluation is open: one of its operations may write to memory that was there. Each of the others gives one value: either in whatever world (then it may come before the writing or behind it), or in whatever world that has come of the present one by making memory (then the writing has to wait for it). Others' operations of Det.lean are used. More ways on in a statement whose order of evaluation is open: two operations, or one, that make memory. Ways on in a statement whose order of evaluation is open, for operations under a guard ('&&'). A law on a statement whose order of evaluation is open and that writes more than once: an operation that gives one value, whatever was written at or above a bound, may be taken first; of the writes is kept what memory holds, by which of them have come up. No function of the program is walked here. Slice literals of integers in a statement whose order stands: the world behind is any in which the block is new. A law on a statement whose order of evaluation is open: operations that make memory, and calls, come up in whatever order; of each one is kept what it gives, and what it gives stays so. No order is branched over. No function of the program is walked here. A component of an array that is held by value. A store of a whole array, as one operation of a statement whose order of evaluation is open.
-/
import Derived.Test.YtbhahonkhiiilaaGreatMc
import Derived.WalkSpells
import Derived.WalkLawsBesides
import Derived.Handy
import Derived.BigQuiet
import Derived.Deep.RegionHeld3
import Derived.StillTail
import Derived.Great.BuildSlice
set_option linter.unusedSimpArgs false
set_option linter.unusedVariables false
namespace Go.Proofs.YtbhahonkhiiilaaGreat
theorem aL {α:Type _} (l:List α) (i:Nat) (a:α):l.toArray.setIfInBounds i a=(l.set i a).toArray:=List.setIfInBounds_toArray ..
theorem aM {α:Type _} {x:α} {xs:List α} {a:α}:(x::xs).set 0 a=a::xs:=rfl
theorem aN {α:Type _} {x:α} {xs:List α} {n:Nat} {a:α}:(x::xs).set (n+1) a=x::xs.set n a:=rfl
theorem Lq {α:Type _} {x:α} {xs:List α} {d:α}:(x::xs).getD 0 d=x:=rfl
theorem K6 {α:Type _} {x:α} {xs:List α} {n:Nat} {d:α}:(x::xs).getD (n+1) d=xs.getD n d:=rfl
end Go.Proofs.YtbhahonkhiiilaaGreat
namespace Go.Proofs.YtbhahonkhiiilaaGreat.PM
def b_ (n d:Int):Int:=(2*n+d)/(2*d)
def eM (a b c:Int):Int:=if c<0 then b_ (-(a*b)) (-c)else b_ (a*b) c
def jA (q:Int):Bool:=decide (-9223372036854775808<=q)&&decide (q<=9223372036854775807)
def dG (q:Int):Int:=if jA q then q else 0
def gu (q:Int):Int:=if jA q then 0 else 7
def bG (a b c:Int):Int:=if c=0 then 0 else dG (eM a b c)
def lx (a b c:Int):Int:=if c=0 then 2 else gu (eM a b c)
def gA (n:Int):Int:=(n+536870912)/1073741824
theorem iN {n d q:Int} (h1:d*q<=n) (h2:n<d*q+d) (hd:0<d):n/d=q:=by
 have a:=Int.mul_ediv_add_emod n d
 have b:=Int.emod_nonneg n (Int.ne_of_gt hd)
 have c:=Int.emod_lt_of_pos n hd
 have e:d* (n/d)=d*q+(n-n % d-d*q):=oa
 rcases Int.lt_trichotomy (n/d) q with h|h|h
 ·have:=mL (show n/d+1<=q by omega) (Int.le_of_lt hd)
  rw[Int.mul_add]at this;omega
 ·exact h
 ·have:=mL (show q+1<=n/d by omega) (Int.le_of_lt hd)
  rw[Int.mul_add]at this;omega
theorem t8 (c q r:Int) (hc:0<c) (h0:0<=r) (h1:r<c):
 b_ (c*q+r) c=if c<=2*r then q+1 else q:=by
 unfold b_
 split
 ·apply iN
  ·grind
  ·grind
  ·omega
 ·apply iN
  ·grind
  ·grind
  ·omega
theorem t7 (c q r:Int) (hc:0<c) (h0:0<=r) (h1:r<c):
 b_ (-(c*q+r)) c=if c<2*r then-(q+1)else-q:=by
 unfold b_
 split
 ·apply iN
  ·grind
  ·grind
  ·omega
 ·apply iN
  ·grind
  ·grind
  ·omega
theorem Aa {a b c A B C q r:Int} (neg:Bool) (hC:0<C) (ha:A=a\/A=-a) (hb:B=b\/B=-b) (hc:C=c\/C=-c)
 (h0:0<=A) (h1:0<=B) (hq:A*B=C*q+r) (hr0:0<=r) (hr1:r<C)
 (hn:neg=((decide (a<0) !=decide (b<0)) !=decide (c<0))):
 eM a b c=(if neg then-(q+if C<2*r then 1 else 0)else q+if C<=2*r then 1 else 0):=by
 have key:eM a b c=if neg then b_ (-(A*B)) C else b_ (A*B) C:=by
  unfold eM
  subst hn
  by_cases ha0:a<0<;>by_cases hb0:b<0<;>by_cases hc0:c<0<;>simp only[ha0,hb0,hc0,decide_true,decide_false,bne_self_eq_false,if_true,if_false,Bool.false_eq_true,Bool.true_bne,Bool.false_bne,Bool.bne_true,Bool.bne_false,Bool.not_true,Bool.not_false]
  all_goals
   have eA:A=if a<0 then-a else a:=by split<;>omega
   have eB:B=if b<0 then-b else b:=by split<;>omega
   have eC:C=if c<0 then-c else c:=by split<;>omega
   simp only[ha0,hb0,hc0,if_true,if_false]at eA eB eC
   rw[eA,eB,eC]
   try simp only[Int.neg_mul,Int.mul_neg,Int.neg_neg]
 rw[key,hq]
 cases neg
 ·simp only[Bool.false_eq_true,if_false];rw[t8 C q r hC hr0 hr1];split<;>omega
 ·simp only[if_true];rw[t7 C q r hC hr0 hr1];split<;>omega
/-! ###The division of two words by one (bits.Div64):plain numbers. V=V1 2^32+V0 is the divisor,shifted so that V1 is at least 2^31. -/
theorem uD {V1 V0 n u q r:Nat} (h:n=q*V1+r):
 (4294967296*r+u<q*V0)↔(n*4294967296+u<q* (V1*4294967296+V0)):=by
 subst h;grind
theorem x9 {V1 V0 n u q r:Nat} (h:n=q*V1+r) (ht:4294967296*r+u<q*V0):
 (n*4294967296+u)/(V1*4294967296+V0)<q:=by
 have:=(uD (u:=u) (V0:=V0) h).1 ht
 exact(Nat.div_lt_iff_lt_mul (by grind)).2 this
theorem wy {V1 V0 n u q r:Nat} (hV:0<V1) (h:n=q*V1+r) (ht:¬4294967296*r+u<q*V0):
 q<=(n*4294967296+u)/(V1*4294967296+V0):=by
 have:=mt (uD (u:=u) (V0:=V0) h).2 ht
 exact(Nat.le_div_iff_mul_le oa).2 oa
theorem rx {V1 V0 n u:Nat} (hV:0<V1) (hu:u<4294967296):
 (n*4294967296+u)/(V1*4294967296+V0)<=n/V1:=by
 have h1:=Nat.div_add_mod n V1
 have h2:=Nat.mod_lt n hV
 apply Nat.le_of_lt_succ
 rw[Nat.div_lt_iff_lt_mul oa]
 generalize n/V1=q at *;generalize n % V1=r at *
 subst h1
 have:(V1*q+r+1)*4294967296<=(V1*q+V1)*4294967296:=Nat.mul_le_mul_right _ oa
 grind
theorem l7 {V1 V0 n:Nat} (hV:2147483648<=V1) (h0:V0<4294967296) (hn:n<V1*4294967296+V0):n/V1<=4294967297:=by
 apply Nat.le_of_lt_succ
 rw[Nat.div_lt_iff_lt_mul oa]
 omega
theorem mj {V1 V0 n u:Nat} (hu:u<4294967296) (hn:n<V1*4294967296+V0):
 (n*4294967296+u)/(V1*4294967296+V0)<4294967296:=by
 rw[Nat.div_lt_iff_lt_mul oa];omega
theorem FE {V n u1 u0:Nat} (hV:0<V):
 (n*18446744073709551616+(u1*4294967296+u0))/V=(n*4294967296+u1)/V*4294967296+((n*4294967296+u1) % V*4294967296+u0)/V/\
 (n*18446744073709551616+(u1*4294967296+u0)) % V=((n*4294967296+u1) % V*4294967296+u0) % V:=by
 obtain⟨m,hm⟩:∃m,m=n*4294967296+u1:=⟨_,rfl⟩
 have h1:=Nat.div_add_mod m V
 obtain⟨q,hq⟩:∃q,q=m/V:=⟨_,rfl⟩
 obtain⟨r,hr⟩:∃r,r=m % V:=⟨_,rfl⟩
 rw[<-hm,<-hq,<-hr]
 rw[<-hq,<-hr]at h1
 have e:n*18446744073709551616+(u1*4294967296+u0)=(r*4294967296+u0)+V* (q*4294967296):=by grind
 rw[e,Nat.add_mul_div_left _ _ hV,Nat.add_mul_mod_self_left]
 exact⟨oa,rfl⟩
theorem zZ {N y k:Nat} (hk:0<k):N*k/(y*k)=N/y/\N*k % (y*k)/k=N % y:=by
 refine⟨Nat.mul_div_mul_right _ _ hk,?_⟩
 rw[Nat.mul_mod_mul_right,Nat.mul_div_cancel _ hk]
/-! ###The floor of a square root-/
def eH:Nat->Nat->Nat
 |0,_=>0
 |f+1,n=>if(2*eH f (n/4)+1)* (2*eH f (n/4)+1)<=n then 2*eH f (n/4)+1 else 2*eH f (n/4)
def fY (n:Nat):Nat:=eH 200 n
theorem kX:∀(f n:Nat),n<4^f->eH f n*eH f n<=n/\n<(eH f n+1)* (eH f n+1)
 |0,n,h=>by simp[eH];simp at h;omega
 | f+1,n,h=>by
   have ih:=kX f (n/4) (by rw[Nat.pow_succ]at h;omega)
   unfold eH
   generalize eH f (n/4)=r at *
   obtain⟨h1,h2⟩:=ih
   generalize hm:n/4=m at *
   have e1:4*m<=n:=oa
   have e2:n<4*m+4:=oa
   have e3:m+1<=(r+1)* (r+1):=h2
   split
   ·refine⟨by assumption,?_⟩
    have:(2*r+1+1)* (2*r+1+1)=4* ((r+1)* (r+1)):=by grind
    omega
   ·refine⟨?_,oa⟩
    have:2*r* (2*r)=4* (r*r):=by grind
    omega
theorem lB {n:Nat} (h:n<4^200):fY n*fY n<=n/\n<(fY n+1)* (fY n+1):=kX 200 n h
theorem mf {a b:Nat} (h:a*a<b*b):a<b:=by
 apply Nat.lt_of_not_le;intro h2
 have:=Nat.mul_le_mul h2 h2;omega
theorem BR {n r:Nat} (h:n<4^200) (h1:r*r<=n) (h2:n<(r+1)* (r+1)):fY n=r:=by
 obtain⟨a,b⟩:=lB h
 have x:=mf (Nat.lt_of_le_of_lt a h2)
 have y:=mf (Nat.lt_of_le_of_lt h1 b)
 omega
theorem fc {n k:Nat} (h:n<4^200):fY n<k↔n<k*k:=by
 obtain⟨a,b⟩:=lB h
 constructor
 ·intro hk
  exact nq b (Nat.mul_le_mul hk hk)
 ·intro hk
  exact mf (Nat.lt_of_le_of_lt a hk)
theorem gN {n k:Nat} (h:n<4^200):k<=fY n↔k*k<=n:=by
 have:=fc (k:=k) h;omega
/-! ###Digits to the base 65536-/
/-! Half. -/
/-! Sums with a factor (long multiplication). -/
/-! Differences. -/
/-! Comparing. -/
end Go.Proofs.YtbhahonkhiiilaaGreat.PM
namespace Go.Proofs.YtbhahonkhiiilaaGreat
open Go.RowKit
variable{P:Program}
def af (w:World) (b:Nat) (c:Array Value) (t:TypeId):Prop:=w.heap[b]?=some (.cells c t (0,0))
theorem af.lt {w:World} {b:Nat} {c:Array Value} {t:TypeId} (h:af w b c t):b<w.heap.size:=by
 unfold af at h
 exact(Array.getElem?_eq_some_iff.1 h).1
theorem af.new (w:World) (c:Array Value) (t:TypeId):af (w.alloc (.cells c t)) w.heap.size c t:=heap_alloc_new w _
theorem af.new' {w:World} {c:Array Value} {t:TypeId} {b:Nat} (h:b=w.heap.size):af (w.alloc (.cells c t)) b c t:=by subst h;exact heap_alloc_new w _
theorem af.alloc {w:World} {b:Nat} {c:Array Value} {t:TypeId} (h:af w b c t) (o:Obj):af (w.alloc o) b c t:=by
 have:=h.lt
 unfold af at *
 rw[Below.heap_alloc _ _ _ this];exact h
theorem af.drew {w:World} {b:Nat} {c:Array Value} {t:TypeId} (h:af w b c t):af w.drew b c t:=h
theorem af.set {w:World} {b:Nat} {c:Array Value} {t:TypeId} (h:af w b c t) (i:Nat) (v:Value):af (w.setCell ⟨b,i,none⟩ v) b (c.setIfInBounds i v) t:=heap_setCell_same w b i c t v h
theorem af.set' {w:World} {b:Nat} {c c':Array Value} {t:TypeId} (h:af w b c t) {i:Nat} {v:Value} (hc:c.setIfInBounds i v=c'):af (w.setCell ⟨b,i,none⟩ v) b c' t:=by subst hc;exact h.set i v
theorem af.setOther {w:World} {b:Nat} {c:Array Value} {t:TypeId} (h:af w b c t) {a:Addr} (ha:b≠a.block) (v:Value):af (w.setCell a v) b c t:=by
 unfold af at *
 rw[heap_setCell_other _ _ _ _ ha];exact h
theorem af.row {w:World} {b:Nat} {c:Array Value} {t:TypeId} (h:af w b c t) (c':Array Value):af (w.setRow b c') b c' t:=setRow_heap w b c c' t _ h
theorem af.rowOther {w:World} {b:Nat} {c:Array Value} {t:TypeId} (h:af w b c t) {g:Nat} (hg:b≠g) (c':Array Value):af (w.setRow g c') b c t:=by
 unfold af at *
 rw[setRow_other _ _ _ _ hg];exact h
theorem af.cell {w:World} {b:Nat} {c:Array Value} {t:TypeId} (h:af w b c t) (i:Nat):w.cell? ⟨b,i,none⟩=c[i]?:=cell_of_row w b i c t _ h
theorem af.cellIs {w:World} {b:Nat} {c:Array Value} {t:TypeId} (h:af w b c t) {i:Nat} {v:Value} (hv:c[i]?=some v):w.cell? ⟨b,i,none⟩=some v:=(h.cell i).trans hv
theorem af.free {w:World} {b:Nat} {c:Array Value} {t:TypeId} (h:af w b c t) (i:Nat):w.frozen? ⟨b,i,none⟩=false:=frozen_of_row w b i c t h
theorem af.below {w w':World} {b B:Nat} {c:Array Value} {t:TypeId} (h:af w b c t) (hb:Below B w w') (hB:b<B):af w' b c t:=by
 unfold af at *
 rw[hb.block b hB];exact h
theorem Below.setRow {B:Nat} {a w:World} (h:Below B a w) {g:Nat} (hB:B<=g) (c:Array Value):Below B a (w.setRow g c):=
 h.trans ⟨rfl,rfl,rfl,by simp,fun k hk=>setRow_other _ _ _ _ oa⟩
theorem ag {ops:Array Oper} {rest:List Oper} {o:Oper} {a:Act} {w:World} {Q:Exit->Act->World->Prop} (hgd:o.guard=none) (ty:TypeId) (x y:Operand) (ho:o.op=.store ty x y)
 (g:Nat) (hx:a.eval x=.pointer (some ⟨g,0,none⟩)) (c':Array Value) (hy:a.eval y=.agg c') (t:TypeId) (c:Array Value) (hg:af w g c t)
 (hi:(P.info? ty).map (·.size)=some c'.size) (hs:c.size=c'.size) (h1:c'.all (·.oneCell')=true)
 (h:wpList P ops Q rest (a.put o.dst undef) (w.setRow g c')):wpList P ops Q (o::rest) a w:=
 wpList_plain hgd fun _ hK=>by
  unfold Oper.wp execOp
  simp only[ho,hx,hy,Instr.storeAt,Instr.sureAddr,Sem.run_bind,Sem.run_pure,Result.andThen_ok,run_storeVar_row w g t ty c c' hg hi hs h1]
  exact hK _ _ h
def Lx (f:Nat->Nat):Array Value:=((List.range 17).map fun i=>Value.int .u64 (f i:Nat)).toArray
theorem gP {j k:IntKind} {a b c d:Int} (h1:a=c) (h2:b=d):Ending.returned (.tuple #[.int j a,.int k b])=Ending.returned (.tuple #[.int j c,.int k d]):=by rw[h1,h2]
theorem ju {q:Int} (h:PM.jA q=false):PM.dG q=0:=by unfold PM.dG;rw[h];rfl
theorem iO {q:Int} (h:PM.jA q=false):PM.gu q=7:=by unfold PM.gu;rw[h];rfl
theorem jP {q:Int} (h:PM.jA q=true):PM.dG q=q:=by unfold PM.dG;rw[h];rfl
theorem lJ {q:Int} (h:PM.jA q=true):PM.gu q=0:=by unfold PM.gu;rw[h];rfl
def qx (neg:Bool) (n:Nat):Int:=if neg then-(n:Int)else n
section
variable{P:Program}
theorem ja {e:TypeId} {k:IntKind} (he:P.underlying e=some (.int k)) (f g:Nat->Int) (xs ys:Array Value) (d:Nat) (w:World):
 ∀(l:List Nat),(∀j∈l,xs[j]?=some (.int k (f j)))->(∀j∈l,ys[j]?=some (.int k (g j)))->
 (Op.eqItems (d+1) e 1 xs ys l).run P w=.ok (l.all fun j=>f j==g j) w
 |[],_,_=>by simp[Op.eqItems]
 | j::l,hx,hy=>by
   have px:(part e xs (j*1)).run P w=.ok (.int k (f j)) w:=by
    simp[part,isAgg,run_underlying he,hx j sd]
   have py:(part e ys (j*1)).run P w=.ok (.int k (g j)) w:=by
    simp[part,isAgg,run_underlying he,hy j sd]
   have pe:=run_equalIn_int (P:=P) w d e k k (f j) (g j) he
   simp only[Op.eqItems,Sem.run_bind,px,py,pe,Result.andThen_ok,List.all_cons]
   cases hb:(f j==g j)
   ·simp
   ·simpa using ja he f g xs ys d w l (fun i hi=>hx i (by simp[hi])) (fun i hi=>hy i (by simp[hi]))
theorem fg {t e:TypeId} {n:Nat} {k:IntKind} {i:TypeInfo} (hu:P.underlying t=some (.array n e)) (hi:P.info? e=some i) (hc:P.cellsOf e=1) (he:P.underlying e=some (.int k))
 (f g:Nat->Int) (xs ys:Array Value) (hx:∀j,j<n->xs[j]?=some (.int k (f j))) (hy:∀j,j<n->ys[j]?=some (.int k (g j))) (d:Nat) (w:World):
 (Op.equalIn (d+2) t (.agg xs) (.agg ys)).run P w=.ok ((List.range n).all fun j=>f j==g j) w:=by
 rw[run_equalIn_array w (d+1) xs ys hu hi,hc]
 exact ja he f g xs ys d w _ (fun j hj=>hx j (List.mem_range.1 hj)) (fun j hj=>hy j (List.mem_range.1 hj))
end
attribute [irreducible] Lx
end Go.Proofs.YtbhahonkhiiilaaGreat
namespace Go.Proofs.YtbhahonkhiiilaaGreat.Dt
open Go Go.RowKit
section
variable{P:Program} {ops:Array Oper} {md:Region.Mode} {S:World->Prop}
def gU (P:Program) (S:World->Prop) (v:Value):Result Next->Prop
 |.ok (.value u) w=>u=v/\S w
 |.ok .skip w=>v=undef/\S w
 |.ok (.enter f args) w=>Calls P f args w fun e w'=>e=.returned v/\S w'
 |_=>False
abbrev bl (w w':World):Prop:=Below w.heap.size w w'
theorem bl.trans {a b c:World} (h:bl a b) (k:bl b c):bl a c:=Below.trans h (Below.mono k h.size)
def jI (P:Program) (ops:Array Oper) (o:Oper) (v:Value) (a:Act) (w:World):Prop:=
 (Region.wanted o (yielded ops a.tmps)=true/\∀w1,bl w w1->gU P (bl w1) v ((execOp a.eval o).run P w1))\/
 (Region.wanted o (yielded ops a.tmps)=false/\v=undef)
theorem jI.of_same {o:Oper} {v:Value} {a a':Act} {w:World} (hy:jI P ops o v a w) (he:execOp a'.eval o=execOp a.eval o)
 (hw:Region.wanted o (yielded ops a'.tmps)=Region.wanted o (yielded ops a.tmps)):jI P ops o v a' w:=by
 unfold jI at *
 rw[he,hw]
 exact hy
theorem jI.more {o:Oper} {v:Value} {a:Act} {w w':World} (hy:jI P ops o v a w) (h:bl w w'):jI P ops o v a w':=by
 rcases hy with⟨hw,hv⟩|hy
 ·exact .inl ⟨hw,fun w1 h1=>hv w1 (h.trans h1)⟩
 ·exact .inr hy
def qy:Exit->Act->World->Prop:=fun _ _ _=>False
theorem jV {Q:Exit->Act->World->Prop} {i:Nat} {K:Act->World->Prop} {a:Act} {w:World} (h:wpOp P ops qy i K a w):wpOp P ops Q i K a w:=by
 unfold wpOp at *
 cases ho:ops[i]? with
 |none=>simp only[ho]at h|-;exact h
 | some o=>
   simp only[ho]at h|-
   split
   ·rename_i hw
    simp only[hw,if_true]at h
    rcases h with h|⟨_,_,_,h⟩
    ·left
     unfold Oper.wp at *
     generalize(execOp a.eval o).run P w=r at *
     cases r with
     | ok n w'=>
       cases n<;>simp only[Oper.upon]at h|-<;>try exact h
       case enter f args=>
        refine Calls.mono h fun e w'' he=>?_
        cases e with
        |returned u=>exact he
        |panicked c=>exact he.elim
        |outgrown=>obtain⟨_,_,he⟩:=he;exact he.elim
     | halt x w'=>
       cases x<;>simp only[Oper.upon]at h|-
       exact h.elim
    ·exact h.elim
   ·rename_i hw
    simp only[hw]at h
    exact h
theorem jI.wpOp {i:Nat} {o:Oper} {v:Value} {a:Act} {w:World} (hi:ops[i]?=some o) (hy:jI P ops o v a w)
 {K:Act->World->Prop} (h:∀w',bl w w'->K (a.put o.dst v) w'):wpOp P ops qy i K a w:=by
 unfold Go.wpOp
 simp only[hi]
 rcases hy with⟨hw,hv⟩|⟨hw,rfl⟩
 ·simp only[hw,if_true]
  left
  have:=hv w (Below.refl _ _)
  unfold Oper.wp
  generalize(execOp a.eval o).run P w=r at *
  cases r with
  | ok n w'=>
    cases n<;>simp only[gU]at this<;>simp only[Oper.upon]
    case value u=>obtain⟨rfl,hs⟩:=this;exact h _ hs
    case skip=>obtain⟨rfl,hs⟩:=this;exact h _ hs
    case enter f args=>
     refine Calls.mono this fun e w'' he=>?_
     obtain⟨rfl,hs⟩:=he
     exact h _ hs
  |halt x w'=>exact this.elim
 ·simp only[hw,Bool.false_eq_true,if_false];exact h _ (Below.refl _ _)
theorem rN {j:Nat} {oi oj:Oper} {v:Value} (hj:ops[j]?=some oj) (hap:oi.apart ops oj=true)
 (hsi:∀cs b,oi.op≠.select cs b) (hsj:∀cs b,oj.op≠.select cs b) {K:Act->World->Prop} {a:Act} {w:World}
 (hy:jI P ops oi v a w) (h:wpOp P ops qy j K (a.put oi.dst v) w):
 wpOp P ops qy j (fun a' w'=>jI P ops oi v a' w/\K (a'.put oi.dst v) w') a w:=by
 obtain⟨h1,h2,h3⟩:=Oper.apart_spec hap
 have keep:∀(a:Act),jI P ops oi v a w->∀u,jI P ops oi v (a.put oj.dst u) w:=fun a hy u=>
  hy.of_same (execOp_put oi hsi a oj.dst u h3) (wanted_put oi a oj.dst u h3)
 have keepD:∀d,jI P ops oi v {a with defers:=d::a.defers} w:=fun d=>hy.of_same rfl rfl
 unfold Go.wpOp at *
 simp only[hj]at *
 rw[wanted_put oj a oi.dst v h1]at h
 split
 ·rename_i hw
  simp only[hw,if_true]at h
  rcases h with h|⟨_,_,_,h⟩
  case inr=>exact h.elim
  left
  unfold Oper.wp at *
  rw[execOp_put oj hsj a oi.dst v h1]at h
  generalize(execOp a.eval oj).run P w=r at *
  cases r with
  | ok n w'=>
    cases n<;>simp only[Oper.upon]at h|-
    case value u=>exact⟨keep a hy u,by rw[<-Act.put_comm a v u h2];exact h⟩
    case skip=>exact⟨keep a hy _,by rw[<-Act.put_comm a v undef h2];exact h⟩
    case defer d=>
     refine⟨keep _ (keepD d) _,?_⟩
     rw[<-Act.put_comm _ v undef h2,<-Act.put_defers]
     exact h
    case enter f args=>
     refine Calls.mono h fun e w'' he=>?_
     cases e with
     |returned u=>exact⟨keep a hy u,by rw[<-Act.put_comm a v u h2];exact he⟩
     |panicked c=>exact he.elim
     |outgrown=>obtain⟨_,_,he⟩:=he;exact he.elim
    case row row args=>exact Rows.mono h fun u w'' he=>⟨keep a hy u,by rw[<-Act.put_comm a v u h2];exact he⟩
  | halt x w'=>
    cases x<;>simp only[Oper.upon]at h|-
    exact h.elim
 ·rename_i hw
  simp only[hw]at h
  exact⟨keep a hy _,by rw[<-Act.put_comm a v undef h2];exact h⟩
def GW (P:Program) (md:Region.Mode) (ops:Array Oper) (n:Nat) (L:Array Bool->Act->World->Prop):Nat->Array Bool->Act->World->Prop
 |0,listed,a,w=>∀w1,bl w w1->L listed a w1
 | f+1,listed,a,w=>∀w1,bl w w1->
   Region.ready md ops listed≠[]/\∀i∈Region.ready md ops listed,i<n/\wpOp P ops qy i (fun a' w'=>bl w1 w'/\GW P md ops n L f (listed.setIfInBounds i true) a' w') a w1
theorem GW.more {n:Nat} {L:Array Bool->Act->World->Prop} {f:Nat} {listed:Array Bool} {a:Act} {w w':World} (h:GW P md ops n L f listed a w) (hm:bl w w'):GW P md ops n L f listed a w':=by
 cases f with
 |zero=>exact fun w1 h1=>h w1 (hm.trans h1)
 |succ f=>exact fun w1 h1=>h w1 (hm.trans h1)
theorem pS {n g:Nat} {L:Array Bool->Act->World->Prop} {Q:Exit->Act->World->Prop} (hL:∀listed a w,L listed a w->wpAny P md ops Q g listed a w):
 ∀(f:Nat) (listed:Array Bool) (a:Act) (w:World),GW P md ops n L f listed a w->wpAny P md ops Q (f+g) listed a w
 |0,listed,a,w,h=>by rw[Nat.zero_add];exact hL _ _ _ (h w (Below.refl _ _))
 | f+1,listed,a,w,h=>by
   rw[show f+1+g=(f+g)+1 by omega]
   have h:=h w (Below.refl _ _)
   exact⟨fun h0=>absurd h0 h.1,fun i hi=>jV (wpOp_mono (fun a' w' h'=>pS hL f _ a' w' h'.2) (h.2 i hi).2)⟩
theorem zm {n i:Nat} {oi:Oper} {v:Value} {L:Array Bool->Act->World->Prop} (hi:ops[i]?=some oi) (hsel:∀(j:Nat) (o:Oper) cs b,ops[j]?=some o->o.op≠.select cs b)
 (hs:Region.sinkB md ops n=true) (hc:Region.chainB md ops n=true) (hn:n<ops.size) (hin:i<n)
 (hdone:∀listed a w,L listed a w->∀j∈Region.ready md ops listed,n<=j):
 ∀(f:Nat) (listed:Array Bool) (a:Act) (w:World),HeadInv md ops n listed->
  (∀j oj,ops[j]?=some oj->j≠i->listed.getD j true=false->(∀e∈oj.after,Region.binds md e=true->e.on≠i)->oi.apart ops oj=true)->
  i∈Region.ready md ops listed->jI P ops oi v a w->
  GW P md ops n L f (listed.setIfInBounds i true) (a.put oi.dst v) w->GW P md ops n L (f+1) listed a w:=by
 intro f
 induction f with
 | zero=>
   intro listed a w inv _ hr hy H
   have hun:=(mem_ready.1 hr).1
   intro w1 h1
   refine⟨fun h=>(by rw[h]at hr;cases hr),fun j hj=>?_⟩
   have hjn:j<n:=by
    rcases Nat.lt_or_ge j n with h|h
    ·exact h
    ·exact absurd hj (tail_waits hs hc hn inv _ i rfl hin hun j h)
   refine⟨hjn,?_⟩
   by_cases hji:j=i
   ·subst hji;exact(hy.more h1).wpOp hi fun w' hS'=>⟨hS',H.more (h1.trans hS')⟩
   ·have:=hdone _ _ _ (H w1 h1) j (ready_mono hj hji)
    omega
 | succ f ih=>
   intro listed a w inv hfree hr hy H
   have hun:=(mem_ready.1 hr).1
   intro w1 h1
   refine⟨fun h=>(by rw[h]at hr;cases hr),fun j hj=>?_⟩
   have hjn:j<n:=by
    rcases Nat.lt_or_ge j n with h|h
    ·exact h
    ·exact absurd hj (tail_waits hs hc hn inv _ i rfl hin hun j h)
   refine⟨hjn,?_⟩
   by_cases hji:j=i
   ·subst hji;exact(hy.more h1).wpOp hi fun w' hS'=>⟨hS',H.more (h1.trans hS')⟩
   ·have h2:=((H w1 h1).2 j (ready_mono hj hji)).2
    obtain⟨hjun,oj,hoj,hall⟩:=mem_ready.1 hj
    have hnot:∀e∈oj.after,Region.binds md e=true->e.on≠i:=fun e he hb heq=>by
     have h1:=hall e he hb
     rw[heq,getD_both hun]at h1
     cases h1
    have h3:=rN hoj (hfree j oj hoj hji hjun hnot) (fun cs b=>hsel i oi cs b hi) (fun cs b=>hsel j oj cs b hoj) (hy.more h1) h2
    have hfree':∀k ok,ops[k]?=some ok->k≠i->(listed.setIfInBounds j true).getD k true=false->
     (∀e∈ok.after,Region.binds md e=true->e.on≠i)->oi.apart ops ok=true:=fun k ok hk hki hun hno=>by
     refine hfree k ok hk hki ?_ hno
     by_cases hjk:j=k
     ·subst hjk;exact hjun
     ·rw[getD_set_ne true hjk]at hun;exact hun
    refine wpOp_mono (fun a' w' h4=>⟨h4.2.1,ih (listed.setIfInBounds j true) a' w' (inv.set hj hjn) hfree' (ready_mono hr (Ne.symm hji)) (h4.1.more h4.2.1) ?_⟩) h3
    rw[Array.setIfInBounds_comm _ _ hji]
    exact h4.2.2
def oR (P:Program) (ops:Array Oper) (n:Nat) (Q:Exit->Act->World->Prop) (f:Nat) (listed:Array Bool) (a:Act) (w:World):Prop:=
 HeadInv .any ops n listed->GW P .any ops n (fun listed' a' w'=>Region.seqB .any ops (ops.size-n) n listed'=true/\wpList P ops Q (ops.toList.drop n) a' w') f listed a w
def ER (ops:Array Oper) (n:Nat):Bool:=Region.noSelect ops&&decide (n<ops.size)&&Region.sinkB .any ops n&&Region.chainB .any ops n
def DS (ops:Array Oper) (n i:Nat) (listed:Array Bool):Bool:=
 ER ops n&&decide (i<n)&&(Region.ready .any ops listed).contains i&&Region.free .any ops listed i
theorem ao {l:List Oper} {n:Nat} {Q:Exit->Act->World->Prop} {f:Nat} {listed:Array Bool} {a:Act} {w:World} (i:Nat) {o:Oper} (v:Value) (ho':l[i]?=some o) (hg:o.guard=none)
 (hB:DS l.toArray n i listed=true) (h:∀w1,bl w w1->gU P (bl w1) v ((execOp a.eval o).run P w1))
 (h2:oR P l.toArray n Q f (listed.setIfInBounds i true) (a.put o.dst v) w):oR P l.toArray n Q (f+1) listed a w:=by
 have ho:l.toArray[i]?=some o:=by simpa using ho'
 intro inv
 simp only[DS,ER,Bool.and_eq_true,decide_eq_true_eq]at hB
 obtain⟨⟨⟨⟨⟨⟨hsel,hn⟩,hs⟩,hc⟩,hin⟩,hr⟩,hf⟩:=hB
 have hr':i∈Region.ready .any l.toArray listed:=by simpa using hr
 exact zm ho (Region.noSelect_spec hsel) hs hc hn hin (fun listed' a' w' hL=>seqB_ready hL.1) f listed a w inv (Region.free_spec ho hf) hr'
  (.inl ⟨by simp[Region.wanted,hg],h⟩) (h2 (inv.set hr' hin))
theorem kh {l:List Oper} {n:Nat} {Q:Exit->Act->World->Prop} {f:Nat} {listed:Array Bool} {a:Act} {w:World} (i:Nat) {o:Oper} (ho':l[i]?=some o) (hg:o.guard=none) (hin:i<n)
 (hr:Region.ready .any l.toArray listed=[i])
 (h:∀w1,bl w w1->∀K:Act->World->Prop,(∀a' w',bl w1 w'->oR P l.toArray n Q f (listed.setIfInBounds i true) a' w'->K a' w')->o.wp P a w1 K qy):oR P l.toArray n Q (f+1) listed a w:=by
 have ho:l.toArray[i]?=some o:=by simpa using ho'
 intro inv w1 h1
 refine⟨by rw[hr];simp,fun j hj=>?_⟩
 have hj':=hj
 rw[hr]at hj
 have:j=i:=by simpa using hj
 subst this
 refine⟨hin,?_⟩
 unfold Go.wpOp
 simp only[ho,Region.wanted,hg,if_true]
 exact .inl (h w1 h1 _ fun a' w' hm hx=>⟨hm,hx (inv.set hj' hin)⟩)
theorem sO {l:List Oper} {n:Nat} {Q:Exit->Act->World->Prop} {f:Nat} {listed:Array Bool} {a:Act} {w:World} (i j:Nat) {oi oj:Oper} (hoi':l[i]?=some oi) (hgi:oi.guard=none) (hoj':l[j]?=some oj) (hgj:oj.guard=none) (hin:i<n) (hjn:j<n)
 (hr:Region.ready .any l.toArray listed=[i,j])
 (h1:∀w1,bl w w1->∀K:Act->World->Prop,(∀a' w',bl w1 w'->oR P l.toArray n Q f (listed.setIfInBounds i true) a' w'->K a' w')->oi.wp P a w1 K qy)
 (h2:∀w1,bl w w1->∀K:Act->World->Prop,(∀a' w',bl w1 w'->oR P l.toArray n Q f (listed.setIfInBounds j true) a' w'->K a' w')->oj.wp P a w1 K qy):oR P l.toArray n Q (f+1) listed a w:=by
 have hoi:l.toArray[i]?=some oi:=by simpa using hoi'
 have hoj:l.toArray[j]?=some oj:=by simpa using hoj'
 intro inv w1 hm1
 refine⟨by rw[hr];simp,fun k hk=>?_⟩
 have hk':=hk
 rw[hr]at hk
 have:k=i\/k=j:=by simpa using hk
 rcases this with rfl|rfl
 ·refine⟨hin,?_⟩
  unfold Go.wpOp
  simp only[hoi,Region.wanted,hgi,if_true]
  exact .inl (h1 w1 hm1 _ fun a' w' hm hx=>⟨hm,hx (inv.set hk' hin)⟩)
 ·refine⟨hjn,?_⟩
  unfold Go.wpOp
  simp only[hoj,Region.wanted,hgj,if_true]
  exact .inl (h2 w1 hm1 _ fun a' w' hm hx=>⟨hm,hx (inv.set hk' hjn)⟩)
theorem d8 {n:Nat} {Q:Exit->Act->World->Prop} {listed:Array Bool} {a:Act} {w:World} (hB:Region.seqB .any ops (ops.size-n) n listed=true)
 (h:∀w1,bl w w1->wpList P ops Q (ops.toList.drop n) a w1):oR P ops n Q 0 listed a w:=fun _ w1 h1=>⟨hB,h w1 h1⟩
theorem dx {id:Nat} {Q:Exit->Act->World->Prop} {a:Act} {w:World} {l:List Oper} (n:Nat) (hm:P.follows .mixedOrders=true) (hB:ER l.toArray n=true)
 (h:oR P l.toArray n Q n (Array.replicate l.toArray.size false) a w.drew):(Code.region id l.toArray true).wp P Q a w:=by
 simp only[ER,Bool.and_eq_true,decide_eq_true_eq]at hB
 obtain⟨⟨⟨hsel,hn⟩,hs⟩,hc⟩:=hB
 have hn':n<l.length:=by simpa using hn
 have hdl:(l.drop n).length=l.toArray.size-n:=by simp
 have inv0:HeadInv .any l.toArray n (Array.replicate l.toArray.size false):=
  ⟨by simp,fun j oj _ hl=>(by rw[getD_replicate_false]at hl;cases hl),fun t _ ht=>getD_in (by simpa using ht) (getD_replicate_false _ _)⟩
 refine wp_region_any hm ?_
 have:=pS (Q:=Q) (g:=l.toArray.size-n) (fun listed a' w' hL=>by
  have:=wpAny_of_seq (md:=.any) (Q':=Q) (l.drop n) n listed a' w' (fun j=>by simp[List.getElem?_drop]) (by rw[hdl];exact hL.1) hL.2
  rwa [hdl]at this) _ _ _ _ (h inv0)
 rw[show n+(l.toArray.size-n)=l.toArray.size by omega]at this
 exact this
theorem mh {v:Value} {o:Oper} {a:Act} {w:World} (ty:TypeId) (x:Operand) (ho:o.op=.load ty x) (g:Nat) (hx:a.eval x=.pointer (some ⟨g,0,none⟩)) (t:TypeId) (cs:Array Value) (d:TypeDesc)
 (hg:w.heap[g]?=some (.cells cs t (0,0))) (hu:P.underlying ty=some d) (hd:(match d with|.struct _|.array _ _=>true|_=>false)=true) (hi:(P.info? ty).map (·.size)=some cs.size)
 (hv:v=.agg cs):gU P (bl w) v ((execOp a.eval o).run P w):=by
 unfold execOp
 simp only[ho,hx,Instr.loadAt,Instr.sureAddr,Sem.run_bind,Sem.run_pure,Result.andThen_ok,run_loadVar_row w g t ty cs (0,0) d hg hu hd hi]
 exact⟨hv.symm,Below.refl _ _⟩
end
section
variable{P:Program} {ops:Array Oper} {md:Region.Mode}
def n9 (P:Program) (ops:Array Oper) (o:Oper) (v:Value) (a:Act):Prop:=
 (Region.wanted o (yielded ops a.tmps)=true/\∀w1,gU P (bl w1) v ((execOp a.eval o).run P w1))\/
 (Region.wanted o (yielded ops a.tmps)=false/\v=undef)
theorem n9.of_same {o:Oper} {v:Value} {a a':Act} (hy:n9 P ops o v a) (he:execOp a'.eval o=execOp a.eval o)
 (hw:Region.wanted o (yielded ops a'.tmps)=Region.wanted o (yielded ops a.tmps)):n9 P ops o v a':=by
 unfold n9 at *
 rw[he,hw]
 exact hy
theorem n9.toW {o:Oper} {v:Value} {a:Act} (h:n9 P ops o v a) (w:World):jI P ops o v a w:=by
 rcases h with⟨h1,h2⟩|h
 ·exact .inl ⟨h1,fun w1 _=>h2 w1⟩
 ·exact .inr h
theorem AU {j:Nat} {oi oj:Oper} {v:Value} (hj:ops[j]?=some oj) (hap:oi.apart ops oj=true)
 (hsi:∀cs b,oi.op≠.select cs b) (hsj:∀cs b,oj.op≠.select cs b) {K:Act->World->Prop} {a:Act} {w:World}
 (hy:n9 P ops oi v a) (h:wpOp P ops qy j K (a.put oi.dst v) w):
 wpOp P ops qy j (fun a' w'=>n9 P ops oi v a'/\K (a'.put oi.dst v) w') a w:=by
 obtain⟨h1,h2,h3⟩:=Oper.apart_spec hap
 have keep:∀(a:Act),n9 P ops oi v a->∀u,n9 P ops oi v (a.put oj.dst u):=fun a hy u=>
  hy.of_same (execOp_put oi hsi a oj.dst u h3) (wanted_put oi a oj.dst u h3)
 have keepD:∀d,n9 P ops oi v {a with defers:=d::a.defers}:=fun d=>hy.of_same rfl rfl
 unfold Go.wpOp at *
 simp only[hj]at *
 rw[wanted_put oj a oi.dst v h1]at h
 split
 ·rename_i hw
  simp only[hw,if_true]at h
  rcases h with h|⟨_,_,_,h⟩
  case inr=>exact h.elim
  left
  unfold Oper.wp at *
  rw[execOp_put oj hsj a oi.dst v h1]at h
  generalize(execOp a.eval oj).run P w=r at *
  cases r with
  | ok n w'=>
    cases n<;>simp only[Oper.upon]at h|-
    case value u=>exact⟨keep a hy u,by rw[<-Act.put_comm a v u h2];exact h⟩
    case skip=>exact⟨keep a hy _,by rw[<-Act.put_comm a v undef h2];exact h⟩
    case defer d=>
     refine⟨keep _ (keepD d) _,?_⟩
     rw[<-Act.put_comm _ v undef h2,<-Act.put_defers]
     exact h
    case enter f args=>
     refine Calls.mono h fun e w'' he=>?_
     cases e with
     |returned u=>exact⟨keep a hy u,by rw[<-Act.put_comm a v u h2];exact he⟩
     |panicked c=>exact he.elim
     |outgrown=>obtain⟨_,_,he⟩:=he;exact he.elim
    case row row args=>exact Rows.mono h fun u w'' he=>⟨keep a hy u,by rw[<-Act.put_comm a v u h2];exact he⟩
  | halt x w'=>
    cases x<;>simp only[Oper.upon]at h|-
    exact h.elim
 ·rename_i hw
  simp only[hw]at h
  exact⟨keep a hy _,by rw[<-Act.put_comm a v undef h2];exact h⟩
def nU (P:Program) (md:Region.Mode) (ops:Array Oper) (e:Nat) (Q:Exit->Act->World->Prop):Nat->Array Bool->Act->World->Prop
 |0,listed,a,w=>∀w1,bl w w1->Region.ready md ops listed=[]/\Q .normal a w1
 | f+1,listed,a,w=>∀w1,bl w w1->
   Region.ready md ops listed≠[]/\∀i∈Region.ready md ops listed,wpOp P ops qy i (fun a' w'=>(i≠e->bl w1 w')/\nU P md ops e Q f (listed.setIfInBounds i true) a' w') a w1
theorem nU.more {e:Nat} {Q:Exit->Act->World->Prop} {f:Nat} {listed:Array Bool} {a:Act} {w w':World} (h:nU P md ops e Q f listed a w) (hm:bl w w'):nU P md ops e Q f listed a w':=by
 cases f with
 |zero=>exact fun w1 h1=>h w1 (hm.trans h1)
 |succ f=>exact fun w1 h1=>h w1 (hm.trans h1)
theorem pu {e:Nat} {Q:Exit->Act->World->Prop}:
 ∀(f:Nat) (listed:Array Bool) (a:Act) (w:World),nU P md ops e Q f listed a w->wpAny P md ops Q f listed a w
 |0,listed,a,w,h=>h w (Below.refl _ _)
 | f+1,listed,a,w,h=>by
   have h:=h w (Below.refl _ _)
   exact⟨fun h0=>absurd h0 h.1,fun i hi=>jV (wpOp_mono (fun a' w' h'=>pu f _ a' w' h'.2) (h.2 i hi))⟩
theorem w_ {e i:Nat} {oi:Oper} {v:Value} {Q:Exit->Act->World->Prop} (hi:ops[i]?=some oi) (hsel:∀(j:Nat) (o:Oper) cs b,ops[j]?=some o->o.op≠.select cs b)
 (hie:i≠e) (hwait:∀oe,ops[e]?=some oe->∃d∈oe.after,Region.binds md d=true/\d.on=i):
 ∀(f:Nat) (listed:Array Bool) (a:Act) (w:World),
  (∀j oj,ops[j]?=some oj->j≠i->listed.getD j true=false->(∀e∈oj.after,Region.binds md e=true->e.on≠i)->oi.apart ops oj=true)->
  i∈Region.ready md ops listed->jI P ops oi v a w->
  nU P md ops e Q f (listed.setIfInBounds i true) (a.put oi.dst v) w->nU P md ops e Q (f+1) listed a w:=by
 intro f
 induction f with
 | zero=>
   intro listed a w _ hr hy H
   intro w1 h1
   refine⟨fun h=>(by rw[h]at hr;cases hr),fun j hj=>?_⟩
   by_cases hji:j=i
   ·subst hji;exact(hy.more h1).wpOp hi fun w' hS'=>⟨fun _=>hS',H.more (h1.trans hS')⟩
   ·have h0:=(H w1 h1).1
    have:=ready_mono hj hji
    rw[h0]at this;cases this
 | succ f ih=>
   intro listed a w hfree hr hy H
   have hun:=(mem_ready.1 hr).1
   intro w1 h1
   refine⟨fun h=>(by rw[h]at hr;cases hr),fun j hj=>?_⟩
   by_cases hji:j=i
   ·subst hji;exact(hy.more h1).wpOp hi fun w' hS'=>⟨fun _=>hS',H.more (h1.trans hS')⟩
   ·have h2:=(H w1 h1).2 j (ready_mono hj hji)
    obtain⟨hjun,oj,hoj,hall⟩:=mem_ready.1 hj
    have hnot:∀e∈oj.after,Region.binds md e=true->e.on≠i:=fun e he hb heq=>by
     have h1:=hall e he hb
     rw[heq,getD_both hun]at h1
     cases h1
    have hje:j≠e:=by
     rintro rfl
     obtain⟨d,hd,hb,hon⟩:=hwait oj hoj
     exact hnot d hd hb hon
    have h3:=rN hoj (hfree j oj hoj hji hjun hnot) (fun cs b=>hsel i oi cs b hi) (fun cs b=>hsel j oj cs b hoj) (hy.more h1) h2
    have hfree':∀k ok,ops[k]?=some ok->k≠i->(listed.setIfInBounds j true).getD k true=false->
     (∀e∈ok.after,Region.binds md e=true->e.on≠i)->oi.apart ops ok=true:=fun k ok hk hki hun hno=>by
     refine hfree k ok hk hki ?_ hno
     by_cases hjk:j=k
     ·subst hjk;exact hjun
     ·rw[getD_set_ne true hjk]at hun;exact hun
    refine wpOp_mono (fun a' w' h4=>⟨h4.2.1,ih (listed.setIfInBounds j true) a' w' hfree' (ready_mono hr (Ne.symm hji)) (h4.1.more (h4.2.1 hje)) ?_⟩) h3
    rw[Array.setIfInBounds_comm _ _ hji]
    exact h4.2.2
theorem wq {e i:Nat} {oi:Oper} {v:Value} {Q:Exit->Act->World->Prop} (hi:ops[i]?=some oi) (hsel:∀(j:Nat) (o:Oper) cs b,ops[j]?=some o->o.op≠.select cs b):
 ∀(f:Nat) (listed:Array Bool) (a:Act) (w:World),
  (∀j oj,ops[j]?=some oj->j≠i->listed.getD j true=false->(∀e∈oj.after,Region.binds md e=true->e.on≠i)->oi.apart ops oj=true)->
  i∈Region.ready md ops listed->n9 P ops oi v a->
  nU P md ops e Q f (listed.setIfInBounds i true) (a.put oi.dst v) w->nU P md ops e Q (f+1) listed a w:=by
 intro f
 induction f with
 | zero=>
   intro listed a w _ hr hy H
   intro w1 h1
   refine⟨fun h=>(by rw[h]at hr;cases hr),fun j hj=>?_⟩
   by_cases hji:j=i
   ·subst hji;exact(hy.toW w1).wpOp hi fun w' hS'=>⟨fun _=>hS',H.more (h1.trans hS')⟩
   ·have h0:=(H w1 h1).1
    have:=ready_mono hj hji
    rw[h0]at this;cases this
 | succ f ih=>
   intro listed a w hfree hr hy H
   have hun:=(mem_ready.1 hr).1
   intro w1 h1
   refine⟨fun h=>(by rw[h]at hr;cases hr),fun j hj=>?_⟩
   by_cases hji:j=i
   ·subst hji;exact(hy.toW w1).wpOp hi fun w' hS'=>⟨fun _=>hS',H.more (h1.trans hS')⟩
   ·have h2:=(H w1 h1).2 j (ready_mono hj hji)
    obtain⟨hjun,oj,hoj,hall⟩:=mem_ready.1 hj
    have hnot:∀e∈oj.after,Region.binds md e=true->e.on≠i:=fun e he hb heq=>by
     have h1:=hall e he hb
     rw[heq,getD_both hun]at h1
     cases h1
    have h3:=AU hoj (hfree j oj hoj hji hjun hnot) (fun cs b=>hsel i oi cs b hi) (fun cs b=>hsel j oj cs b hoj) hy h2
    have hfree':∀k ok,ops[k]?=some ok->k≠i->(listed.setIfInBounds j true).getD k true=false->
     (∀e∈ok.after,Region.binds md e=true->e.on≠i)->oi.apart ops ok=true:=fun k ok hk hki hun hno=>by
     refine hfree k ok hk hki ?_ hno
     by_cases hjk:j=k
     ·subst hjk;exact hjun
     ·rw[getD_set_ne true hjk]at hun;exact hun
    refine wpOp_mono (fun a' w' h4=>⟨h4.2.1,ih (listed.setIfInBounds j true) a' w' hfree' (ready_mono hr (Ne.symm hji)) h4.1 ?_⟩) h3
    rw[Array.setIfInBounds_comm _ _ hji]
    exact h4.2.2
def lc (ops:Array Oper) (i:Nat) (listed:Array Bool):Bool:=
 Region.noSelect ops&&(Region.ready .any ops listed).contains i&&Region.free .any ops listed i
def GJ (ops:Array Oper) (e i:Nat):Bool:=
 decide (i≠e)&&(match ops[e]? with|some oe=>oe.after.any fun d=>Region.binds .any d&&d.on==i|none=>true)
theorem aV {l:List Oper} {e:Nat} {Q:Exit->Act->World->Prop} {f:Nat} {listed:Array Bool} {a:Act} {w:World} (i:Nat) {o:Oper} (v:Value) (ho':l[i]?=some o) (hg:o.guard=none)
 (hB:lc l.toArray i listed=true) (hW:GJ l.toArray e i=true) (h:∀w1,bl w w1->gU P (bl w1) v ((execOp a.eval o).run P w1))
 (h2:nU P .any l.toArray e Q f (listed.setIfInBounds i true) (a.put o.dst v) w):nU P .any l.toArray e Q (f+1) listed a w:=by
 have ho:l.toArray[i]?=some o:=by simpa using ho'
 simp only[lc,Bool.and_eq_true]at hB
 obtain⟨⟨hsel,hr⟩,hf⟩:=hB
 have hr':i∈Region.ready .any l.toArray listed:=by simpa using hr
 simp only[GJ,Bool.and_eq_true,decide_eq_true_eq]at hW
 refine w_ ho (Region.noSelect_spec hsel) hW.1 (fun oe hoe=>?_) f listed a w (Region.free_spec ho hf) hr' (.inl ⟨by simp[Region.wanted,hg],h⟩) h2
 have:=hW.2
 rw[hoe]at this
 simp only[Array.any_eq_true,Bool.and_eq_true,beq_iff_eq]at this
 obtain⟨k,hk,hb,hon⟩:=this
 exact⟨_,Array.getElem_mem hk,hb,hon⟩
theorem ai {l:List Oper} {e:Nat} {Q:Exit->Act->World->Prop} {f:Nat} {listed:Array Bool} {a:Act} {w:World} (i:Nat) {o:Oper} (v:Value) (ho':l[i]?=some o) (hg:o.guard=none)
 (hB:lc l.toArray i listed=true) (h:∀w1,gU P (bl w1) v ((execOp a.eval o).run P w1))
 (h2:nU P .any l.toArray e Q f (listed.setIfInBounds i true) (a.put o.dst v) w):nU P .any l.toArray e Q (f+1) listed a w:=by
 have ho:l.toArray[i]?=some o:=by simpa using ho'
 simp only[lc,Bool.and_eq_true]at hB
 obtain⟨⟨hsel,hr⟩,hf⟩:=hB
 have hr':i∈Region.ready .any l.toArray listed:=by simpa using hr
 exact wq ho (Region.noSelect_spec hsel) f listed a w (Region.free_spec ho hf) hr' (.inl ⟨by simp[Region.wanted,hg],h⟩) h2
theorem gC {l:List Oper} {e:Nat} {Q:Exit->Act->World->Prop} {f:Nat} {listed:Array Bool} {a:Act} {w:World} {o:Oper} (ho':l[e]?=some o) (hg:o.guard=none)
 (hr:Region.ready .any l.toArray listed=[e])
 (h:∀w1,bl w w1->o.wp P a w1 (fun a' w'=>nU P .any l.toArray e Q f (listed.setIfInBounds e true) a' w') qy):nU P .any l.toArray e Q (f+1) listed a w:=by
 have ho:l.toArray[e]?=some o:=by simpa using ho'
 intro w1 h1
 refine⟨by rw[hr];simp,fun j hj=>?_⟩
 rw[hr]at hj
 have:j=e:=by simpa using hj
 subst this
 unfold Go.wpOp
 simp only[ho,Region.wanted,hg,if_true]
 refine .inl ?_
 have:=h w1 h1
 unfold Oper.wp at *
 generalize(execOp a.eval o).run P w1=r at *
 cases r with
 | ok n w'=>
   cases n<;>simp only[Oper.upon]at this|-<;>try exact⟨fun hn=>absurd rfl hn,this⟩
   case enter f args=>
    refine Calls.mono this fun x w'' he=>?_
    cases x with
    |returned u=>exact⟨fun hn=>absurd rfl hn,he⟩
    |panicked c=>exact he.elim
    |outgrown=>obtain⟨_,_,he⟩:=he;exact he.elim
   case row row args=>exact Rows.mono this fun u w'' he=>⟨fun hn=>absurd rfl hn,he⟩
 | halt x w'=>
   cases x<;>simp only[Oper.upon]at this|-
   exact this.elim
theorem dq {l:List Oper} {e:Nat} {Q:Exit->Act->World->Prop} {listed:Array Bool} {a:Act} {w:World} (hr:Region.ready .any l.toArray listed=[]) (h:∀w1,bl w w1->wpList P l.toArray Q [] a w1):
 nU P .any l.toArray e Q 0 listed a w:=fun w1 h1=>⟨hr,h w1 h1⟩
theorem bV {id:Nat} {Q:Exit->Act->World->Prop} {a:Act} {w:World} {l:List Oper} (e n:Nat) (hn:l.length=n) (hm:P.follows .mixedOrders=true)
 (h:nU P .any l.toArray e Q n (Array.replicate n false) a w.drew):(Code.region id l.toArray true).wp P Q a w:=by
 refine wp_region_any hm ?_
 have:=pu (Q:=Q) _ _ _ _ h
 have hs:l.toArray.size=n:=by simpa using hn
 rw[hs]
 exact this
end
section
variable{P:Program}
theorem F_ {l:List Oper} {e:Nat} {Q:Exit->Act->World->Prop} {f:Nat} {listed:Array Bool} {a:Act} {w:World} (i j:Nat) {oi oj:Oper} (hoi':l[i]?=some oi) (hgi:oi.guard=none) (hoj':l[j]?=some oj) (hgj:oj.guard=none)
 (hr:Region.ready .any l.toArray listed=[i,j])
 (h1:∀w1,bl w w1->∀K:Act->World->Prop,(∀a' w',bl w1 w'->nU P .any l.toArray e Q f (listed.setIfInBounds i true) a' w'->K a' w')->oi.wp P a w1 K qy)
 (h2:∀w1,bl w w1->∀K:Act->World->Prop,(∀a' w',bl w1 w'->nU P .any l.toArray e Q f (listed.setIfInBounds j true) a' w'->K a' w')->oj.wp P a w1 K qy):nU P .any l.toArray e Q (f+1) listed a w:=by
 have hoi:l.toArray[i]?=some oi:=by simpa using hoi'
 have hoj:l.toArray[j]?=some oj:=by simpa using hoj'
 intro w1 hm1
 refine⟨by rw[hr];simp,fun k hk=>?_⟩
 rw[hr]at hk
 have:k=i\/k=j:=by simpa using hk
 rcases this with rfl|rfl
 ·unfold Go.wpOp
  simp only[hoi,Region.wanted,hgi,if_true]
  exact .inl (h1 w1 hm1 _ fun a' w' hm hx=>⟨fun _=>hm,hx⟩)
 ·unfold Go.wpOp
  simp only[hoj,Region.wanted,hgj,if_true]
  exact .inl (h2 w1 hm1 _ fun a' w' hm hx=>⟨fun _=>hm,hx⟩)
theorem kr {l:List Oper} {e:Nat} {Q:Exit->Act->World->Prop} {f:Nat} {listed:Array Bool} {a:Act} {w:World} (i:Nat) {o:Oper} (ho':l[i]?=some o) (hg:o.guard=none)
 (hr:Region.ready .any l.toArray listed=[i])
 (h:∀w1,bl w w1->∀K:Act->World->Prop,(∀a' w',bl w1 w'->nU P .any l.toArray e Q f (listed.setIfInBounds i true) a' w'->K a' w')->o.wp P a w1 K qy):nU P .any l.toArray e Q (f+1) listed a w:=by
 have ho:l.toArray[i]?=some o:=by simpa using ho'
 intro w1 h1
 refine⟨by rw[hr];simp,fun j hj=>?_⟩
 rw[hr]at hj
 have:j=i:=by simpa using hj
 subst this
 unfold Go.wpOp
 simp only[ho,Region.wanted,hg,if_true]
 exact .inl (h w1 h1 _ fun a' w' hm hx=>⟨fun _=>hm,hx⟩)
end
section
variable{P:Program}
end
section
variable{P:Program} {ops:Array Oper} {md:Region.Mode} {B:Nat}
def ly (P:Program) (ops:Array Oper) (B:Nat) (o:Oper) (v:Value) (a:Act) (w:World):Prop:=
 (Region.wanted o (yielded ops a.tmps)=true/\∀w1,Below B w w1->gU P (bl w1) v ((execOp a.eval o).run P w1))\/
 (Region.wanted o (yielded ops a.tmps)=false/\v=undef)
theorem ly.of_same {o:Oper} {v:Value} {a a':Act} {w:World} (hy:ly P ops B o v a w) (he:execOp a'.eval o=execOp a.eval o)
 (hw:Region.wanted o (yielded ops a'.tmps)=Region.wanted o (yielded ops a.tmps)):ly P ops B o v a' w:=by
 unfold ly at *
 rw[he,hw]
 exact hy
theorem ly.more {o:Oper} {v:Value} {a:Act} {w w':World} (hy:ly P ops B o v a w) (h:Below B w w'):ly P ops B o v a w':=by
 rcases hy with⟨hw,hv⟩|hy
 ·exact .inl ⟨hw,fun w1 h1=>hv w1 (h.trans h1)⟩
 ·exact .inr hy
theorem ly.toW {o:Oper} {v:Value} {a:Act} {w:World} (hy:ly P ops B o v a w) (hB:B<=w.heap.size):jI P ops o v a w:=by
 rcases hy with⟨hw,hv⟩|hy
 ·exact .inl ⟨hw,fun w1 h1=>hv w1 (h1.mono hB)⟩
 ·exact .inr hy
theorem AC {j:Nat} {oi oj:Oper} {v:Value} (hj:ops[j]?=some oj) (hap:oi.apart ops oj=true)
 (hsi:∀cs b,oi.op≠.select cs b) (hsj:∀cs b,oj.op≠.select cs b) {K:Act->World->Prop} {a:Act} {w w0:World}
 (hy:ly P ops B oi v a w0) (h:wpOp P ops qy j K (a.put oi.dst v) w):
 wpOp P ops qy j (fun a' w'=>ly P ops B oi v a' w0/\K (a'.put oi.dst v) w') a w:=by
 obtain⟨h1,h2,h3⟩:=Oper.apart_spec hap
 have keep:∀(a:Act),ly P ops B oi v a w0->∀u,ly P ops B oi v (a.put oj.dst u) w0:=fun a hy u=>
  hy.of_same (execOp_put oi hsi a oj.dst u h3) (wanted_put oi a oj.dst u h3)
 have keepD:∀d,ly P ops B oi v {a with defers:=d::a.defers} w0:=fun d=>hy.of_same rfl rfl
 unfold Go.wpOp at *
 simp only[hj]at *
 rw[wanted_put oj a oi.dst v h1]at h
 split
 ·rename_i hw
  simp only[hw,if_true]at h
  rcases h with h|⟨_,_,_,h⟩
  case inr=>exact h.elim
  left
  unfold Oper.wp at *
  rw[execOp_put oj hsj a oi.dst v h1]at h
  generalize(execOp a.eval oj).run P w=r at *
  cases r with
  | ok n w'=>
    cases n<;>simp only[Oper.upon]at h|-
    case value u=>exact⟨keep a hy u,by rw[<-Act.put_comm a v u h2];exact h⟩
    case skip=>exact⟨keep a hy _,by rw[<-Act.put_comm a v undef h2];exact h⟩
    case defer d=>
     refine⟨keep _ (keepD d) _,?_⟩
     rw[<-Act.put_comm _ v undef h2,<-Act.put_defers]
     exact h
    case enter f args=>
     refine Calls.mono h fun e w'' he=>?_
     cases e with
     |returned u=>exact⟨keep a hy u,by rw[<-Act.put_comm a v u h2];exact he⟩
     |panicked c=>exact he.elim
     |outgrown=>obtain⟨_,_,he⟩:=he;exact he.elim
    case row row args=>exact Rows.mono h fun u w'' he=>⟨keep a hy u,by rw[<-Act.put_comm a v u h2];exact he⟩
  | halt x w'=>
    cases x<;>simp only[Oper.upon]at h|-
    exact h.elim
 ·rename_i hw
  simp only[hw]at h
  exact⟨keep a hy _,by rw[<-Act.put_comm a v undef h2];exact h⟩
def Gm (marks:List Nat) (H:List Bool->World->Prop) (listed:Array Bool) (w:World):Prop:=H (marks.map fun m=>listed.getD m false) w
theorem Hy {marks:List Nat} {H:List Bool->World->Prop} {i:Nat} (hi:marks.contains i=false) (listed:Array Bool):Gm marks H (listed.setIfInBounds i true)=Gm marks H listed:=by
 unfold Gm
 funext w
 congr 1
 apply List.map_congr_left
 intro m hm
 have:i≠m:=by
  rintro rfl
  have:marks.contains i=true:=by simpa using hm
  rw[hi]at this;cases this
 exact getD_set_ne false this
def G1 (P:Program) (md:Region.Mode) (ops:Array Oper) (B:Nat) (G:Array Bool->World->Prop) (Q:Exit->Act->World->Prop):Nat->Array Bool->Act->World->Prop
 |0,listed,a,w=>∀w1,Below B w w1->G listed w1->Region.ready md ops listed=[]/\wpList P ops Q [] a w1
 | f+1,listed,a,w=>∀w1,Below B w w1->G listed w1->
   Region.ready md ops listed≠[]/\∀i∈Region.ready md ops listed,wpOp P ops qy i (fun a' w'=>Below B w1 w'/\G (listed.setIfInBounds i true) w'/\G1 P md ops B G Q f (listed.setIfInBounds i true) a' w') a w1
variable{G:Array Bool->World->Prop} {Q:Exit->Act->World->Prop}
theorem G1.more {f:Nat} {listed:Array Bool} {a:Act} {w w':World} (h:G1 P md ops B G Q f listed a w) (hm:Below B w w'):G1 P md ops B G Q f listed a w':=by
 cases f with
 |zero=>exact fun w1 h1=>h w1 (hm.trans h1)
 |succ f=>exact fun w1 h1=>h w1 (hm.trans h1)
theorem pN:∀(f:Nat) (listed:Array Bool) (a:Act) (w:World),G listed w->G1 P md ops B G Q f listed a w->wpAny P md ops Q f listed a w
 |0,listed,a,w,hg,h=>h w (Below.refl _ _) hg
 | f+1,listed,a,w,hg,h=>by
   have h:=h w (Below.refl _ _) hg
   exact⟨fun h0=>absurd h0 h.1,fun i hi=>jV (wpOp_mono (fun a' w' h'=>pN f _ a' w' h'.2.1 h'.2.2) (h.2 i hi))⟩
theorem zY {i:Nat} {oi:Oper} {v:Value} (hi:ops[i]?=some oi) (hsel:∀(j:Nat) (o:Oper) cs b,ops[j]?=some o->o.op≠.select cs b)
 (hGi:∀listed,G (listed.setIfInBounds i true)=G listed) (hGm:∀listed w w',G listed w->bl w w'->G listed w'):
 ∀(f:Nat) (listed:Array Bool) (a:Act) (w:World),B<=w.heap.size->
  (∀j oj,ops[j]?=some oj->j≠i->listed.getD j true=false->(∀e∈oj.after,Region.binds md e=true->e.on≠i)->oi.apart ops oj=true)->
  i∈Region.ready md ops listed->ly P ops B oi v a w->
  G1 P md ops B G Q f (listed.setIfInBounds i true) (a.put oi.dst v) w->G1 P md ops B G Q (f+1) listed a w:=by
 intro f
 induction f with
 | zero=>
   intro listed a w hBw _ hr hy H w1 h1 g1
   have hun:=(mem_ready.1 hr).1
   refine⟨fun h=>(by rw[h]at hr;cases hr),fun j hj=>?_⟩
   by_cases hji:j=i
   ·subst hji
    refine(((hy.more h1).toW (nk hBw h1.size)).wpOp hi fun w' hS'=>?_)
    have hb:Below B w1 w':=hS'.mono (nk hBw h1.size)
    exact⟨hb,by rw[hGi];exact hGm _ _ _ g1 hS',H.more (h1.trans hb)⟩
   ·have:=(H w1 h1 (by rw[hGi];exact g1)).1
    have h3:=ready_mono hj hji
    rw[this]at h3;cases h3
 | succ f ih=>
   intro listed a w hBw hfree hr hy H w1 h1 g1
   have hun:=(mem_ready.1 hr).1
   refine⟨fun h=>(by rw[h]at hr;cases hr),fun j hj=>?_⟩
   by_cases hji:j=i
   ·subst hji
    refine(((hy.more h1).toW (nk hBw h1.size)).wpOp hi fun w' hS'=>?_)
    have hb:Below B w1 w':=hS'.mono (nk hBw h1.size)
    exact⟨hb,by rw[hGi];exact hGm _ _ _ g1 hS',H.more (h1.trans hb)⟩
   ·have h2:=(H w1 h1 (by rw[hGi];exact g1)).2 j (ready_mono hj hji)
    obtain⟨hjun,oj,hoj,hall⟩:=mem_ready.1 hj
    have hnot:∀e∈oj.after,Region.binds md e=true->e.on≠i:=fun e he hb heq=>by
     have h1:=hall e he hb
     rw[heq,getD_both hun]at h1
     cases h1
    have h3:=AC hoj (hfree j oj hoj hji hjun hnot) (fun cs b=>hsel i oi cs b hi) (fun cs b=>hsel j oj cs b hoj) (hy.more h1) h2
    have hfree':∀k ok,ops[k]?=some ok->k≠i->(listed.setIfInBounds j true).getD k true=false->
     (∀e∈ok.after,Region.binds md e=true->e.on≠i)->oi.apart ops ok=true:=fun k ok hk hki hun hno=>by
     refine hfree k ok hk hki ?_ hno
     by_cases hjk:j=k
     ·subst hjk;exact hjun
     ·rw[getD_set_ne true hjk]at hun;exact hun
    refine wpOp_mono (fun a' w' h4=>?_) h3
    obtain⟨hz,hb,hg,hw⟩:=h4
    rw[Array.setIfInBounds_comm _ _ (Ne.symm hji),hGi]at hg
    refine⟨hb,hg,ih (listed.setIfInBounds j true) a' w' (nk hBw (h1.trans hb).size) hfree' (ready_mono hr (Ne.symm hji)) (hz.more hb) ?_⟩
    rw[Array.setIfInBounds_comm _ _ hji]
    exact hw
end
section
variable{P:Program}
def Di (ops:Array Oper) (i:Nat) (listed:Array Bool):Bool:=
 Region.noSelect ops&&(Region.ready .any ops listed).contains i&&Region.free .any ops listed i
def zR (P:Program) (l:List Oper) (B:Nat) (marks:List Nat) (H:List Bool->World->Prop) (Q:Exit->Act->World->Prop) (f:Nat) (listed:Array Bool) (a:Act) (w:World):Prop:=
 B<=w.heap.size->(∀bs w w',H bs w->bl w w'->H bs w')->G1 P .any l.toArray B (Gm marks H) Q f listed a w
theorem cY {l:List Oper} {B:Nat} {marks:List Nat} {H:List Bool->World->Prop} {Q:Exit->Act->World->Prop} {f:Nat} {listed:Array Bool} {a:Act} {w:World} (i:Nat) {o:Oper} (v:Value) (ho':l[i]?=some o) (hg:o.guard=none)
 (hB:Di l.toArray i listed=true) (hM:marks.contains i=false) (h:∀w1,Below B w w1->gU P (bl w1) v ((execOp a.eval o).run P w1))
 (h2:zR P l B marks H Q f (listed.setIfInBounds i true) (a.put o.dst v) w):zR P l B marks H Q (f+1) listed a w:=by
 have ho:l.toArray[i]?=some o:=by simpa using ho'
 intro hBw hm
 simp only[Di,Bool.and_eq_true]at hB
 obtain⟨⟨hsel,hr⟩,hf⟩:=hB
 have hr':i∈Region.ready .any l.toArray listed:=by simpa using hr
 exact zY ho (Region.noSelect_spec hsel) (fun listed=>Hy hM listed) (fun _ _ _ h k=>hm _ _ _ h k) f listed a w hBw (Region.free_spec ho hf) hr' (.inl ⟨by simp[Region.wanted,hg],h⟩) (h2 hBw hm)
theorem xN {l:List Oper} {B:Nat} {marks:List Nat} {H:List Bool->World->Prop} {Q:Exit->Act->World->Prop} {f:Nat} {listed:Array Bool} {a:Act} {w:World} (i:Nat) {o:Oper} (ho':l[i]?=some o) (hg:o.guard=none)
 (hr:Region.ready .any l.toArray listed=[i]) (bs bs':List Bool) (hb:(marks.map fun m=>listed.getD m false)=bs) (hb':(marks.map fun m=>(listed.setIfInBounds i true).getD m false)=bs')
 (h:∀w1,Below B w w1->H bs w1->∀K:Act->World->Prop,(∀a' w',Below B w1 w'->H bs' w'->zR P l B marks H Q f (listed.setIfInBounds i true) a' w'->K a' w')->o.wp P a w1 K qy):zR P l B marks H Q (f+1) listed a w:=by
 have ho:l.toArray[i]?=some o:=by simpa using ho'
 intro hBw hm w1 h1 g1
 refine⟨by rw[hr];simp,fun j hj=>?_⟩
 rw[hr]at hj
 have:j=i:=by simpa using hj
 subst this
 unfold Go.wpOp
 simp only[ho,Region.wanted,hg,if_true]
 unfold Gm at g1|-
 rw[hb]at g1
 exact .inl (h w1 h1 g1 _ fun a' w' hm' hx hz=>⟨hm',by rw[hb'];exact hx,hz (nk hBw (h1.trans hm').size) hm⟩)
theorem Fz {l:List Oper} {B:Nat} {marks:List Nat} {H:List Bool->World->Prop} {Q:Exit->Act->World->Prop} {listed:Array Bool} {a:Act} {w:World} (hr:Region.ready .any l.toArray listed=[]) (bs:List Bool) (hb:(marks.map fun m=>listed.getD m false)=bs)
 (h:∀w1,Below B w w1->H bs w1->wpList P l.toArray Q [] a w1):zR P l B marks H Q 0 listed a w:=fun _ _ w1 h1 g1=>⟨hr,h w1 h1 (by unfold Gm at g1;rw[hb]at g1;exact g1)⟩
theorem tY {id:Nat} {Q:Exit->Act->World->Prop} {a:Act} {w:World} {l:List Oper} (n B:Nat) (marks:List Nat) (H:List Bool->World->Prop) (hn:l.length=n) (hm:P.follows .mixedOrders=true)
 (hBw:B<=w.heap.size) (hH:∀bs w w',H bs w->bl w w'->H bs w') (h0:H (marks.map fun m=>(Array.replicate n false).getD m false) w.drew)
 (h:zR P l B marks H Q n (Array.replicate n false) a w.drew):(Code.region id l.toArray true).wp P Q a w:=by
 refine wp_region_any hm ?_
 have:=pN (Q:=Q) (md:=.any) (ops:=l.toArray) (B:=B) (G:=Gm marks H) n (Array.replicate n false) a w.drew h0 (h hBw hH)
 have hs:l.toArray.size=n:=by simpa using hn
 rw[hs]
 exact this
end
section
variable{P:Program}
theorem qH {ops:Array Oper} {rest:List Oper} {o:Oper} {a:Act} {w:World} {Q:Exit->Act->World->Prop} (hg:o.guard=none) (t e:TypeId) (len:Nat) (parts:Array (Nat×Operand)) (ho:o.op=.buildSlice t len parts)
 (zs:List Int) (hu:P.underlying t=some (.slice e)) (hsz:(P.info? e).map (·.size)=some 1) (hz:((P.info? e).bind (·.zero)).isSome=true)
 (hlen:len=zs.length) (hpos:0<len) (hsmall:len<=2^24)
 (hparts:(parts.map fun(i,x)=>(i,a.eval x)).toList=((zs.map (Value.int .i64)).zipIdx 0).map fun x=>(x.2,x.1))
 (h:∀b w',bl w w'->af w' b (zs.map (Value.int .i64)).toArray e->wpList P ops Q rest (a.put o.dst (.slice (some ⟨b,0,none⟩) len len)) w'):wpList P ops Q (o::rest) a w:=by
 cases hie:P.info? e with
 |none=>simp[hie]at hsz
 | some ie=>
   simp only[hie,Option.map_some,Option.some.injEq,Option.bind_some]at hsz hz
   obtain⟨z,hzz⟩:=Option.isSome_iff_exists.1 hz
   refine wpList_buildSlice hg t e len parts ho (zs.map (Value.int .i64)).toArray ie z hu hie hzz (by rw[hsz];omega) (by rw[hsz];omega) ?_ (h _ _ ((Below.refl _ _).alloc (ns _) _) (af.new _ _ _))
   rw[hparts,hsz]
   exact Great.fill_flat _ _ (fun v hv=>by obtain⟨n,_,rfl⟩:=List.mem_map.1 hv;rfl) (by simp[hlen])
theorem nM {ops:Array Oper} {rest:List Oper} {o:Oper} {a:Act} {w:World} {Q:Exit->Act->World->Prop} (v:Value) (hg:o.guard=none)
 (h:gU P (fun w'=>w'=w) v ((execOp a.eval o).run P w)) (k:wpList P ops Q rest (a.put o.dst v) w):wpList P ops Q (o::rest) a w:=by
 refine wpList_plain hg fun K hK=>?_
 unfold Oper.wp
 generalize(execOp a.eval o).run P w=r at *
 cases r with
 | ok n w'=>
   cases n<;>simp only[gU]at h<;>simp only[Oper.upon]
   case value u=>obtain⟨rfl,rfl⟩:=h;exact hK _ _ k
   case skip=>obtain⟨rfl,rfl⟩:=h;exact hK _ _ k
   case enter f args=>
    refine Calls.mono h fun e w'' he=>?_
    obtain⟨rfl,rfl⟩:=he
    exact hK _ _ k
 |halt x w'=>exact h.elim
end
section
variable{P:Program}
def dZ (l:List Oper) (i:Nat):Option Tmp:=(l[i]?).bind (·.dst)
def dA (l:List Oper) (v:Nat->Value):List Nat->Act->Act
 |[],a=>a
 |i::r,a=>dA l v r (a.put (dZ l i) (v i))
def jE (v:Nat->Value) (i:Nat) (u:Value):Nat->Value:=fun j=>if j=i then u else v j
def jq (l:List Oper):List Nat->Bool
 |[]=>true
 |i::r=>(dZ l i).isSome&&r.all (fun j=>dZ l i !=dZ l j)&&jq l r
theorem zL (a:Act) (x:Option Tmp) (v u:Value):(a.put x v).put x u=a.put x u:=by
 cases x with
 |none=>rfl
 |some d=>simp[Act.put]
theorem CY (a:Act) (x:Option Tmp):∃v,a.put x v=a:=by
 cases x with
 |none=>exact⟨undef,rfl⟩
 | some d=>
   refine⟨a.tmps.getD d undef,?_⟩
   unfold Act.put
   have:a.tmps.setIfInBounds d (a.tmps.getD d undef)=a.tmps:=by
    apply Array.ext
    ·simp
    ·intro k h1 h2
     rw[Array.getElem_setIfInBounds]
     split
     ·rename_i h;subst h;simp[h2]
     ·rfl
   simp only[this]
theorem kf {l:List Oper} {v:Nat->Value} {x:Option Tmp} {u:Value}:∀(r:List Nat) (a:Act),(∀j∈r,x≠dZ l j)->(dA l v r a).put x u=dA l v r (a.put x u)
 |[],a,h=>rfl
 | i::r,a,h=>by
   unfold dA
   rw[kf r _ (fun j hj=>h j (List.mem_cons_of_mem _ hj)),Act.put_comm a (v i) u (x:=dZ l i) (y:=x)]
   intro d hd hx
   exact h i (List.mem_cons_self ..) (hx.trans hd.symm)
theorem fd {l:List Oper} {v v':Nat->Value}:∀(r:List Nat) (a:Act),(∀j∈r,v j=v' j)->dA l v r a=dA l v' r a
 |[],_,_=>rfl
 | i::r,a,h=>by
   unfold dA
   rw[h i (List.mem_cons_self ..),fd r _ (fun j hj=>h j (List.mem_cons_of_mem _ hj))]
theorem mZ {l:List Oper} {v:Nat->Value} {i:Nat} {u:Value}:∀(r:List Nat) (a:Act),jq l r=true->i∈r->(dA l v r a).put (dZ l i) u=dA l (jE v i u) r a
 |[],_,_,h=>by cases h
 | j ::r,a,hB,hi=>by
   simp only[jq,Bool.and_eq_true,List.all_eq_true,bne_iff_ne,ne_eq]at hB
   obtain⟨⟨_,hne⟩,hr⟩:=hB
   unfold dA
   by_cases hij:i=j
   ·subst hij
    rw[kf r _ (fun k hk=>hne k hk),zL]
    have:∀k∈r,v k=jE v i u k:=fun k hk=>by
     unfold jE
     rw[if_neg]
     rintro rfl
     exact hne k hk rfl
    rw[fd r _ this]
    unfold jE;rw[if_pos rfl]
   ·have hir:i∈r:=by
     rcases List.mem_cons.1 hi with h|h
     ·exact absurd h hij
     ·exact h
    rw[mZ r _ hr hir]
    have:jE v i u j=v j:=by unfold jE;rw[if_neg (Ne.symm hij)]
    rw[this]
theorem oN (l:List Oper):∀(r:List Nat) (a:Act),jq l r=true->∃v,a=dA l v r a
 |[],_,_=>⟨fun _=>undef,rfl⟩
 | i::r,a,hB=>by
   simp only[jq,Bool.and_eq_true,List.all_eq_true,bne_iff_ne,ne_eq]at hB
   obtain⟨⟨_,hne⟩,hr⟩:=hB
   obtain⟨x,hx⟩:=CY a (dZ l i)
   obtain⟨v,hv⟩:=oN l r (a.put (dZ l i) x) hr
   refine⟨jE v i x,?_⟩
   unfold dA
   have h1:jE v i x i=x:=by unfold jE;rw[if_pos rfl]
   rw[h1,<-fd (v:=v) r _ (fun j hj=>by unfold jE;rw[if_neg];rintro rfl;exact hne j hj rfl),<-hv,hx]
def DN (ops:Array Oper) (n:Nat):Bool:=(List.range n).all fun i=>match ops[i]? with|some o=>o.after.all fun e=>!Region.binds .any e||decide (e.on<i)|none=>false
def Jk (listed:Array Bool) (n:Nat):Nat:=(List.range n).countP fun i=>listed.getD i true==false
theorem o_ {f g:Nat->Bool} {i:Nat}:∀(l:List Nat),l.Nodup->i∈l->f i=true->g i=false->(∀j,j≠i->f j=g j)->l.countP f=l.countP g+1
 |[],_,h,_,_,_=>by cases h
 | j ::r,hn,hi,h1,h2,h3=>by
   rw[List.nodup_cons]at hn
   rw[List.countP_cons,List.countP_cons]
   by_cases hij:j=i
   ·subst hij
    have:r.countP f=r.countP g:=List.countP_congr fun k hk=>by
     rw[h3 k (by rintro rfl;exact hn.1 hk)]
    rw[this,h1,h2];simp
   ·have hir:i∈r:=by
     rcases List.mem_cons.1 hi with h|h
     ·exact absurd h.symm hij
     ·exact h
    rw[o_ r hn.2 hir h1 h2 h3,h3 j hij];omega
theorem Fk {listed:Array Bool} {n i:Nat} (hi:i<n) (hf:listed.getD i true=false):Jk listed n=Jk (listed.setIfInBounds i true) n+1:=by
 refine o_ (List.range n) List.nodup_range (List.mem_range.2 hi) (by simp[hf]) ?_ (fun j hj=>by rw[getD_set_ne true (Ne.symm hj)])
 have:(listed.setIfInBounds i true).getD i true=true:=by
  have hlt:i<listed.size:=by
   rcases Nat.lt_or_ge i listed.size with h'|h'
   ·exact h'
   ·simp[Array.getElem?_eq_none h']at hf
  simp[hlt]
 rw[this];rfl
theorem CD {listed:Array Bool} {n:Nat} (h:Jk listed n=0):∀i,i<n->listed.getD i true=true:=by
 intro i hi
 have:=List.countP_eq_zero.1 h i (List.mem_range.2 hi)
 cases hb:listed.getD i true with
 |true=>rfl
 |false=>rw[hb]at this;simp at this
def rB (v:Nat->Value):List (Nat×Nat)->Act->Act
 |[],a=>a
 |x::r,a=>rB v r (a.put (some x.2) (v x.1))
def sr (l:List Oper) (ds:List (Nat×Nat)):Bool:=ds.all fun x=>dZ l x.1==some x.2
theorem tD {l:List Oper} {v:Nat->Value}:∀(ds:List (Nat×Nat)) (a:Act),sr l ds=true->dA l v (ds.map (·.1)) a=rB v ds a
 |[],_,_=>rfl
 | x::r,a,h=>by
   simp only[sr,List.all_cons,Bool.and_eq_true,beq_iff_eq]at h
   show dA l v (r.map (·.1)) (a.put (dZ l x.1) (v x.1))=rB v r (a.put (some x.2) (v x.1))
   rw[h.1]
   exact tD r _ h.2
theorem uv {o:Oper} {a:Act} {w:World} {K:Act->World->Prop} {F:Value->World->Prop} (t e:TypeId) (len:Nat) (parts:Array (Nat×Operand)) (ho:o.op=.buildSlice t len parts)
 (zs:List Int) (hu:P.underlying t=some (.slice e)) (hsz:(P.info? e).map (·.size)=some 1) (hz:((P.info? e).bind (·.zero)).isSome=true)
 (hlen:len=zs.length) (hpos:0<len) (hsmall:len<=2^24)
 (hparts:(parts.map fun(i,x)=>(i,a.eval x)).toList=((zs.map (Value.int .i64)).zipIdx 0).map fun x=>(x.2,x.1))
 (hF:∀u w2,(∃b,u=.slice (some ⟨b,0,none⟩) len len/\af w2 b (zs.map (Value.int .i64)).toArray e)->F u w2)
 (hK:∀a' u w2,a'=a.put o.dst u->bl w w2->F u w2->K a' w2):o.wp P a w K qy:=by
 cases hie:P.info? e with
 |none=>simp[hie]at hsz
 | some ie=>
   simp only[hie,Option.map_some,Option.some.injEq,Option.bind_some]at hsz hz
   obtain⟨z,hzz⟩:=Option.isSome_iff_exists.1 hz
   refine wp_buildSlice t e len parts ho (zs.map (Value.int .i64)).toArray ie z hu hie hzz (by rw[hsz];omega) (by rw[hsz];omega) ?_ (hK _ _ _ rfl ((Below.refl _ _).alloc (ns _) _) (hF _ _ ⟨_,rfl,af.new _ _ _⟩))
   rw[hparts,hsz]
   exact Great.fill_flat _ _ (fun v hv=>by obtain⟨n,_,rfl⟩:=List.mem_map.1 hv;rfl) (by simp[hlen])
def jk (P:Program) (o:Oper) (a:Act) (cells:Array Value) (t:TypeId) (n:Nat):Prop:=
 ∀(w:World) (K:Act->World->Prop),(∀b w',bl w w'->af w' b cells t->K (a.put o.dst (.slice (some ⟨b,0,none⟩) n n)) w')->o.wp P a w K qy
theorem Bu {o:Oper} {a:Act} (t e:TypeId) (len:Nat) (parts:Array (Nat×Operand)) (ho:o.op=.buildSlice t len parts)
 (zs:List Int) (hu:P.underlying t=some (.slice e)) (hsz:(P.info? e).map (·.size)=some 1) (hz:((P.info? e).bind (·.zero)).isSome=true)
 (hlen:len=zs.length) (hpos:0<len) (hsmall:len<=2^24)
 (hparts:(parts.map fun(i,x)=>(i,a.eval x)).toList=((zs.map (Value.int .i64)).zipIdx 0).map fun x=>(x.2,x.1)):jk P o a (zs.map (Value.int .i64)).toArray e len:=by
 intro w K hK
 refine uv (F:=fun u w2=>∃b,u=.slice (some ⟨b,0,none⟩) len len/\af w2 b (zs.map (Value.int .i64)).toArray e) t e len parts ho zs hu hsz hz hlen hpos hsmall hparts (fun _ _ h=>h) ?_
 rintro a' u w2 rfl hm ⟨b,rfl,nb⟩
 exact hK b w2 hm nb
theorem r8 {o:Oper} {a:Act} {t e:TypeId} {x0 x1 x2 x3:Operand} (ho:o.op=.buildSlice t 4 #[(0,x0),(1,x1),(2,x2),(3,x3)])
 {n0 n1 n2 n3:Int} (h0:a.eval x0=.int .i64 n0) (h1:a.eval x1=.int .i64 n1) (h2:a.eval x2=.int .i64 n2) (h3:a.eval x3=.int .i64 n3)
 (hu:P.underlying t=some (.slice e)) (hsz:(P.info? e).map (·.size)=some 1) (hz:((P.info? e).bind (·.zero)).isSome=true):jk P o a #[.int .i64 n0,.int .i64 n1,.int .i64 n2,.int .i64 n3] e 4:=
 Bu t e 4 _ ho [n0,n1,n2,n3] hu hsz hz rfl oa da (by simp[h0,h1,h2,h3])
theorem jO {o:Oper} {a:Act} {t e:TypeId} {x0 x1:Operand} (ho:o.op=.buildSlice t 2 #[(0,x0),(1,x1)])
 {n0 n1:Int} (h0:a.eval x0=.int .i64 n0) (h1:a.eval x1=.int .i64 n1)
 (hu:P.underlying t=some (.slice e)) (hsz:(P.info? e).map (·.size)=some 1) (hz:((P.info? e).bind (·.zero)).isSome=true):jk P o a #[.int .i64 n0,.int .i64 n1] e 2:=
 Bu t e 2 _ ho [n0,n1] hu hsz hz rfl oa da (by simp[h0,h1])
theorem lD {l:List Oper} {e:Nat} {Q:Exit->Act->World->Prop} {f:Nat} {listed:Array Bool} {a:Act} {w:World} (i j:Nat) {oi oj:Oper} {ci cj:Array Value} {ti tj:TypeId} {ni nj:Nat}
 (hoi:l[i]?=some oi) (hgi:oi.guard=none) (hoj:l[j]?=some oj) (hgj:oj.guard=none) (hij:i≠j)
 (hr:Region.ready .any l.toArray listed=[i,j]) (hri:Region.ready .any l.toArray (listed.setIfInBounds i true)=[j]) (hrj:Region.ready .any l.toArray (listed.setIfInBounds j true)=[i])
 (hd:oi.dst≠oj.dst) (hai:jk P oi a ci ti ni) (haj:jk P oj a cj tj nj) (hai':∀u,jk P oi (a.put oj.dst u) ci ti ni) (haj':∀u,jk P oj (a.put oi.dst u) cj tj nj)
 (h:∀b1 b2 w',bl w w'->af w' b1 ci ti->af w' b2 cj tj->nU P .any l.toArray e Q f ((listed.setIfInBounds i true).setIfInBounds j true) ((a.put oi.dst (.slice (some ⟨b1,0,none⟩) ni ni)).put oj.dst (.slice (some ⟨b2,0,none⟩) nj nj)) w'):
 nU P .any l.toArray e Q (f+1+1) listed a w:=by
 refine F_ i j hoi hgi hoj hgj hr (fun w1 h1 K hK=>hai w1 K fun b w2 h2 nb=>hK _ _ h2 ?_) (fun w1 h1 K hK=>haj w1 K fun b w2 h2 nb=>hK _ _ h2 ?_)
 ·exact kr j hoj hgj hri fun w3 h3 K' hK'=>haj' _ w3 K' fun b' w4 h4 nb'=>hK' _ _ h4 (h b b' w4 (((h1.trans h2).trans h3).trans h4) ((nb.below h3 nb.lt).below h4 (nb.below h3 nb.lt).lt) nb')
 ·refine kr i hoi hgi hrj fun w3 h3 K' hK'=>hai' _ w3 K' fun b' w4 h4 nb'=>hK' _ _ h4 ?_
  have:=h b' b w4 (((h1.trans h2).trans h3).trans h4) nb' ((nb.below h3 nb.lt).below h4 (nb.below h3 nb.lt).lt)
  rw[Array.setIfInBounds_comm _ _ hij]at this
  rw[Act.put_comm a _ _ (fun d hd1 hd2=>hd (hd1.trans hd2.symm))]at this
  exact this
end
section
variable{P:Program}
theorem f_ {t e:TypeId} {n i:Nat} {cs:Array Value} {v:Value} {d:TypeDesc} {inf:TypeInfo} (ht:P.underlying t=some (.array n e)) (he:P.underlying e=some d)
 (hd:(match d with|.struct _|.array _ _=>true|_=>false)=false) (hs:P.info? e=some inf) (hc:P.cellsOf e=1) (hi:i<n) (hv:cs[i]?=some v) (w:World):(Instr.index t (.agg cs) (.int .i64 i)).run P w=.ok v w:=by
 have ha:∀w,(isAgg e).run P w=.ok false w:=fun w=>by cases d<;>simp_all [isAgg,run_underlying he]
 have hz:∀w,(sizeOf e).run P w=.ok 1 w:=fun w=>by rw[run_sizeOf w hs,hc]
 simp[Instr.index,asIntOf,run_underlying ht,hi,hz,part,ha,hv]
theorem aZ {ops:Array Oper} {rest:List Oper} {o:Oper} {a:Act} {w:World} {Q:Exit->Act->World->Prop} (hw:Region.wanted o (yielded ops a.tmps)=true) (t:TypeId) (x y:Operand) (ho:o.op=.index t x y)
 (cs:Array Value) (hx:a.eval x=.agg cs) (i:Nat) (z:Int) (hz:z=i) (hy:a.eval y=.int .i64 z) (v:Value) (h1:∀w,(Instr.index t (.agg cs) (.int .i64 (i:Nat))).run P w=.ok v w)
 (h:wpList P ops Q rest (a.put o.dst v) w):wpList P ops Q (o::rest) a w:=
 wpList_step fun K hK=>by
  rw[if_pos hw]
  subst hz
  unfold Oper.wp execOp
  simp only[ho,hx,hy,Sem.run_bind,h1,Result.andThen_ok,Sem.run_pure]
  exact hK _ _ h
end
end Go.Proofs.YtbhahonkhiiilaaGreat.Dt
namespace Go.Proofs.YtbhahonkhiiilaaGreat
open Go Go.RowKit
section
variable{P:Program}
theorem o4 {o:Oper} {a:Act} {w:World} {K:Act->World->Prop} {Q:Exit->Act->World->Prop} (ty:TypeId) (x y:Operand) (ho:o.op=.store ty x y)
 (g:Nat) (hx:a.eval x=.pointer (some ⟨g,0,none⟩)) (c':Array Value) (hy:a.eval y=.agg c') (t:TypeId) (c:Array Value) (hg:af w g c t)
 (hi:(P.info? ty).map (·.size)=some c'.size) (hs:c.size=c'.size) (h1:c'.all (·.oneCell')=true)
 (h:K (a.put o.dst undef) (w.setRow g c')):o.wp P a w K Q:=by
 unfold Oper.wp execOp
 simp only[ho,hx,hy,Instr.storeAt,Instr.sureAddr,Sem.run_bind,Sem.run_pure,Result.andThen_ok,run_storeVar_row w g t ty c c' hg hi hs h1]
 exact h
end
end Go.Proofs.YtbhahonkhiiilaaGreat
