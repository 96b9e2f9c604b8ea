/-
  Products of quaternions, in the package and in its specification.
-/
import Derived.Test.YtbhahonkhiiilaaGreatQuatC
set_option linter.unusedSimpArgs false
set_option linter.unusedVariables false
set_option maxRecDepth 100000
set_option maxHeartbeats 4000000
namespace Go.Proofs.YtbhahonkhiiilaaGreat
section
open Go.RowKit PM Dt
theorem Ac (x er:Nat->Int) (c1 c2 c3:Value) (w:World)
 (hf:Hid (∀i:Nat,i<4->∀w1,Below w.heap.size w w1->Calls Tryz.prog 69 #[.int .i64 i,c1,c2,c3] w1 fun e w'=>e=.returned (.tuple #[.int .i64 (x i),.int .i64 (er i)])/\Below w1.heap.size w1 w')):
 Calls Tryz.prog 30 #[.func (.func 69) #[] #[c1,c2,c3]] w fun e w'=>e=.returned (.agg (aj x))/\Below w.heap.size w w':=by
 go_enter Tryz.func30,Tryz.ntmps30
 go_upto_region 2 with(fail)
 rw[bP]
 have p:af ((w.alloc (.cells (aj fun _=>0) 23)).alloc (.cells (aj fun _=>0) 23)) w.heap.size (aj fun _=>0) 23:=(af.new _ _ _).alloc _
 have q:af ((w.alloc (.cells (aj fun _=>0) 23)).alloc (.cells (aj fun _=>0) 23)) (w.heap.size+1) (aj fun _=>0) 23:=af.new' sd
 have hB:Below w.heap.size w ((w.alloc (.cells (aj fun _=>0) 23)).alloc (.cells (aj fun _=>0) 23)):=by go_grown
 generalize(w.alloc (.cells (aj fun _=>0) 23)).alloc (.cells (aj fun _=>0) 23)=w0 at *
 go_wp2_with (fail)
 go_loopg [5] 4 (fun g iv wr=>∃k:Nat,g+k=4/\iv=.int .i64 k/\af wr w.heap.size (aj fun _=>0) 23/\af wr (w.heap.size+1) (aj (dh x k)) 23/\Below w.heap.size w wr)
 case atStart=>exact⟨0,rfl,rfl,p,by rw[show aj (dh x 0)=aj (fun _=>0)from dN fun i _=>by simp[dh]];exact q,hB⟩
 case round=>
  clear p q hB
  obtain⟨k,hk,rfl,p,q,hB⟩:=hrel
  by_cases hkn:k<4
  ·have hdk:decide ((k:Int)<4)=true:=dT oa
   have hdk':decide (k<4)=true:=dT oa
   have hw3:IntKind.i64.wrap ((k:Int)+1)=((k+1:Nat):Int):=by rw[wI];omega
   have HC:=aa (hf.out k hkn)
   have hi4:(k:Int)<4:=oa
   go_wp2_with (go_at_call 69;refine(HC.out _ hB).mono ?_;rintro e w1 ⟨rfl,hb⟩;replace hB:=hB.trans (hb.mono hB.size);replace p:=p.below hb p.lt;replace q:=q.below hb q.lt;clear hb;have fz:w1.frozen? ⟨w.heap.size+1,k,none⟩=false:=q.free _;have cz:w1.cell? ⟨w.heap.size+1,k,none⟩=some (.int .i64 (dh x k k)):=q.cellIs (aD _ hkn))
   go_roundg (4-(k+1))
   case rel=>
    refine⟨k+1,oa,rfl,p.setOther sd _,q.set' (kg hkn ?_ ?_),hB.setCell sd _⟩
    ·simp[dh]
    ·intro j hj hne;simp only[dh];split<;>split<;>first|rfl|omega
   case measure=>omega
  ·obtain rfl:k=4:=oa
   have e4:aj (dh x 4)=aj x:=dN fun i hi=>by simp[dh,hi]
   rw[e4]at q
   go_wp2_with (first|(refine ac ?hw _ _ rfl _ rfl _ _ _ _ q yb rfl ?hi ?_;(case hw=>exact rW);(case hi=>exact rI))|(refine ag rfl _ _ _ rfl _ rfl _ rfl _ _ p rI (by simp only[ak]) (bF _) ?_))
   refine bodyPost_ret (results_cell_row rfl _ _ _ _ _ _ _ rfl (p.row (aj x)) yb rfl rI) rfl ?_;refine⟨?_,Below.setRow hB oa _⟩
   rfl
def aY (f g:Nat->Int):Nat->Int:=if eX f&&eX g then IC f g else fun _=>0
def r7 (f g:Nat->Int):Int:=if eX f&&eX g then 0 else 2
set_option maxHeartbeats 4000000 in
theorem rY (f g:Nat->Int) (w:World):Calls Tryz.prog 28 #[.agg (aj f),.agg (aj g)] w fun e w'=>e=.returned (.tuple #[.agg (aj (aY f g)),.int .i64 (r7 f g)])/\Below w.heap.size w w':=by
 have V1:=Lib.hid (fun w=>iU f w)
 have V2:=Lib.hid (fun w=>iU g w)
 unfold aY r7
 obtain⟨bf,hf⟩:∃b,eX f=b:=⟨_,rfl⟩
 obtain⟨bg,hg⟩:∃b,eX g=b:=⟨_,rfl⟩
 rw[hf]at V1|-
 rw[hg]at V2|-
 have HF:=Lib.hid hf
 have HG:=Lib.hid hg
 obtain⟨X,hX⟩:∃X,X=IC f g:=⟨_,rfl⟩
 rw[<-hX]
 have HX0:=Lib.hid hX
 clear hf hg hX
 go_enter Tryz.func28,Tryz.ntmps28
 go_upto_region 1 with(fail)
 rw[bP]
 have p:af (((w.alloc (.cells (aj f) 23)).alloc (.cells (aj g) 23)).alloc (.cells (aj fun _=>0) 23)) w.heap.size (aj f) 23:=((af.new _ _ _).alloc _).alloc _
 have q:af (((w.alloc (.cells (aj f) 23)).alloc (.cells (aj g) 23)).alloc (.cells (aj fun _=>0) 23)) (w.heap.size+1) (aj g) 23:=(af.new' (by simp)).alloc _
 have r:af (((w.alloc (.cells (aj f) 23)).alloc (.cells (aj g) 23)).alloc (.cells (aj fun _=>0) 23)) (w.heap.size+1+1) (aj fun _=>0) 23:=af.new' (by simp)
 have hB:Below w.heap.size w (((w.alloc (.cells (aj f) 23)).alloc (.cells (aj g) 23)).alloc (.cells (aj fun _=>0) 23)):=by go_grown
 generalize((w.alloc (.cells (aj f) 23)).alloc (.cells (aj g) 23)).alloc (.cells (aj fun _=>0) 23)=w0 at *
 cases bf
 ·go_wp2_with (first
   |(refine ac ?hw _ _ rfl _ rfl _ _ _ _ p Tryz.underlying23 rfl ?hi ?_;(case hw=>(first|rfl|(simp[Region.wanted,yielded];done)));(case hi=>(rw[ak];kernel_rfl)))
   |(refine ac ?hw _ _ rfl _ rfl _ _ _ _ q Tryz.underlying23 rfl ?hi ?_;(case hw=>(first|rfl|(simp[Region.wanted,yielded];done)));(case hi=>(rw[ak];kernel_rfl)))
   |(go_at_call 68;with_reducible refine(V1.out _).mono ?_;rintro e w1 ⟨rfl,hb⟩;replace hB:=hB.trans (hb.mono hB.size);replace p:=p.below hb p.lt;replace q:=q.below hb q.lt;replace r:=r.below hb r.lt;clear hb)
   |(go_at_call 68;with_reducible refine(V2.out _).mono ?_;rintro e w1 ⟨rfl,hb⟩;replace hB:=hB.trans (hb.mono hB.size);replace p:=p.below hb p.lt;replace q:=q.below hb q.lt;replace r:=r.below hb r.lt;clear hb)
   |(rw[bP];refine ag rfl _ _ _ rfl _ rfl _ rfl _ _ r (by rw[ak];kernel_rfl) (by simp only[ak]) (bF _) ?_))
  refine bodyPost_ret (aq rfl _ _ _ _ _ _ _ rfl (r.row (aj (fun _=>0))) Tryz.underlying23 rfl (by rw[ak];kernel_rfl)) rfl ?_;refine⟨?_,Below.setRow hB (by omega) _⟩
  rfl
 cases bg
 ·go_wp2_with (first
   |(refine ac ?hw _ _ rfl _ rfl _ _ _ _ p Tryz.underlying23 rfl ?hi ?_;(case hw=>(first|rfl|(simp[Region.wanted,yielded];done)));(case hi=>(rw[ak];kernel_rfl)))
   |(refine ac ?hw _ _ rfl _ rfl _ _ _ _ q Tryz.underlying23 rfl ?hi ?_;(case hw=>(first|rfl|(simp[Region.wanted,yielded];done)));(case hi=>(rw[ak];kernel_rfl)))
   |(go_at_call 68;with_reducible refine(V1.out _).mono ?_;rintro e w1 ⟨rfl,hb⟩;replace hB:=hB.trans (hb.mono hB.size);replace p:=p.below hb p.lt;replace q:=q.below hb q.lt;replace r:=r.below hb r.lt;clear hb)
   |(go_at_call 68;with_reducible refine(V2.out _).mono ?_;rintro e w1 ⟨rfl,hb⟩;replace hB:=hB.trans (hb.mono hB.size);replace p:=p.below hb p.lt;replace q:=q.below hb q.lt;replace r:=r.below hb r.lt;clear hb)
   |(rw[bP];refine ag rfl _ _ _ rfl _ rfl _ rfl _ _ r (by rw[ak];kernel_rfl) (by simp only[ak]) (bF _) ?_))
  refine bodyPost_ret (aq rfl _ _ _ _ _ _ _ rfl (r.row (aj (fun _=>0))) Tryz.underlying23 rfl (by rw[ak];kernel_rfl)) rfl ?_;refine⟨?_,Below.setRow hB (by omega) _⟩
  rfl
 have HP:=Lib.hid (fun s b c w hs p q i hi=>Ea f g s b c w HF.out HG.out hs p q i hi)
 rw[<-HX0.out]at HP
 go_upto_region 4 with(first
  |(refine ac ?hw _ _ rfl _ rfl _ _ _ _ p Tryz.underlying23 rfl ?hi ?_;(case hw=>(first|rfl|(simp[Region.wanted,yielded];done)));(case hi=>(rw[ak];kernel_rfl)))
  |(refine ac ?hw _ _ rfl _ rfl _ _ _ _ q Tryz.underlying23 rfl ?hi ?_;(case hw=>(first|rfl|(simp[Region.wanted,yielded];done)));(case hi=>(rw[ak];kernel_rfl)))
  |(go_at_call 68;with_reducible refine(V1.out _).mono ?_;rintro e w1 ⟨rfl,hb⟩;replace hB:=hB.trans (hb.mono hB.size);replace p:=p.below hb p.lt;replace q:=q.below hb q.lt;replace r:=r.below hb r.lt;clear hb)
  |(go_at_call 68;with_reducible refine(V2.out _).mono ?_;rintro e w1 ⟨rfl,hb⟩;replace hB:=hB.trans (hb.mono hB.size);replace p:=p.below hb p.lt;replace q:=q.below hb q.lt;replace r:=r.below hb r.lt;clear hb)
  |(refine ag rfl _ _ _ rfl _ rfl jN (by rw[BN];rfl) _ _ (af.new _ _ _) (by rw[rf];kernel_rfl) (by rw[rf];rfl) C9 ?_))
 have s:=(af.new w1 #[.int .i64 0,.int .i64 0,.int .i64 0,.int .i64 0,.int .i64 0,.int .i64 0,.int .i64 0,.int .i64 0,.int .i64 0,.int .i64 0,.int .i64 0,.int .i64 0,.int .i64 0,.int .i64 0,.int .i64 0,.int .i64 0] 98).row jN
 have hne:∀x,x<w1.heap.size->x≠w1.heap.size:=fun x hx=>Nat.ne_of_lt hx
 replace p:=(p.alloc (.cells #[.int .i64 0,.int .i64 0,.int .i64 0,.int .i64 0,.int .i64 0,.int .i64 0,.int .i64 0,.int .i64 0,.int .i64 0,.int .i64 0,.int .i64 0,.int .i64 0,.int .i64 0,.int .i64 0,.int .i64 0,.int .i64 0] 98)).rowOther (hne _ p.lt) jN
 replace q:=(q.alloc (.cells #[.int .i64 0,.int .i64 0,.int .i64 0,.int .i64 0,.int .i64 0,.int .i64 0,.int .i64 0,.int .i64 0,.int .i64 0,.int .i64 0,.int .i64 0,.int .i64 0,.int .i64 0,.int .i64 0,.int .i64 0,.int .i64 0] 98)).rowOther (hne _ q.lt) jN
 replace r:=(r.alloc (.cells #[.int .i64 0,.int .i64 0,.int .i64 0,.int .i64 0,.int .i64 0,.int .i64 0,.int .i64 0,.int .i64 0,.int .i64 0,.int .i64 0,.int .i64 0,.int .i64 0,.int .i64 0,.int .i64 0,.int .i64 0,.int .i64 0] 98)).rowOther (hne _ r.lt) jN
 replace hB:=Below.setRow (hB.alloc hB.size (.cells #[.int .i64 0,.int .i64 0,.int .i64 0,.int .i64 0,.int .i64 0,.int .i64 0,.int .i64 0,.int .i64 0,.int .i64 0,.int .i64 0,.int .i64 0,.int .i64 0,.int .i64 0,.int .i64 0,.int .i64 0,.int .i64 0] 98)) (g:=w1.heap.size) hB.size jN
 clear hne
 generalize(w1.alloc (.cells #[.int .i64 0,.int .i64 0,.int .i64 0,.int .i64 0,.int .i64 0,.int .i64 0,.int .i64 0,.int .i64 0,.int .i64 0,.int .i64 0,.int .i64 0,.int .i64 0,.int .i64 0,.int .i64 0,.int .i64 0,.int .i64 0] 98)).setRow w1.heap.size jN=w2 at *
 generalize w1.heap.size=sb at *
 go_wp2_with (first
  |(go_at_call 30;refine(Ac X (fun _=>0) _ _ _ _ (fun i hi wx hx=>HP.out _ _ _ _ (s.below hx s.lt) (p.below hx p.lt) (q.below hx q.lt) i hi)).mono ?_;rintro e w3 ⟨rfl,hb⟩;replace hB:=hB.trans (hb.mono hB.size);replace r:=r.below hb r.lt;clear hb)
  |(refine ag rfl _ _ _ rfl _ rfl _ rfl _ _ r (by rw[ak];kernel_rfl) (by simp only[ak]) (bF _) ?_))
 refine bodyPost_ret (aq rfl _ _ _ _ _ _ _ rfl (r.row (aj X)) Tryz.underlying23 rfl (by rw[ak];kernel_rfl)) rfl ?_;refine⟨?_,Below.setRow hB (by omega) _⟩
 rfl
def jL (a b c d:Int):Nat->Int
 |0=>a
 |1=>b
 |2=>c
 |_=>d
theorem q7 {f:Nat->Int} (hI:∀i,i<4->bu (f i)) (h:au f=true):eX f=true:=by
 cases hb:eX f with
 |true=>rfl
 |false=>rw[I_ hI hb]at h;cases h
def sm (a:Int):Bool:=decide (-35184372088832<a)&&decide (a<35184372088832)
theorem j2 (a:Int):sm a=true↔(-35184372088832<a/\a<35184372088832):=by unfold sm;rw[Bool.and_eq_true,decide_eq_true_eq,decide_eq_true_eq]
def vO (n:Nat) (f:Nat->Int):Bool:=(List.range n).all fun i=>sm (f i)
theorem oz (n:Nat) (f:Nat->Int):vO n f=true↔∀i,i<n->sm (f i)=true:=by
 unfold vO;rw[List.all_eq_true]
 exact⟨fun h i hi=>h i (List.mem_range.2 hi),fun h i hi=>h i (List.mem_range.1 hi)⟩
theorem Hl {n:Nat} {f:Nat->Int} {i:Nat} (hi:i<n) (h:sm (f i)=false):vO n f=false:=by
 rw[Bool.eq_false_iff];intro h2
 rw[(oz n f).1 h2 i hi]at h;cases h
def zN (f:Nat->Int):Nat->Int:=fun i=>2*f i
def j7 (n:Nat):Nat->(Nat->Int)->(Nat->Int)
 |0,f=>f
 |k+1,f=>if vO n f then j7 n k (zN f)else f
def tK (n k:Nat) (f:Nat->Int):Prop:=∃i,i<n/\(35184372088832:Int)<=2^k* (f i).natAbs
def GP (n:Nat) (f:Nat->Int):Prop:=∀i,i<n->-70368744177664<=f i/\f i<=70368744177664
theorem pj {n:Nat} {f:Nat->Int} (h:tK n 0 f):vO n f=false:=by
 obtain⟨i,hi,h⟩:=h
 refine Hl hi ?_
 rw[Bool.eq_false_iff];intro h2
 have:=(j2 _).1 h2
 rw[Int.pow_zero,Int.one_mul]at h
 omega
theorem t_ {n k:Nat} {f:Nat->Int} (h:tK n (k+1) f):tK n k (zN f):=by
 obtain⟨i,hi,h⟩:=h
 refine⟨i,hi,?_⟩
 have e:((zN f i).natAbs:Int)=2* (f i).natAbs:=by unfold zN;omega
 rw[e,<-Int.mul_assoc]
 rw[Int.pow_succ]at h
 exact h
theorem Aq {n:Nat} {f:Nat->Int} {i:Nat} (hi:i<n) (h:f i≠0):tK n 45 f:=by
 refine⟨i,hi,?_⟩
 have:(1:Int)<=(f i).natAbs:=oa
 have e:(2:Int)^45=35184372088832:=da
 rw[e];omega
theorem ur {n:Nat} {f:Nat->Int} (h:vO n f=true):GP n (zN f):=by
 intro i hi
 have:=(j2 _).1 ((oz n f).1 h i hi)
 unfold zN;omega
theorem G8 {n:Nat} {f:Nat->Int} (h:GP n f):∀i,i<n->bu (f i):=fun i hi=>⟨by have:=(h i hi).1;omega,by have:=(h i hi).2;omega⟩
theorem oX {n k:Nat} {f:Nat->Int} (h:vO n f=false):j7 n k f=f:=by
 cases k with
 |zero=>rfl
 |succ k=>rw[j7,if_neg (by rw[h];simp)]
theorem m9 {n k:Nat} {f:Nat->Int} (h:vO n f=true):j7 n (k+1) f=j7 n k (zN f):=by rw[j7,if_pos h]
theorem vn {n:Nat}:∀(k:Nat) (f:Nat->Int),GP n f->GP n (j7 n k f)
 |0,f,h=>h
 | k+1,f,h=>by
   by_cases hs:vO n f=true
   ·rw[m9 hs];exact vn k (zN f) (ur hs)
   ·rw[oX (by simpa using hs)];exact h
end
section
open Go.RowKit Dt
def mx (x y:Int):Int:=if y >x then y else x
theorem FP {P:Program} (w:World) (ats:Array TypeId) (ty:TypeId):∀(xs:List Int) (x:Int),(Builtin.max_ ats ty (((x::xs).map (Value.int .i64)).toArray)).run P w=.ok (.int .i64 (xs.foldl mx x)) w:=by
 have key:∀(xs:List Int) (x:Int),((xs.map (Value.int .i64)).foldlM Builtin.max2 (Value.int .i64 x)).run P w=.ok (.int .i64 (xs.foldl mx x)) w:=by
  intro xs
  induction xs with
  |nil=>intro x;rfl
  | cons y ys ih=>
    intro x
    rw[List.map_cons,List.foldlM_cons,Sem.run_bind]
    have:(Builtin.max2 (Value.int .i64 x) (Value.int .i64 y)).run P w=.ok (.int .i64 (mx x y)) w:=rfl
    rw[this,Result.andThen_ok,ih]
    rfl
 intro xs x
 exact key xs x
theorem C1 {c:Int}:∀(xs:List Int) (x:Int),(xs.foldl mx x<c)↔(x<c/\∀y∈xs,y<c)
 |[],x=>by simp
 | y::ys,x=>by
   rw[List.foldl_cons,C1 ys]
   have:(mx x y<c)↔(x<c/\y<c):=by unfold mx;split<;>omega
   rw[this]
   simp only[List.mem_cons,forall_eq_or_imp]
   exact⟨fun⟨⟨a,b⟩,d⟩=>⟨a,b,d⟩,fun⟨a,b,d⟩=>⟨⟨a,b⟩,d⟩⟩
theorem fH {P:Program} {ops:Array Oper} {rest:List Oper} {o:Oper} {a:Act} {w:World} {Q:Exit->Act->World->Prop} (hg:o.guard=none) {args:Array Operand} {ats:Array TypeId}
 (ho:o.op=Op.call {callee:=Callee.builtin Builtin.max,args:=args,argTypes:=ats}) (xs:List Int) (x M:Int) (hM:xs.foldl mx x=M) (hargs0:args.toList.map a.eval=(x::xs).map (Value.int .i64))
 (h:wpList P ops Q rest (a.put o.dst (.int .i64 M)) w):wpList P ops Q (o::rest) a w:=by
 refine nM (.int .i64 M) hg ?_ h
 have hargs:args.map a.eval=((x::xs).map (Value.int .i64)).toArray:=by
  rw[<-hargs0];apply Array.ext';simp
 have hr:=FP (P:=P) w ats o.type xs x
 rw[hM,<-hargs]at hr
 simp[execOp,ho,resolve,invoke,builtin,hr,Result.andThen,gU]
end
section
open Go.RowKit PM Dt
def IL (f:Nat->Int):Int:=[-f 0,f 1,-f 1,f 2,-f 2,f 3,-f 3].foldl mx (f 0)
theorem Ij (f:Nat->Int):decide (IL f<35184372088832)=vO 4 f:=by
 have h1:(IL f<35184372088832)↔vO 4 f=true:=by
  unfold IL
  rw[C1,oz]
  simp only[List.mem_cons,List.not_mem_nil,or_false,forall_eq_or_imp,forall_eq]
  constructor
  ·rintro⟨a,b,c,d,e,g,h,i⟩ j hj
   rw[j2]
   have:j=0\/j=1\/j=2\/j=3:=oa
   rcases this with rfl|rfl|rfl|rfl<;>omega
  ·intro h
   have h0:=(j2 _).1 (h 0 oa)
   have h1:=(j2 _).1 (h 1 oa)
   have h2:=(j2 _).1 (h 2 oa)
   have h3:=(j2 _).1 (h 3 oa)
   omega
 cases hb:vO 4 f with
 |true=>exact dT (h1.2 hb)
 |false=>exact dF fun hc=>by rw[h1.1 hc]at hb;cases hb
theorem uB (f:Nat->Int) (w:World) (h:GP 4 f):Calls Tryz.prog 84 #[.agg (aj f)] w fun e w'=>e=.returned (.int .i64 (IL f))/\Below w.heap.size w w':=by
 have n0:wrap64 (-f 0)=-f 0:=by have:=h 0 oa;unfold wrap64;omega
 have n1:wrap64 (-f 1)=-f 1:=by have:=h 1 oa;unfold wrap64;omega
 have n2:wrap64 (-f 2)=-f 2:=by have:=h 2 oa;unfold wrap64;omega
 have n3:wrap64 (-f 3)=-f 3:=by have:=h 3 oa;unfold wrap64;omega
 have hM:Hid ([wrap64 (-f 0),f 1,wrap64 (-f 1),f 2,wrap64 (-f 2),f 3,wrap64 (-f 3)].foldl mx (f 0)=IL f):=by show _=_;rw[n0,n1,n2,n3];rfl
 generalize IL f=M at *
 clear h
 go_enter Tryz.func84,Tryz.ntmps84
 go_upto_region 1 with(fail)
 have p:af (w.alloc (.cells (aj f) 23)) w.heap.size (aj f) 23:=af.new _ _ _
 have hB:Below w.heap.size w (w.alloc (.cells (aj f) 23)):=by go_grown
 generalize w.alloc (.cells (aj f) 23)=w0 at *
 have c0:w0.cell? ⟨w.heap.size,0,none⟩=some (.int .i64 (f 0)):=p.cellIs (aD f oa)
 have c1:w0.cell? ⟨w.heap.size,1,none⟩=some (.int .i64 (f 1)):=p.cellIs (aD f oa)
 have c2:w0.cell? ⟨w.heap.size,2,none⟩=some (.int .i64 (f 2)):=p.cellIs (aD f oa)
 have c3:w0.cell? ⟨w.heap.size,3,none⟩=some (.int .i64 (f 3)):=p.cellIs (aD f oa)
 go_wp2_with (refine fH rfl rfl _ _ _ hM.out rfl ?_)
 go_ret
 exact⟨rfl,hB⟩
def zQ (f:Nat->Int):Bool:=(List.range 4).all fun j=>f j==0
theorem GV {f:Nat->Int} (h:zQ f=false):tK 4 45 f:=by
 have:∃j,j<4/\f j≠0:=by
  apply bC
  intro hn
  have:zQ f=true:=by
   unfold zQ;rw[List.all_eq_true]
   intro j hj
   have hj:=List.mem_range.1 hj
   exact beq_iff_eq.2 (bC fun hc=>hn ⟨j,hj,hc⟩)
  rw[h]at this;cases this
 obtain⟨j,hj,hz⟩:=this
 exact Aq hj hz
theorem Cw {f:Nat->Int} (h:eX f=true):GP 4 f:=fun i hi=>by
 have:=(bE _).1 ((bN f).1 h i hi)
 omega
def uN (f:Nat->Int):Int:=dG (nQ (j7 4 45 f))
def uX (f:Nat->Int) (i:Nat):Int:=bG (j7 4 45 f i) 1073741824 (uN f)
def df (f:Nat->Int):Nat->Int:=if eX f then(if zQ f then fun _=>0 else uX f)else fun _=>0
def te (f:Nat->Int):Int:=if eX f then(if zQ f then 4 else 0)else 2
theorem um (f:Nat->Int) (w:World):(Op.equalIn 10000 23 (.agg (aj f)) (.agg #[.int .i64 0,.int .i64 0,.int .i64 0,.int .i64 0])).run Tryz.prog w=.ok (zQ f) w:=by
 rw[bP]
 obtain⟨i,hi⟩:∃i,Tryz.prog.info? 2=some i:=Option.isSome_iff_exists.1 ke
 have hc:Tryz.prog.cellsOf 2=1:=ke
 exact fg (P:=Tryz.prog) yb hi hc Tryz.underlying2 f (fun _=>0) (aj f) (aj fun _=>0) (fun j hj=>aD _ hj) (fun j hj=>aD _ hj) 9998 w
theorem zT (F:Nat->Int) (N:Int) (b c:Nat) (t:TypeId) (w:World) (hF:GP 4 F) (hN:bu N) (p:af w b (aj F) 23) (q:af w c #[.int .i64 N] t) (i:Nat) (hi:i<4):
 Calls Tryz.prog 85 #[.int .i64 i,.pointer (some ⟨b,0,none⟩),.pointer (some ⟨c,0,none⟩)] w fun e w'=>e=.returned (.tuple #[.int .i64 (bG (F i) 1073741824 N),.int .i64 (lx (F i) 1073741824 N)])/\Below w.heap.size w w':=by
 have R:=aa (fun w=>iw (F i) 1073741824 N w (G8 hF i hi) ⟨da,da⟩ hN)
 generalize bG (F i) 1073741824 N=V at *
 generalize lx (F i) 1073741824 N=E at *
 have hdk:decide ((i:Int)<4)=true:=dT oa
 have hdk':decide (i<4)=true:=dT hi
 have hi3:(i:Int)<4:=oa
 clear hF hN
 go_enter Tryz.func85,Tryz.ntmps85
 go_upto_region 1 with(fail)
 have hB:bl w w:=Below.refl _ _
 refine bV 99 9 rfl ke ?_
 replace p:=p.drew
 replace q:=q.drew
 replace hB:bl w w.drew:=hB.drew
 generalize w.drew=wo at *
 refine ai 0 (.int .i64 i) rfl rfl ke (fun w1=>by go_simp;exact⟨rfl,Below.refl _ _⟩) ?_
 simp only[Act.put,aL,aM,aN]
 refine ai 1 (.pointer (some ⟨b,i,none⟩)) rfl rfl ke (fun w1=>by go_simp;first|exact⟨rfl,Below.refl _ _⟩|(rw[if_pos hi3];exact⟨rfl,Below.refl _ _⟩)) ?_
 simp only[Act.put,aL,aM,aN]
 refine aV 2 (.int .i64 (F i)) rfl rfl ke ke (fun w1 h1=>by have hc:w1.cell? ⟨b,i,none⟩=some (.int .i64 (F i)):=(p.below h1 p.lt).cellIs (aD _ hi);go_simp;exact⟨rfl,Below.refl _ _⟩) ?_
 simp only[Act.put,aL,aM,aN]
 refine aV 3 (.int .i64 N) rfl rfl ke ke (fun w1 h1=>by have hc:w1.cell? ⟨c,0,none⟩=some (.int .i64 N):=(q.below h1 q.lt).cellIs rfl;go_simp;exact⟨rfl,Below.refl _ _⟩) ?_
 simp only[Act.put,aL,aM,aN]
 refine aV 4 (.tuple #[.int .i64 V,.int .i64 E]) rfl rfl ke ke (fun w1 h1=>?_) ?_
 ·go_simp
  exact(R.out _).mono rC
 simp only[Act.put,aL,aM,aN]
 refine ai 5 (.int .i64 V) rfl rfl ke (fun w1=>by go_simp;exact⟨rfl,Below.refl _ _⟩) ?_
 simp only[Act.put,aL,aM,aN]
 refine ai 6 (.int .i64 E) rfl rfl ke (fun w1=>by go_simp;exact⟨rfl,Below.refl _ _⟩) ?_
 simp only[Act.put,aL,aM,aN]
 refine ai 7 (.int .i64 V) rfl rfl ke (fun w1=>by go_simp;exact⟨rfl,Below.refl _ _⟩) ?_
 simp only[Act.put,aL,aM,aN]
 refine ai 8 (.int .i64 E) rfl rfl ke (fun w1=>by go_simp;exact⟨rfl,Below.refl _ _⟩) ?_
 simp only[Act.put,aL,aM,aN]
 refine dq ke (fun w3 h3=>?_)
 replace hB:=bl.trans hB h3
 go_wp2_with (fail)
 go_ret2
 exact⟨rfl,hB⟩
theorem zH (x er:Nat->Int) (c1 c2:Value) (w:World)
 (hf:Hid (∀i:Nat,i<4->∀w1,Below w.heap.size w w1->Calls Tryz.prog 85 #[.int .i64 i,c1,c2] w1 fun e w'=>e=.returned (.tuple #[.int .i64 (x i),.int .i64 (er i)])/\Below w1.heap.size w1 w')):
 Calls Tryz.prog 30 #[.func (.func 85) #[] #[c1,c2]] w fun e w'=>e=.returned (.agg (aj x))/\Below w.heap.size w w':=by
 go_enter Tryz.func30,Tryz.ntmps30
 go_upto_region 2 with(fail)
 rw[bP]
 have p:af ((w.alloc (.cells (aj fun _=>0) 23)).alloc (.cells (aj fun _=>0) 23)) w.heap.size (aj fun _=>0) 23:=(af.new _ _ _).alloc _
 have q:af ((w.alloc (.cells (aj fun _=>0) 23)).alloc (.cells (aj fun _=>0) 23)) (w.heap.size+1) (aj fun _=>0) 23:=af.new' sd
 have hB:Below w.heap.size w ((w.alloc (.cells (aj fun _=>0) 23)).alloc (.cells (aj fun _=>0) 23)):=by go_grown
 generalize(w.alloc (.cells (aj fun _=>0) 23)).alloc (.cells (aj fun _=>0) 23)=w0 at *
 go_wp2_with (fail)
 go_loopg [5] 4 (fun g iv wr=>∃k:Nat,g+k=4/\iv=.int .i64 k/\af wr w.heap.size (aj fun _=>0) 23/\af wr (w.heap.size+1) (aj (dh x k)) 23/\Below w.heap.size w wr)
 case atStart=>exact⟨0,rfl,rfl,p,by rw[show aj (dh x 0)=aj (fun _=>0)from dN fun i _=>by simp[dh]];exact q,hB⟩
 case round=>
  clear p q hB
  obtain⟨k,hk,rfl,p,q,hB⟩:=hrel
  by_cases hkn:k<4
  ·have hdk:decide ((k:Int)<4)=true:=dT oa
   have hdk':decide (k<4)=true:=dT oa
   have hw3:IntKind.i64.wrap ((k:Int)+1)=((k+1:Nat):Int):=by rw[wI];omega
   have HC:=aa (hf.out k hkn)
   have hi4:(k:Int)<4:=oa
   go_wp2_with (go_at_call 85;refine(HC.out _ hB).mono ?_;rintro e w1 ⟨rfl,hb⟩;replace hB:=hB.trans (hb.mono hB.size);replace p:=p.below hb p.lt;replace q:=q.below hb q.lt;clear hb;have fz:w1.frozen? ⟨w.heap.size+1,k,none⟩=false:=q.free _;have cz:w1.cell? ⟨w.heap.size+1,k,none⟩=some (.int .i64 (dh x k k)):=q.cellIs (aD _ hkn))
   go_roundg (4-(k+1))
   case rel=>
    refine⟨k+1,oa,rfl,p.setOther sd _,q.set' (kg hkn ?_ ?_),hB.setCell sd _⟩
    ·simp[dh]
    ·intro j hj hne;simp only[dh];split<;>split<;>first|rfl|omega
   case measure=>omega
  ·obtain rfl:k=4:=oa
   have e4:aj (dh x 4)=aj x:=dN fun i hi=>by simp[dh,hi]
   rw[e4]at q
   go_wp2_with (first|(refine ac ?hw _ _ rfl _ rfl _ _ _ _ q yb rfl ?hi ?_;(case hw=>exact rW);(case hi=>exact rI))|(refine ag rfl _ _ _ rfl _ rfl _ rfl _ _ p rI (by simp only[ak]) (bF _) ?_))
   refine bodyPost_ret (results_cell_row rfl _ _ _ _ _ _ _ rfl (p.row (aj x)) yb rfl rI) rfl ?_;refine⟨?_,Below.setRow hB oa _⟩
   rfl
theorem rm (f:Nat->Int) (w:World):Calls Tryz.prog 52 #[.agg (aj f)] w fun e w'=>e=.returned (.tuple #[.agg (aj (df f)),.int .i64 (te f)])/\Below w.heap.size w w':=by
 have V:=aa (fun w=>iU f w)
 have EQ0:=um f
 unfold df te
 obtain⟨X,hX⟩:∃X,uX f=X:=⟨_,rfl⟩
 rw[hX]
 have HX:=aa hX
 clear hX
 obtain⟨bk,hk⟩:∃b,eX f=b:=⟨_,rfl⟩
 obtain⟨bz,hz⟩:∃b,zQ f=b:=⟨_,rfl⟩
 rw[hk]at V|-
 rw[hz]at EQ0|-
 have HK:=aa hk
 have HZ:=aa hz
 clear hk hz
 go_enter Tryz.func52,Tryz.ntmps52
 go_upto_region 1 with(fail)
 rw[bP]
 have p:af ((w.alloc (.cells (aj f) 23)).alloc (.cells (aj fun _=>0) 23)) w.heap.size (aj f) 23:=(af.new _ _ _).alloc _
 have r:af ((w.alloc (.cells (aj f) 23)).alloc (.cells (aj fun _=>0) 23)) (w.heap.size+1) (aj fun _=>0) 23:=af.new' sd
 have hB:Below w.heap.size w ((w.alloc (.cells (aj f) 23)).alloc (.cells (aj fun _=>0) 23)):=by go_grown
 generalize(w.alloc (.cells (aj f) 23)).alloc (.cells (aj fun _=>0) 23)=w0 at *
 cases bk
 ·go_wp2_with (first|(refine ac ?hw _ _ rfl _ rfl _ _ _ _ p yb rfl ?hi ?_;(case hw=>exact rW);(case hi=>exact rI))|(go_at_call 68;with_reducible refine(V.out _).mono ?_;rintro e w1 ⟨rfl,hb⟩;replace hB:=hB.trans (hb.mono hB.size);replace p:=p.below hb p.lt;replace r:=r.below hb r.lt;clear hb)|(rw[bP];refine ag rfl _ _ _ rfl _ rfl _ rfl _ _ r rI (by simp only[ak]) (bF _) ?_))
  refine bodyPost_ret (aq rfl _ _ _ _ _ _ _ rfl (r.row (aj (fun _=>0))) yb rfl rI) rfl ?_;refine⟨?_,Below.setRow hB oa _⟩
  rfl
 cases bz
 case true=>
  go_wp2_with (first|(refine ac ?hw _ _ rfl _ rfl _ _ _ _ p yb rfl ?hi ?_;(case hw=>exact rW);(case hi=>exact rI))|(go_at_call 68;with_reducible refine(V.out _).mono ?_;rintro e w1 ⟨rfl,hb⟩;replace hB:=hB.trans (hb.mono hB.size);replace p:=p.below hb p.lt;replace r:=r.below hb r.lt;clear hb)|(rw[bP];refine ag rfl _ _ _ rfl _ rfl _ rfl _ _ r rI (by simp only[ak]) (bF _) ?_))
  refine bodyPost_ret (aq rfl _ _ _ _ _ _ _ rfl (r.row (aj (fun _=>0))) yb rfl rI) rfl ?_;refine⟨?_,Below.setRow hB oa _⟩
  rfl
 have HL:=aa (GV HZ.out)
 have HU:=aa (Cw HK.out)
 obtain⟨F,hF⟩:∃F,j7 4 45 f=F:=⟨_,rfl⟩
 have HF:=aa hF
 clear hF
 go_wp2_with (first|(refine ac ?hw _ _ rfl _ rfl _ _ _ _ p yb rfl ?hi ?_;(case hw=>exact rW);(case hi=>exact rI))|(go_at_call 68;with_reducible refine(V.out _).mono ?_;rintro e w1 ⟨rfl,hb⟩;replace hB:=hB.trans (hb.mono hB.size);replace p:=p.below hb p.lt;replace r:=r.below hb r.lt;clear hb))
 go_loopg [] 45 (fun k_ wr=>∃(k:Nat) (h:Nat->Int),k=k_/\Hid (tK 4 k h)/\Hid (GP 4 h)/\Hid (j7 4 k h=F)/\af wr w.heap.size (aj h) 23/\af wr (w.heap.size+1) (aj fun _=>0) 23/\Below w.heap.size w wr)
 case atStart=>exact⟨45,f,rfl,HL,HU,HF,p,r,hB⟩
 case round=>
  clear p r hB HL HU
  obtain⟨k,h,hk_,hlow,hupb,hF,p,r,hB⟩:=hrel
  have LG:=aa (fun w=>uB h w hupb.out)
  have lt:=Ij h
  generalize IL h=M at *
  obtain⟨bs,hs⟩:∃b,vO 4 h=b:=⟨_,rfl⟩
  rw[hs]at lt
  have HS:=aa hs
  clear hs
  cases bs
  ·--it is great enough
   have e:Hid (h=F):=(oX HS.out).symm.trans hF.out
   obtain rfl:h=F:=e.out
   have HN:=aa (fun b w t p=>vB h b w t (fun i hi=>G8 hupb.out i hi) p)
   have hnI:=CK (nQ h)
   have HX2:Hid (X=fun i=>bG (h i) 1073741824 (dG (nQ h))):=by show _=_;rw[<-HX.out];unfold uX uN;rw[HF.out]
   generalize dG (nQ h)=N at *
   generalize gu (nQ h)=E at *
   go_upto_region 12 with(first|(refine ac ?hw _ _ rfl _ rfl _ _ _ _ p yb rfl ?hi ?_;(case hw=>exact rW);(case hi=>exact rI))|(go_at_call 84;with_reducible refine(LG.out _).mono ?_;rintro e w2 ⟨rfl,hb⟩;replace hB:=hB.trans (hb.mono hB.size);replace p:=p.below hb p.lt;replace r:=r.below hb r.lt;clear hb)|(go_at_call 15;refine(HN.out _ _ _ p).mono ?_;rintro e w3 ⟨rfl,rfl⟩))
   have n1:=af.new w2 #[.int .i64 N] 2
   replace p:=p.alloc (.cells #[.int .i64 N] 2)
   replace r:=r.alloc (.cells #[.int .i64 N] 2)
   replace hB:=hB.alloc hB.size (.cells #[.int .i64 N] 2)
   generalize w2.alloc (.cells #[.int .i64 N] 2)=w4 at *
   generalize w2.heap.size=nb at *
   go_wp2_with (first
    |(go_at_call 30;refine(zH (fun i=>bG (h i) 1073741824 N) (fun i=>lx (h i) 1073741824 N) _ _ _ (fun i hi wx hx=>zT h N _ _ _ wx hupb.out hnI (p.below hx p.lt) (n1.below hx n1.lt) i hi)).mono ?_;rintro e w5 ⟨rfl,hb⟩;rw[<-HX2.out];replace hB:=hB.trans (hb.mono hB.size);replace r:=r.below hb r.lt;clear hb)
    |(refine ag rfl _ _ _ rfl _ rfl _ rfl _ _ r rI (by simp only[ak]) (bF _) ?_))
   refine bodyPost_ret (aq rfl _ _ _ _ _ _ _ rfl (r.row (aj X)) yb rfl rI) rfl ?_;refine⟨?_,Below.setRow hB oa _⟩
   rfl
  ·obtain⟨m,rfl⟩:∃m,k=m+1:=by
    cases k with
    |zero=>have:=pj hlow.out;rw[HS.out]at this;cases this
    |succ m=>exact⟨m,rfl⟩
   go_wp2_with (first|(refine ac ?hw _ _ rfl _ rfl _ _ _ _ p yb rfl ?hi ?_;(case hw=>exact rW);(case hi=>exact rI))|(go_at_call 84;with_reducible refine(LG.out _).mono ?_;rintro e w2 ⟨rfl,hb⟩;replace hB:=hB.trans (hb.mono hB.size);replace p:=p.below hb p.lt;replace r:=r.below hb r.lt;clear hb))
   go_loopg [20] 4 (fun g3 iv wi=>∃j:Nat,g3+j=4/\iv=.int .i64 j/\af wi w.heap.size (aj (fun q=>if q<j then 2*h q else h q)) 23/\af wi (w.heap.size+1) (aj fun _=>0) 23/\Below w.heap.size w wi)
   case atStart=>exact⟨0,oa,rfl,by rw[show aj (fun q=>if q<0 then 2*h q else h q)=aj h from dN fun q _=>by simp];exact p,r,hB⟩
   case round=>
    clear p r hB
    obtain⟨j,hj,rfl,p,r,hB⟩:=hrel
    by_cases hjn:j<4
    ·have hdk:decide ((j:Int)<4)=true:=dT oa
     have hdk':decide (j<4)=true:=dT hjn
     have hjn':(j:Int)<4:=oa
     have hw3:IntKind.i64.wrap ((j:Int)+1)=((j+1:Nat):Int):=by rw[wI];omega
     have hw2:IntKind.i64.wrap (h j*2)=2*h j:=by have:=hupb.out j hjn;rw[wI];omega
     have ck:wr.cell? ⟨w.heap.size,j,none⟩=some (.int .i64 (h j)):=(p.cellIs (aD _ hjn)).trans sd
     have fz:wr.frozen? ⟨w.heap.size,j,none⟩=false:=p.free _
     go_wp2_with (fail)
     go_roundg (4-(j+1))
     case rel=>
      refine⟨j+1,oa,rfl,p.set' (kg hjn sd (fun q hq hne=>?_)),r.setOther sd _,hB.setCell sd _⟩
      have:(q<j+1)=(q<j):=propext oa
      simp only[this]
     case measure=>omega
    ·obtain rfl:j=4:=oa
     have e4:aj (fun q=>if q<4 then 2*h q else h q)=aj (zN h):=dN fun q hq=>by simp[hq,zN]
     rw[e4]at p
     go_wp2_with (fail)
     go_roundg m
     case rel=>exact⟨m,zN h,rfl,t_ hlow.out,ur HS.out,(m9 HS.out).symm.trans hF.out,p,r,hB⟩
     case measure=>omega
def n3 (f:Nat->Int):Int:=ig [f 0,f 1,f 2]
theorem td {a b:Int} (hb:0<=b) (h:a*a<b*b):-b<a/\a<b:=by
 have key:∀x:Int,b<=x->b*b<=x*x:=fun x hx=>mM hx hx hb oa
 constructor
 ·apply bC;intro hc
  have:=key (-a) oa
  rw[Int.neg_mul_neg]at this
  omega
 ·apply bC;intro hc
  have:=key a oa
  omega
theorem qd (f:Nat->Int):((i6 [f 0,f 1,f 2]:Nat):Int)=f 0*f 0+f 1*f 1+f 2*f 2:=by
 rw[dj,dj,dj,ib]
 have e:∀a:Int,((a.natAbs*a.natAbs:Nat):Int)=a*a:=fun a=>by rw[Int.natCast_mul];exact Int.natAbs_mul_self' a
 have:=e (f 0)
 have:=e (f 1)
 have:=e (f 2)
 omega
def zV (f:Nat->Int):Bool:=(List.range 3).all fun j=>f j==0
theorem rQ:∀(k n:Nat) (f:Nat->Int),tK n k f->vO n (j7 n k f)=false
 |0,n,f,h=>pj h
 | k+1,n,f,h=>by
   by_cases hs:vO n f=true
   ·rw[m9 hs];exact rQ k n (zN f) (t_ h)
   ·rw[oX (by simpa using hs)];simpa using hs
theorem tE (f:Nat->Int) (w:World):(Op.equalIn 10000 25 (.agg (ah f)) (.agg #[.int .i64 0,.int .i64 0,.int .i64 0])).run Tryz.prog w=.ok (zV f) w:=by
 rw[aQ]
 obtain⟨i,hi⟩:∃i,Tryz.prog.info? 2=some i:=Option.isSome_iff_exists.1 ke
 have hc:Tryz.prog.cellsOf 2=1:=ke
 exact fg (P:=Tryz.prog) yc hi hc Tryz.underlying2 f (fun _=>0) (ah f) (ah fun _=>0) (fun j hj=>az _ hj) (fun j hj=>az _ hj) 9998 w
theorem Db (f:Nat->Int) (b:Nat) (w:World) (t:TypeId) (h:∀i,i<3->bu (f i)) (p:af w b (ah f) t):
 Calls Tryz.prog 15 #[.slice (some ⟨b,0,none⟩) 3 3] w fun e w'=>e=.returned (.tuple #[.int .i64 (dG (n3 f)),.int .i64 (gu (n3 f))])/\w=w':=
 (mO [f 0,f 1,f 2] _ w (nY p) (iQ h)).mono fun e w' h=>⟨h.1.trans (by rw[if_neg sd,if_neg sd];rfl),h.2⟩
theorem zl {x er:Nat->Int} (h:∀i,i<3->er i=0/\vb (x i)=true):dP x er=x/\dO x er=0:=by
 have:=(fO x er).2 h
 unfold dP dO
 rw[this]
 exact⟨rfl,rfl⟩
end
end Go.Proofs.YtbhahonkhiiilaaGreat
