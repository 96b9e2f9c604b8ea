/-
  The gyros of the package.
-/
import Derived.Test.YtbhahonkhiiilaaGreatTurn
set_option linter.unusedSimpArgs false
set_option linter.unusedVariables false
set_option maxRecDepth 100000
set_option maxHeartbeats 4000000
namespace Go.Proofs.YtbhahonkhiiilaaGreat
open Go.RowKit PM Dt
theorem FG (f:Nat->Int) {k:Nat} (h:k<3) (w:World):(Instr.index 25 (.agg (ah f)) (.int .i64 k)).run Tryz.prog w=.ok (.int .i64 (f k)) w:=by
 obtain⟨i,hi⟩:∃i,Tryz.prog.info? 2=some i:=Option.isSome_iff_exists.1 ke
 exact f_ (P:=Tryz.prog) (n:=3) yc Tryz.underlying2 rfl hi ke h (az f h) w
theorem gG (f:Nat->Int) (m:Int) (w:World) (h0:0<=m) (hm:m<=4398046511104):Calls Tryz.prog 35 #[.agg (ah f),.int .i64 m] w fun e w'=>e=.returned (.bool (aE f m))/\Below w.heap.size w w':=by
 have hwm:wrap64 (-m)=-m:=by unfold wrap64;omega
 clear h0 hm
 go_enter Tryz.func35,Tryz.ntmps35
 have p0:=af.new w (ah f) 25
 go_wp2_with ((refine ac ?hw _ _ rfl _ rfl _ _ _ _ p0 yc rfl ?hi ?_;(case hw=>exact rW);(case hi=>exact rI)))
 have hB0:Below w.heap.size w (w.alloc (.cells (ah f) 25)):=by go_grown
 clear p0
 generalize w.alloc (.cells (ah f) 25)=w0 at *
 go_loopg [8] 3 (fun g iv wr=>∃k:Nat,g+k=3/\iv=.int .i64 k/\Hid (∀j,j<k->sb m (f j)=true)/\Below w.heap.size w wr)
 case atStart=>exact⟨0,rfl,rfl,fun j hj=>by omega,hB0⟩
 case round=>
  clear hB0
  obtain⟨k,hk,rfl,hall,hB⟩:=hrel
  by_cases hkn:k<3
  ·have hdk:decide ((k:Int)<3)=true:=dT oa
   have hdk':decide (k<3)=true:=dT oa
   have hw3:IntKind.i64.wrap ((k:Int)+1)=((k+1:Nat):Int):=by rw[wI];omega
   have hix:Hid (∀w,(Instr.index 25 (.agg (ah f)) (.int .i64 k)).run Tryz.prog w=.ok (.int .i64 (f k)) w):=fun w=>FG f hkn w
   by_cases h1:-m<=f k
   ·have d1:decide (f k< -m)=false:=dF oa
    by_cases h2:f k<=m
    ·have d2:decide (m<f k)=false:=dF oa
     have HV:=aa ((cR _ _).2 ⟨h1,h2⟩)
     clear h1 h2
     go_wp2_with ((refine aZ ?hw _ _ _ rfl _ rfl k _ rfl rfl _ hix.out ?_;(case hw=>exact rW)))
     go_roundg (3-(k+1))
     case rel=>
      refine⟨k+1,oa,rfl,fun j hj=>?_,hB⟩
      by_cases e:j=k
      ·subst e;exact HV.out
      ·exact hall.out j oa
     case measure=>omega
    ·have d2:decide (m<f k)=true:=dT oa
     have HV:=aa (show aE f m=false from im hkn oa)
     clear h1 h2
     go_wp2_with ((refine aZ ?hw _ _ _ rfl _ rfl k _ rfl rfl _ hix.out ?_;(case hw=>exact rW)))
     go_ret
     exact⟨by rw[HV.out];rfl,hB⟩
   ·have d1:decide (f k< -m)=true:=dT oa
    have HV:=aa (show aE f m=false from im hkn oa)
    clear h1
    go_wp2_with ((refine aZ ?hw _ _ _ rfl _ rfl k _ rfl rfl _ hix.out ?_;(case hw=>exact rW)))
    go_ret
    exact⟨by rw[HV.out];rfl,hB⟩
  ·obtain rfl:k=3:=oa
   have HV:=aa ((bp f m).2 hall.out)
   go_wp2_with (fail)
   go_ret
   exact⟨by rw[HV.out];rfl,hB⟩
def aS (f:Nat->Int) (d:Int):Nat->Int:=fun i=>bG (f i) 1 d
def lj (a b:Nat->Int) (k:Nat):Nat->Int:=fun i=>if i<k then a i else b i
theorem ki (a b:Nat->Int):lj a b 0=b:=by funext i;simp[lj]
theorem lT (b a:Nat->Int):ah b=ah (lj a b 0):=by rw[ki]
theorem xS (a b:Nat->Int) (k:Nat):lj a b k k=b k:=by simp[lj]
theorem pr (a b:Nat->Int):ah (lj a b 3)=ah a:=by unfold ah lj;simp
theorem pP (a b:Nat->Int) {k:Nat} (h:k<3):(ah (lj a b k)).setIfInBounds k (.int .i64 (a k))=ah (lj a b (k+1)):=by
 unfold ah lj
 rcases(show k=0\/k=1\/k=2 by omega)with rfl|rfl|rfl<;>simp
theorem pz (f:Nat->Int) (d:Int) (w:World) (hf:∀i,i<3->bu (f i)) (hd:bu d):Calls Tryz.prog 57 #[.agg (ah f),.int .i64 d] w fun e w'=>e=.returned (.agg (ah (aS f d)))/\Below w.heap.size w w':=by
 have RA:=aa (fun i (hi:i<3) w=>iw (f i) 1 d w (hf i hi) ⟨oa,oa⟩ hd)
 clear hf hd
 go_enter Tryz.func57,Tryz.ntmps57
 go_upto_region 1 with(fail)
 simp only[aQ]
 have p:af ((w.alloc (.cells (ah f) 25)).alloc (.cells (ah fun _=>0) 25)) w.heap.size (ah f) 25:=(af.new _ _ _).alloc _
 have r:af ((w.alloc (.cells (ah f) 25)).alloc (.cells (ah fun _=>0) 25)) (w.heap.size+1) (ah fun _=>0) 25:=af.new' sd
 have hB:Below w.heap.size w ((w.alloc (.cells (ah f) 25)).alloc (.cells (ah fun _=>0) 25)):=by go_grown
 generalize((w.alloc (.cells (ah f) 25)).alloc (.cells (ah fun _=>0) 25))=w0 at *
 have p:af w0 w.heap.size (ah (lj (aS f d) f 0)) 25:=by rw[ki];exact p
 have pf:af w0 w.heap.size (ah f) 25:=by rw[ki]at p;exact p
 go_wp2_with (first|(refine ac ?hw _ _ rfl _ rfl _ _ _ _ pf yc rfl ?hi ?_;(case hw=>exact rW);(case hi=>exact rI)))
 clear pf
 go_loopg [8] 3 (fun g_ iv wr=>∃k:Nat,g_+k=3/\iv=.int .i64 k/\af wr w.heap.size (ah (lj (aS f d) f k)) 25/\af wr (w.heap.size+1) (ah fun _=>0) 25/\Below w.heap.size w wr)
 case atStart=>exact⟨0,rfl,rfl,p,r,hB⟩
 case round=>
  clear p r hB
  obtain⟨k,hk,rfl,p,r,hB⟩:=hrel
  by_cases hkn:k<3
  ·have hdk:decide ((k:Int)<3)=true:=dT oa
   have hdk':decide (k<3)=true:=dT oa
   have hk3:(k:Int)<3:=oa
   have hw3:IntKind.i64.wrap ((k:Int)+1)=((k+1:Nat):Int):=by rw[wI];omega
   have hix:Hid (∀w,(Instr.index 25 (.agg (ah f)) (.int .i64 k)).run Tryz.prog w=.ok (.int .i64 (f k)) w):=fun w=>FG f hkn w
   go_wp2_with (first
    |(refine aZ ?hw _ _ _ rfl _ rfl k _ rfl rfl _ hix.out ?_;(case hw=>exact rW))
    |(go_at_call 47;with_reducible refine(RA.out k hkn _).mono ?_;rintro e w1 ⟨rfl,hb⟩;replace hB:=hB.trans (hb.mono hB.size);replace p:=p.below hb p.lt;replace r:=r.below hb r.lt;clear hb;have fz:w1.frozen? ⟨w.heap.size,k,none⟩=false:=p.free _;have cz:w1.cell? ⟨w.heap.size,k,none⟩=some (.int .i64 (lj (aS f d) f k k)):=p.cellIs (az _ hkn)))
   go_roundg (3-(k+1))
   case rel=>
    exact⟨k+1,oa,rfl,p.set' (pP _ _ hkn),r.setOther sd _,hB.setCell sd _⟩
   case measure=>omega
  ·obtain rfl:k=3:=oa
   rw[pr]at p
   go_wp2_with (first
    |(refine ac ?hw _ _ rfl _ rfl _ _ _ _ p yc rfl ?hi ?_;(case hw=>exact rW);(case hi=>exact rI))
    |(refine ag rfl _ _ _ rfl _ rfl _ rfl _ _ r rI (by first|rfl|simp only[ad]) (by first|exact aG _|rfl) ?_))
   refine bodyPost_ret (results_cell_row rfl _ _ _ _ _ _ _ rfl (r.row (ah (aS f d))) yc rfl rI) rfl ?_
   refine⟨?_,Below.setRow hB oa _⟩
   rfl
def ec (F:Nat->Nat->Int):Nat->Nat->Int
 |0,_=>0
 |k+1,i=>ec F k i+F k i
theorem yU (F:Nat->Nat->Int) {n:Nat} (hF:∀k,k<n->∀j,j<3->-4398046511104<=F k j/\F k j<=4398046511104):∀k,k<=n->∀j,j<3->-(4398046511104*k)<=ec F k j/\ec F k j<=4398046511104*k
 |0,_,j,_=>by simp[ec]
 | k+1,hk,j,hj=>by
   have h1:=yU F hF k oa j hj
   have h2:=hF k oa j hj
   unfold ec
   omega
theorem nJ (F:Nat->Nat->Int) (n:Nat) (m:Int) (b:Nat) (C:Array Value) (t:TypeId) (w:World) (hb:af w b C t) (hC:∀k,k<n->∀j,j<3->C[k*3+j]?=some (.int .i64 (F k j))) (hn:n<=3) (hF:∀k,k<n->∀j,j<3->-4398046511104<=F k j/\F k j<=4398046511104) (h0:0<=m) (hm:m<=4398046511104):Calls Tryz.prog 41 #[.int .i64 m,.slice (some ⟨b,0,none⟩) n n] w fun e w'=>e=.returned (.agg (ah fun i=>aI (ec F n i) (-m) m))/\Below w.heap.size w w':=by
 have hwm:wrap64 (-m)=-m:=by unfold wrap64;omega
 have hS:=aa (yU F hF)
 replace hF:=aa hF
 replace hC:=aa hC
 have hbs:=hb.lt
 clear h0 hm
 go_enter Tryz.func41,Tryz.ntmps41
 go_upto_region 2 with(fail)
 simp only[aQ]
 have r:af ((w.alloc (.cells (ah fun _=>0) 25)).alloc (.cells (ah fun _=>0) 25)) w.heap.size (ah fun _=>0) 25:=(af.new _ _ _).alloc _
 have q:af ((w.alloc (.cells (ah fun _=>0) 25)).alloc (.cells (ah fun _=>0) 25)) (w.heap.size+1) (ah fun _=>0) 25:=af.new' sd
 have hB:Below w.heap.size w ((w.alloc (.cells (ah fun _=>0) 25)).alloc (.cells (ah fun _=>0) 25)):=by go_grown
 have l:af ((w.alloc (.cells (ah fun _=>0) 25)).alloc (.cells (ah fun _=>0) 25)) b C t:=(hb.alloc _).alloc _
 generalize((w.alloc (.cells (ah fun _=>0) 25)).alloc (.cells (ah fun _=>0) 25))=w0 at *
 clear hb
 have q:af w0 (w.heap.size+1) (ah (ec F 0)) 25:=q
 go_wp2_with (fail)
 go_loopg [14] n (fun g_ iv wr=>∃K:Nat,g_+K=n/\iv=.int .i64 K/\af wr w.heap.size (ah fun _=>0) 25/\af wr (w.heap.size+1) (ah (ec F K)) 25/\af wr b C t/\Below w.heap.size w wr)
 case atStart=>exact⟨0,oa,rfl,r,q,l,hB⟩
 case round=>
  clear r q l hB
  obtain⟨K,hK,rfl,r,q,l,hB⟩:=hrel
  by_cases hKn:K<n
  ·have hdK:decide ((K:Int)<n)=true:=dT oa
   have hdK':decide (K<n)=true:=dT oa
   have hwK:IntKind.i64.wrap ((K:Int)+1)=((K+1:Nat):Int):=by rw[wI];omega
   have hcK:=aa (hC.out K hKn)
   go_upto_region 4 with(fail)
   go_upto_region 5 with(first
    |(refine bB ?hw _ _ rfl _ _ rfl _ _ l (ah (F K)) ?hc _ yc rfl ?hi ?_;(case hw=>exact rW);(case hi=>exact rI);(case hc=>(intro j hj;rw[ad]at hj;rw[hcK.out j hj,az _ hj])))
    |(rw[aQ];refine ag rfl _ _ _ rfl _ rfl _ rfl _ _ (af.new _ _ _) rI (by first|rfl|simp only[ad]) (by first|exact aG _|rfl) ?_))
   have hul:=q.lt
   have u:=(af.new wr (ah fun _=>0) 25).row (ah (F K))
   replace hB:=Below.setRow (hB.alloc hB.size (.cells (ah fun _=>0) 25)) (g:=wr.heap.size) hB.size (ah (F K))
   have hne:∀x,x<wr.heap.size->x≠wr.heap.size:=fun x hx=>nN hx
   replace r:=(r.alloc (.cells (ah fun _=>0) 25)).rowOther (hne _ r.lt) (ah (F K))
   replace q:=(q.alloc (.cells (ah fun _=>0) 25)).rowOther (hne _ q.lt) (ah (F K))
   replace l:=(l.alloc (.cells (ah fun _=>0) 25)).rowOther (hne _ l.lt) (ah (F K))
   clear hne
   generalize(wr.alloc (.cells (ah fun _=>0) 25)).setRow wr.heap.size (ah (F K))=wrx at *
   generalize wr.heap.size=u_b at *
   rw[lT (ec F K) (ec F (K+1))]at q
   go_wp2_with (first|(refine ac ?hw _ _ rfl _ rfl _ _ _ _ u yc rfl ?hi ?_;(case hw=>exact rW);(case hi=>exact rI)))
   go_loopg [19] 3 (fun g_ iv wr=>∃k:Nat,g_+k=3/\iv=.int .i64 k/\af wr w.heap.size (ah fun _=>0) 25/\af wr (w.heap.size+1) (ah (lj (ec F (K+1)) (ec F K) k)) 25/\af wr b C t/\af wr u_b (ah (F K)) 25/\Below w.heap.size w wr)
   case atStart=>exact⟨0,rfl,rfl,r,q,l,u,hB⟩
   case round=>
    clear r q l u hB
    obtain⟨k,hk,rfl,r,q,l,u,hB⟩:=hrel
    by_cases hkn:k<3
    ·have hdk:decide ((k:Int)<3)=true:=dT oa
     have hdk':decide (k<3)=true:=dT oa
     have hk3:(k:Int)<3:=oa
     have hw3:IntKind.i64.wrap ((k:Int)+1)=((k+1:Nat):Int):=by rw[wI];omega
     have hix:Hid (∀w,(Instr.index 25 (.agg (ah (F K))) (.int .i64 k)).run Tryz.prog w=.ok (.int .i64 (F K k)) w):=fun w=>FG (F K) hkn w
     have fz:wr.frozen? ⟨w.heap.size+1,k,none⟩=false:=q.free _
     have cz:wr.cell? ⟨w.heap.size+1,k,none⟩=some (.int .i64 (ec F K k)):=by have:=q.cellIs (az _ hkn);rw[xS]at this;exact this
     have hws:IntKind.i64.wrap (ec F K k+F K k)=ec F (K+1) k:=by have h1:=hS.out K oa k hkn;have h2:=hF.out K hKn k hkn;rw[wI];show _=ec F K k+F K k;omega
     go_wp2_with (first
      |(refine aZ ?hw _ _ _ rfl _ rfl k _ rfl rfl _ hix.out ?_;(case hw=>exact rW)))
     go_roundg (3-(k+1))
     case rel=>
      exact⟨k+1,oa,rfl,r.setOther sd _,q.set' (pP _ _ hkn),l.setOther (by simp;omega) _,u.setOther (by simp;omega) _,hB.setCell sd _⟩
     case measure=>omega
    ·obtain rfl:k=3:=oa
     rw[pr]at q
     go_wp2_with (fail)
     go_roundg (n-(K+1))
     case rel=>
      exact⟨K+1,oa,rfl,r,q,l,hB⟩
     case measure=>omega
  ·obtain rfl:K=n:=oa
   have hdK:decide ((K:Int)<K)=false:=dF oa
   have hdK':decide (K<K)=false:=dF oa
   clear l
   rw[lT (ec F K) (fun i=>aI (ec F K i) (-m) m)]at q
   have q0:af wr (w.heap.size+1) (ah (ec F K)) 25:=by rw[ki]at q;exact q
   go_wp2_with (first|(refine ac ?hw _ _ rfl _ rfl _ _ _ _ q0 yc rfl ?hi ?_;(case hw=>exact rW);(case hi=>exact rI)))
   clear q0
   go_loopg [32] 3 (fun g_ iv wr=>∃k:Nat,g_+k=3/\iv=.int .i64 k/\af wr w.heap.size (ah fun _=>0) 25/\af wr (w.heap.size+1) (ah (lj (fun i=>aI (ec F K i) (-m) m) (ec F K) k)) 25/\Below w.heap.size w wr)
   case atStart=>exact⟨0,rfl,rfl,r,q,hB⟩
   case round=>
    clear r q hB
    obtain⟨k,hk,rfl,r,q,hB⟩:=hrel
    by_cases hkn:k<3
    ·have hdk:decide ((k:Int)<3)=true:=dT oa
     have hdk':decide (k<3)=true:=dT oa
     have hk3:(k:Int)<3:=oa
     have hw3:IntKind.i64.wrap ((k:Int)+1)=((k+1:Nat):Int):=by rw[wI];omega
     have hix:Hid (∀w,(Instr.index 25 (.agg (ah (ec F K))) (.int .i64 k)).run Tryz.prog w=.ok (.int .i64 (ec F K k)) w):=fun w=>FG (ec F K) hkn w
     have CL:=aa (fun w=>i4 (ec F K k) (-m) m w)
     have fz:wr.frozen? ⟨w.heap.size+1,k,none⟩=false:=q.free _
     have cz:wr.cell? ⟨w.heap.size+1,k,none⟩=some (.int .i64 (ec F K k)):=by have:=q.cellIs (az _ hkn);rw[xS]at this;exact this
     go_wp2_with (first
      |(refine aZ ?hw _ _ _ rfl _ rfl k _ rfl rfl _ hix.out ?_;(case hw=>exact rW))
      |(go_at_call 72;with_reducible refine(CL.out _).mono ?_;rintro e w1 ⟨rfl,rfl⟩))
     go_roundg (3-(k+1))
     case rel=>
      exact⟨k+1,oa,rfl,r.setOther sd _,q.set' (pP (fun i=>aI (ec F K i) (-m) m) _ hkn),hB.setCell sd _⟩
     case measure=>omega
    ·obtain rfl:k=3:=oa
     rw[pr]at q
     go_wp2_with (first
      |(refine ac ?hw _ _ rfl _ rfl _ _ _ _ q yc rfl ?hi ?_;(case hw=>exact rW);(case hi=>exact rI))
      |(refine ag rfl _ _ _ rfl _ rfl _ rfl _ _ r rI (by first|rfl|simp only[ad]) (by first|exact aG _|rfl) ?_))
     refine bodyPost_ret (results_cell_row rfl _ _ _ _ _ _ _ rfl (r.row (ah (fun i=>aI (ec F K i) (-m) m))) yc rfl rI) rfl ?_
     refine⟨?_,Below.setRow hB oa _⟩
     rfl
theorem HO (G:Nat->Int) (j:Nat) (hj:j<(ah G).size):(aj G)[0+j]?=(ah G)[j]?:=by
 rw[ad]at hj
 rw[Nat.zero_add,aD _ oa,az _ hj]
theorem Au (G:Nat->Int) (b:Nat) (w:World) (hg:af w b (aj G) 83):Calls Tryz.prog 40 #[.pointer (some ⟨b,0,none⟩)] w fun e w'=>e=.returned (.bool (decide (G 3=0)))/\w=w':=by
 have c3:w.cell? ⟨b,3,none⟩=some (.int .i64 (G 3)):=hg.cellIs (aD _ oa)
 clear hg
 go_enter Tryz.func40,Tryz.ntmps40
 go_wp2_with (fail)
 go_ret
 exact⟨by first|rfl|(congr 2;simp),rfl⟩
def r4 (B:Nat->Int) (m:Int):Nat->Int:=fun i=>if i=0 then B 0 else if i=1 then B 1 else if i=2 then B 2 else m
theorem zX (B:Nat->Int) (m:Int):#[Value.int .i64 (B 0),.int .i64 (B 1),.int .i64 (B 2),.int .i64 m]=aj (r4 B m):=by unfold aj r4;rfl
theorem xY (B:Nat->Int) (m:Int) (w:World) (h1:aE B 16777216=true) (h2:decide (m<1)=false) (h3:decide (1099511627776<m)=false):Calls Tryz.prog 12 #[.agg (ah B),.int .i64 m] w fun e w'=>∃b,e=.returned (.tuple #[.pointer (some ⟨b,0,none⟩),.int .i64 0])/\af w' b (aj (r4 B m)) 83/\w.heap.size<=b/\Below w.heap.size w w':=by
 have WB:=aa (fun w=>gG B 16777216 w oa oa)
 rw[h1]at WB
 go_enter Tryz.func12,Tryz.ntmps12
 go_upto_region 1 with(fail)
 have p:af (w.alloc (.cells (ah B) 25)) w.heap.size (ah B) 25:=af.new _ _ _
 have hB:Below w.heap.size w (w.alloc (.cells (ah B) 25)):=by go_grown
 generalize(w.alloc (.cells (ah B) 25))=w0 at *
 go_upto_region 3 with(first
  |(refine ac ?hw _ _ rfl _ rfl _ _ _ _ p yc rfl ?hi ?_;(case hw=>exact rW);(case hi=>exact rI))
  |(go_at_call 35;with_reducible refine(WB.out _).mono ?_;rintro e w1 ⟨rfl,hb⟩;replace hB:=hB.trans (hb.mono hB.size);replace p:=p.below hb p.lt;clear hb))
 unfold ah at p
 go_wp2_with (first
  |(refine ac ?hw _ _ rfl _ rfl _ _ _ _ p yc rfl ?hi ?_;(case hw=>exact rW);(case hi=>exact rI)))
 rw[zX]
 go_ret2
 exact⟨w1.heap.size,rfl,af.new _ _ _,hB.size,hB.alloc hB.size _⟩
def fq (A B C:Nat->Int):Nat->Nat->Int:=fun k=>if k=0 then A else if k=1 then B else C
theorem AZ (A B C:Nat->Int) (k:Nat) (hk:k<3) (j:Nat) (hj:j<3):
 (#[Value.int .i64 (A 0),.int .i64 (A 1),.int .i64 (A 2),.int .i64 (B 0),.int .i64 (B 1),.int .i64 (B 2),.int .i64 (C 0),.int .i64 (C 1),.int .i64 (C 2)]:Array Value)[k*3+j]?=some (.int .i64 (fq A B C k j)):=by
 rcases(show k=0\/k=1\/k=2 by omega)with rfl|rfl|rfl<;>rcases(show j=0\/j=1\/j=2 by omega)with rfl|rfl|rfl<;>rfl
theorem wP (A:Nat->Int) (k:Nat) (hk:k<1) (j:Nat) (hj:j<3):
 (#[Value.int .i64 (A 0),.int .i64 (A 1),.int .i64 (A 2)]:Array Value)[k*3+j]?=some (.int .i64 (fq A A A k j)):=by
 obtain rfl:k=0:=oa
 rcases(show j=0\/j=1\/j=2 by omega)with rfl|rfl|rfl<;>rfl
def GI (G:Nat->Int):Prop:=(∀i,i<3->-16777216<=G i/\G i<=16777216)/\1<=G 3/\G 3<=1099511627776
theorem Ci {R G Z:Nat->Int} (hR:∀i,i<3->-4398046511104<=R i/\R i<=4398046511104) (hG:GI G) (hZ:∀i,i<3->-4398046511104<=Z i/\Z i<=4398046511104) (k:Nat) (hk:k<3) (j:Nat) (hj:j<3):-4398046511104<=fq R G Z k j/\fq R G Z k j<=4398046511104:=by
 unfold fq
 split
 ·exact hR j hj
 ·split
  ·have:=hG.1 j hj;omega
  ·exact hZ j hj
def xQ (G R Z:Nat->Int):Nat->Int:=fun i=>aI (ec (fq R G Z) 3 i) (-G 3) (G 3)
theorem C_ (G R Z:Nat->Int) (b:Nat) (w:World) (hg:af w b (aj G) 83) (hG:GI G) (hR:cx R=true) (hZ:cx Z=true) (hRb:∀i,i<3->-4398046511104<=R i/\R i<=4398046511104) (hZb:∀i,i<3->-4398046511104<=Z i/\Z i<=4398046511104):Calls Tryz.prog 16 #[.pointer (some ⟨b,0,none⟩),.agg (ah R),.agg (ah Z)] w fun e w'=>e=.returned (.tuple #[.agg (ah (xQ G R Z)),.int .i64 0])/\Below w.heap.size w w':=by
 have h3:G 3≠0:=by have:=hG.2;omega
 have NN:=aa (fun w' (hb:Below w.heap.size w w')=>Au G b w' (hg.below hb hg.lt))
 rw[show decide (G 3=0)=false from dF h3]at NN
 have VR:=aa (fun w=>cd R w)
 have VZ:=aa (fun w=>cd Z w)
 rw[hR]at VR
 go_enter Tryz.func16,Tryz.ntmps16
 go_upto_region 1 with(fail)
 simp only[aQ]
 have p:af (((w.alloc (.cells (ah R) 25)).alloc (.cells (ah Z) 25)).alloc (.cells (ah fun _=>0) 25)) w.heap.size (ah R) 25:=((af.new _ _ _).alloc _).alloc _
 have q:af (((w.alloc (.cells (ah R) 25)).alloc (.cells (ah Z) 25)).alloc (.cells (ah fun _=>0) 25)) (w.heap.size+1) (ah Z) 25:=(af.new' sd).alloc _
 have r:af (((w.alloc (.cells (ah R) 25)).alloc (.cells (ah Z) 25)).alloc (.cells (ah fun _=>0) 25)) (w.heap.size+2) (ah fun _=>0) 25:=af.new' sd
 have hB:Below w.heap.size w (((w.alloc (.cells (ah R) 25)).alloc (.cells (ah Z) 25)).alloc (.cells (ah fun _=>0) 25)):=by go_grown
 generalize(((w.alloc (.cells (ah R) 25)).alloc (.cells (ah Z) 25)).alloc (.cells (ah fun _=>0) 25))=w0 at *
 have hgl:=hg.lt
 have g:af w0 b (aj G) 83:=hg.below hB hg.lt
 clear hg
 rw[hZ]at VZ
 have CL:=aa (fun b C t w (hb:af w b C t) hC=>nJ (fq R G Z) 3 (G 3) b C t w hb hC oa (Ci hRb hG hZb) (by have:=hG.2;omega) (by have:=hG.2;omega))
 go_upto_region 5 with(first
  |(refine ac ?hw _ _ rfl _ rfl _ _ _ _ p yc rfl ?hi ?_;(case hw=>exact rW);(case hi=>exact rI))
  |(refine ac ?hw _ _ rfl _ rfl _ _ _ _ q yc rfl ?hi ?_;(case hw=>exact rW);(case hi=>exact rI))
  |(go_at_call 32;with_reducible refine(VR.out _).mono ?_;rintro e w1 ⟨rfl,hb⟩;replace hB:=hB.trans (hb.mono hB.size);replace p:=p.below hb p.lt;replace q:=q.below hb q.lt;replace r:=r.below hb r.lt;replace g:=g.below hb g.lt;clear hb)
  |(go_at_call 32;with_reducible refine(VZ.out _).mono ?_;rintro e w2 ⟨rfl,hb⟩;replace hB:=hB.trans (hb.mono hB.size);replace p:=p.below hb p.lt;replace q:=q.below hb q.lt;replace r:=r.below hb r.lt;replace g:=g.below hb g.lt;clear hb)
  |(go_at_call 40;with_reducible refine(NN.out _ hB).mono ?_;rintro e w9 ⟨rfl,rfl⟩))
 refine uR 14 99 (fun w'=>af w' w.heap.size (ah R) 25/\af w' (w.heap.size+1) (ah Z) 25/\af w' b (aj G) 83) rfl ke ?_
 replace p:=p.drew
 replace q:=q.drew
 replace r:=r.drew
 replace g:=g.drew
 replace hB:Below w.heap.size w w2.drew:=hB.drew
 generalize w2.drew=w2d at *
 apply fB 0;(case ho'=>exact rfl);(case hg=>exact rfl);(case hB=>kernel_rfl);(case hQ=>exact fun _ _ _ h=>h);(case hS=>exact⟨p,q,g⟩);(case h=>(rintro w1 ⟨p,q,g⟩;go_simp;exact⟨rfl,rfl⟩))
 simp only[Act.put,aL,aM,aN]
 apply fB 1;(case ho'=>exact rfl);(case hg=>exact rfl);(case hB=>kernel_rfl);(case hQ=>exact fun _ _ _ h=>h);(case hS=>exact⟨p,q,g⟩);(case h=>(rintro w1 ⟨p,q,g⟩;go_simp;exact⟨rfl,rfl⟩))
 simp only[Act.put,aL,aM,aN]
 apply fB 2;(case ho'=>exact rfl);(case hg=>exact rfl);(case hB=>kernel_rfl);(case hQ=>exact fun _ _ _ h=>h);(case hS=>exact⟨p,q,g⟩);(case h=>(rintro w1 ⟨p,q,g⟩;go_simp;exact⟨rfl,rfl⟩))
 simp only[Act.put,aL,aM,aN]
 apply fB 3;(case ho'=>exact rfl);(case hg=>exact rfl);(case hB=>kernel_rfl);(case hQ=>exact fun _ _ _ h=>h);(case hS=>exact⟨p,q,g⟩);(case h=>(rintro w1 ⟨p,q,g⟩;first|exact br _ _ rfl _ rfl _ _ g _ Tryz.underlying83 rfl rI rfl|(have hc:=g.cellIs (aD _ (show 3<4 by omega));go_simp;exact⟨rfl,rfl⟩)))
 simp only[Act.put,aL,aM,aN]
 apply fB 4;(case ho'=>exact rfl);(case hg=>exact rfl);(case hB=>kernel_rfl);(case hQ=>exact fun _ _ _ h=>h);(case hS=>exact⟨p,q,g⟩);(case h=>(rintro w1 ⟨p,q,g⟩;first|exact br _ _ rfl _ rfl _ _ p _ yc rfl rI rfl|(have hc:=p.cellIs (az _ (show 0<3 by omega));go_simp;exact⟨rfl,rfl⟩)))
 simp only[Act.put,aL,aM,aN]
 apply fB 5;(case ho'=>exact rfl);(case hg=>exact rfl);(case hB=>kernel_rfl);(case hQ=>exact fun _ _ _ h=>h);(case hS=>exact⟨p,q,g⟩);(case h=>(rintro w1 ⟨p,q,g⟩;go_simp;exact⟨rfl,rfl⟩))
 simp only[Act.put,aL,aM,aN]
 apply fB 6;(case ho'=>exact rfl);(case hg=>exact rfl);(case hB=>kernel_rfl);(case hQ=>exact fun _ _ _ h=>h);(case hS=>exact⟨p,q,g⟩);(case h=>(rintro w1 ⟨p,q,g⟩;go_simp;exact⟨rfl,rfl⟩))
 simp only[Act.put,aL,aM,aN]
 apply fB 7;(case ho'=>exact rfl);(case hg=>exact rfl);(case hB=>kernel_rfl);(case hQ=>exact fun _ _ _ h=>h);(case hS=>exact⟨p,q,g⟩);(case h=>(rintro w1 ⟨p,q,g⟩;go_simp;exact⟨rfl,rfl⟩))
 simp only[Act.put,aL,aM,aN]
 apply fB 8;(case ho'=>exact rfl);(case hg=>exact rfl);(case hB=>kernel_rfl);(case hQ=>exact fun _ _ _ h=>h);(case hS=>exact⟨p,q,g⟩);(case h=>(rintro w1 ⟨p,q,g⟩;exact aO _ _ rfl _ 0 rfl _ _ g (ah G) (HO G) _ yc rfl rI rfl))
 simp only[Act.put,aL,aM,aN]
 apply fB 9;(case ho'=>exact rfl);(case hg=>exact rfl);(case hB=>kernel_rfl);(case hQ=>exact fun _ _ _ h=>h);(case hS=>exact⟨p,q,g⟩);(case h=>(rintro w1 ⟨p,q,g⟩;first|exact br _ _ rfl _ rfl _ _ q _ yc rfl rI rfl|(have hc:=q.cellIs (az _ (show 0<3 by omega));go_simp;exact⟨rfl,rfl⟩)))
 simp only[Act.put,aL,aM,aN]
 unfold ah at p q|-
 refine oh 10 rfl ke ?_
 go_wp2_with (fail)
 have l:=af.new w2d #[.int .i64 (R 0),.int .i64 (R 1),.int .i64 (R 2),.int .i64 (G 0),.int .i64 (G 1),.int .i64 (G 2),.int .i64 (Z 0),.int .i64 (Z 1),.int .i64 (Z 2)] 25
 replace hB:=hB.alloc hB.size (.cells #[.int .i64 (R 0),.int .i64 (R 1),.int .i64 (R 2),.int .i64 (G 0),.int .i64 (G 1),.int .i64 (G 2),.int .i64 (Z 0),.int .i64 (Z 1),.int .i64 (Z 2)] 25)
 replace p:=p.alloc (.cells #[.int .i64 (R 0),.int .i64 (R 1),.int .i64 (R 2),.int .i64 (G 0),.int .i64 (G 1),.int .i64 (G 2),.int .i64 (Z 0),.int .i64 (Z 1),.int .i64 (Z 2)] 25)
 replace q:=q.alloc (.cells #[.int .i64 (R 0),.int .i64 (R 1),.int .i64 (R 2),.int .i64 (G 0),.int .i64 (G 1),.int .i64 (G 2),.int .i64 (Z 0),.int .i64 (Z 1),.int .i64 (Z 2)] 25)
 replace r:=r.alloc (.cells #[.int .i64 (R 0),.int .i64 (R 1),.int .i64 (R 2),.int .i64 (G 0),.int .i64 (G 1),.int .i64 (G 2),.int .i64 (Z 0),.int .i64 (Z 1),.int .i64 (Z 2)] 25)
 replace g:=g.alloc (.cells #[.int .i64 (R 0),.int .i64 (R 1),.int .i64 (R 2),.int .i64 (G 0),.int .i64 (G 1),.int .i64 (G 2),.int .i64 (Z 0),.int .i64 (Z 1),.int .i64 (Z 2)] 25)
 generalize w2d.alloc (.cells #[.int .i64 (R 0),.int .i64 (R 1),.int .i64 (R 2),.int .i64 (G 0),.int .i64 (G 1),.int .i64 (G 2),.int .i64 (Z 0),.int .i64 (Z 1),.int .i64 (Z 2)] 25)=w2dx at *
 generalize w2d.heap.size=l_b at *
 refine xZ ⟨fun _=>⟨p,q,g⟩,?_⟩
 try simp only[Act.put,aL,aM,aN]
 refine oh 11 rfl ke ?_
 go_wp2_with ((go_at_call 41;with_reducible refine(CL.out _ _ _ _ l (AZ R G Z)).mono ?_;rintro e w5 ⟨rfl,hb⟩;replace hB:=hB.trans (hb.mono hB.size);replace p:=p.below hb p.lt;replace q:=q.below hb q.lt;replace r:=r.below hb r.lt;replace g:=g.below hb g.lt;replace l:=l.below hb l.lt;clear hb))
 refine xZ ⟨fun _=>⟨p,q,g⟩,?_⟩
 try simp only[Act.put,aL,aM,aN]
 clear l
 refine oh 12 rfl ke ?_
 go_wp2_with ((refine ag rfl _ _ _ rfl _ rfl _ rfl _ _ r rI (by first|rfl|simp only[ad]) (by first|exact aG _|rfl) ?_))
 replace p:=p.rowOther (show w.heap.size≠w.heap.size+2 by omega) (ah (fun i=>aI (ec (fq R G Z) 3 i) (-G 3) (G 3)))
 replace q:=q.rowOther (show w.heap.size+1≠w.heap.size+2 by omega) (ah (fun i=>aI (ec (fq R G Z) 3 i) (-G 3) (G 3)))
 replace g:=g.rowOther (show b≠w.heap.size+2 by omega) (ah (fun i=>aI (ec (fq R G Z) 3 i) (-G 3) (G 3)))
 replace r:=r.row (ah (fun i=>aI (ec (fq R G Z) 3 i) (-G 3) (G 3)))
 replace hB:=Below.setRow hB (show w.heap.size<=w.heap.size+2 by omega) (ah (fun i=>aI (ec (fq R G Z) 3 i) (-G 3) (G 3)))
 generalize w5.setRow (w.heap.size+2) (ah (fun i=>aI (ec (fq R G Z) 3 i) (-G 3) (G 3)))=w5s at *
 refine xZ ⟨fun _=>⟨p,q,g⟩,?_⟩
 try simp only[Act.put,aL,aM,aN]
 refine oh 13 rfl ke ?_
 go_wp2_with (fail)
 refine xZ ⟨fun _=>⟨p,q,g⟩,?_⟩
 try simp only[Act.put,aL,aM,aN]
 refine F4 ke ?_
 go_wp2_with (first
  |(refine ac ?hw _ _ rfl _ rfl _ _ _ _ p yc rfl ?hi ?_;(case hw=>exact rW);(case hi=>exact rI))
  |(refine ac ?hw _ _ rfl _ rfl _ _ _ _ q yc rfl ?hi ?_;(case hw=>exact rW);(case hi=>exact rI))
  |(refine ac ?hw _ _ rfl _ rfl _ _ _ _ r yc rfl ?hi ?_;(case hw=>exact rW);(case hi=>exact rI)))
 refine bodyPost_ret (aq rfl _ _ _ _ _ _ _ rfl r yc rfl rI) rfl ?_
 refine⟨?_,hB⟩
 rfl
def Lw (Q B:Nat->Int):Array Value:=#[.int .i64 (Q 0),.int .i64 (Q 1),.int .i64 (Q 2),.int .i64 (Q 3),.int .i64 (B 0),.int .i64 (B 1),.int .i64 (B 2)]
def bU (x:(Nat->Int)×(Nat->Int)):Array Value:=Lw x.1 x.2
theorem kC (x:(Nat->Int)×(Nat->Int)):(bU x).size=7:=rfl
theorem qQ (Q B:Nat->Int) (j:Nat) (hj:j<(aj Q).size):(bU (Q,B))[0+j]?=(aj Q)[j]?:=by
 rw[ak]at hj
 rw[Nat.zero_add,aD _ hj]
 rcases(show j=0\/j=1\/j=2\/j=3 by omega)with rfl|rfl|rfl|rfl<;>rfl
theorem GC (Q B:Nat->Int) (j:Nat) (hj:j<(ah B).size):(bU (Q,B))[4+j]?=(ah B)[j]?:=by
 rw[ad]at hj
 rw[az _ hj]
 rcases(show j=0\/j=1\/j=2 by omega)with rfl|rfl|rfl<;>rfl
theorem Ho (Q Q' B:Nat->Int):gc (bU (Q,B)) 0 (aj Q').toList=bU (Q',B):=by unfold aj;rfl
theorem IR (Q B B':Nat->Int):gc (bU (Q,B)) 4 (ah B').toList=bU (Q,B'):=by unfold ah;rfl
def fL (Q h:Nat->Int):Nat->Int:=if zV h then Q else aR Q h
theorem iq (Q B:Nat->Int) (b:Nat) (w:World) (hg:af w b (bU (Q,B)) 85):Calls Tryz.prog 54 #[.pointer (some ⟨b,0,none⟩)] w fun e w'=>e=.returned (.bool (zQ Q))/\w=w':=by
 have EQ:=um Q
 obtain⟨z,hz⟩:∃z,zQ Q=z:=⟨_,rfl⟩
 simp only[hz]at EQ|-
 clear hz
 go_enter Tryz.func54,Tryz.ntmps54
 go_wp2_with (first
  |(refine bB ?hw _ _ rfl _ 0 rfl _ _ hg (aj Q) (qQ Q B) _ yb rfl ?hi ?_;(case hw=>exact rW);(case hi=>exact rI)))
 go_ret
 exact⟨by first|rfl|(congr 2;simp),rfl⟩
theorem qE (Q B:Nat->Int) (b:Nat) (w:World) (hg:af w b (bU (Q,B)) 85) (hz:zQ Q=false):Calls Tryz.prog 25 #[.pointer (some ⟨b,0,none⟩)] w fun e w'=>e=.returned (.agg (aj Q))/\Below w.heap.size w w':=by
 have NN:=aa (fun w' (hb:Below w.heap.size w w')=>iq Q B b w' (hg.below hb hg.lt))
 rw[hz]at NN
 go_enter Tryz.func25,Tryz.ntmps25
 go_upto_region 1 with(fail)
 simp only[bP]
 have r:af (w.alloc (.cells (aj fun _=>0) 23)) w.heap.size (aj fun _=>0) 23:=af.new _ _ _
 have hB:Below w.heap.size w (w.alloc (.cells (aj fun _=>0) 23)):=by go_grown
 generalize(w.alloc (.cells (aj fun _=>0) 23))=w0 at *
 have f:af w0 b (bU (Q,B)) 85:=hg.below hB hg.lt
 clear hg
 go_wp2_with (first
  |(go_at_call 54;with_reducible refine(NN.out _ hB).mono ?_;rintro e w9 ⟨rfl,rfl⟩)
  |(refine bB ?hw _ _ rfl _ 0 rfl _ _ f (aj Q) (qQ Q B) _ yb rfl ?hi ?_;(case hw=>exact rW);(case hi=>exact rI))
  |(refine ag rfl _ _ _ rfl _ rfl _ rfl _ _ r rI (by first|rfl|simp only[ak]) (by first|exact bF _|rfl) ?_))
 refine bodyPost_ret (results_cell_row rfl _ _ _ _ _ _ _ rfl (r.row (aj Q)) yb rfl rI) rfl ?_
 refine⟨?_,Below.setRow hB oa _⟩
 rfl
theorem zO (Q B h:Nat->Int) (b:Nat) (w:World) (hg:af w b (bU (Q,B)) 85) (hz:zV h=false) (hQ:∀i,i<4->bu (Q i)) (hh:∀i,i<3->bu (h i)):Calls Tryz.prog 56 #[.pointer (some ⟨b,0,none⟩),.agg (ah h)] w fun e w'=>e=.returned (.tuple #[])/\Below w.heap.size (w.setRow b (bU (aR Q h,B))) w':=by
 have TU:=aa (fun w=>uI Q h w hQ hh)
 clear hQ hh
 have hgl:=hg.lt
 go_enter Tryz.func56,Tryz.ntmps56
 go_upto_region 1 with(fail)
 have v:af (w.alloc (.cells (ah h) 25)) w.heap.size (ah h) 25:=af.new _ _ _
 have hB:Below w.heap.size w (w.alloc (.cells (ah h) 25)):=by go_grown
 generalize(w.alloc (.cells (ah h) 25))=w0 at *
 have f:af w0 b (bU (Q,B)) 85:=hg.below hB hg.lt
 clear hg
 have EQ:=tE h
 simp only[hz]at EQ
 go_upto_region 2 with(first
  |(refine ac ?hw _ _ rfl _ rfl _ _ _ _ v yc rfl ?hi ?_;(case hw=>exact rW);(case hi=>exact rI)))
 clear EQ
 have ne_v_f:w.heap.size≠b:=oa
 have lt_v:=v.lt
 have lt_f:=f.lt
 have hW0:w.heap.size<=w0.heap.size:=by simpa using hB.size
 apply a_ 13 [0,0,2,6,14,0,62,126,254,254,511,1535,3583] [] [_,_,_,_,_,_,_,_,_,_,_,_,(fun _=>undef)] (fun p L w'=>w0.heap.size<=w'.heap.size/\Below w.heap.size (bif L 12 then w.setRow b (bU (aR Q h,B))else w) w'/\af w' w.heap.size (ah h) 25/\af w' b (bif L 12 then(bU (aR Q h,B))else(bU (Q,B))) 85) _ [(0,8),(1,9),(2,10),(3,11),(4,12),(5,13),(6,14),(7,7),(8,15),(9,16),(10,17),(11,18)] [0,1,2,3,4,5,6,7,8,9,10,11,12]
 case hn|hm|hB|hds|hA=>exact rA
 case h0=>exact rH
 case hmore=>exact rM
 case hs=>
  intro more
  refine aH ?_
  refine aH ?_
  refine aH ?_
  refine aH ?_
  refine cm ?_ ?_
  ·rintro p L w1 ⟨hsz,hB,v,f⟩ hk
   have L12:L 12=false:=hk.2.2 12 rfl
   rw[L12]at f
   try simp only[cond_true,cond_false]at f
   exact aO _ _ rfl _ 0 rfl _ _ f (aj Q) (qQ Q B) _ yb rfl rI rfl
  refine cm ?_ ?_
  ·rintro p L w1 ⟨hsz,hB,v,f⟩ hk
   first|exact br _ _ rfl _ rfl _ _ v _ yc rfl rI rfl|(have hc:=v.cellIs (az _ (show 0<3 by omega));go_simp;exact⟨rfl,rfl⟩)
  refine bS 6 rfl (fun p=>rfl) (fun _ _ _ h=>h) more ?_ ?_
  ·rintro p L w1 ⟨hsz,hB,v,f⟩ hk
   go_simp
   exact(TU.out _).mono rC
  refine aH ?_
  refine aH ?_
  refine aH ?_
  refine aH ?_
  refine aH ?_
  refine aw.cons ?_ ?_
  ·refine aA 12 rfl (fun p=>rfl) (fun p=>rfl) _ _ _ rfl (fun _=>b) 0 (fun p=>rfl) (fun p=>(aj (aR Q h))) (fun p=>rfl) (fun p=>(bU (Q,B))) (fun p=>(bU (aR Q h,B))) 85 (fun p=>Ho _ _ _) (fun p=>by first|(rw[ak,kC];decide)|simp[ak,kC]) (fun p=>by rw[ak];kernel_rfl) (fun p=>bF _) ?_ ?_
   ·rintro p L w1 ⟨hsz,hB,v,f⟩ hk
    exact cg f hk.1
   ·rintro p L w1 ⟨hsz,hB,v,f⟩ hk
    have L12:L 12=false:=hk.1
    refine⟨(by simpa using hsz),?_,v.rowOther ne_v_f _,?_⟩
    ·rw[show cD L 12 12=true from rfl]
     rw[L12]at hB
     have hB2:=lM hB b (bU (aR Q h,B))
     try simp only[cond_true,cond_false]at hB2|-
     try rw[setRow_setRow]at hB2
     exact hB2
    ·rw[show cD L 12 12=true from rfl]
     exact f.row _
  exact aw.nil
 case hV0=>exact fun p q=>aw.nil
 case he=>
 clear hB v f
 rintro p w0r ⟨hsz,hB,v,f⟩
 replace f:af w0r b (bU (aR Q h,B)) 85:=f
 replace hB:Below w.heap.size (w.setRow b (bU (aR Q h,B))) w0r:=hB
 clear lt_v lt_f hsz hW0
 go_wp2_with (fail)
 go_end0
 exact⟨rfl,hB⟩
theorem C4 (Q B h:Nat->Int) (b:Nat) (w:World) (hg:af w b (bU (Q,B)) 85) (hz:zV h=true):Calls Tryz.prog 56 #[.pointer (some ⟨b,0,none⟩),.agg (ah h)] w fun e w'=>e=.returned (.tuple #[])/\Below w.heap.size w w':=by
 have hgl:=hg.lt
 go_enter Tryz.func56,Tryz.ntmps56
 go_upto_region 1 with(fail)
 have v:af (w.alloc (.cells (ah h) 25)) w.heap.size (ah h) 25:=af.new _ _ _
 have hB:Below w.heap.size w (w.alloc (.cells (ah h) 25)):=by go_grown
 generalize(w.alloc (.cells (ah h) 25))=w0 at *
 have f:af w0 b (bU (Q,B)) 85:=hg.below hB hg.lt
 clear hg
 have EQ:=tE h
 simp only[hz]at EQ
 go_wp2_with (first
  |(refine ac ?hw _ _ rfl _ rfl _ _ _ _ v yc rfl ?hi ?_;(case hw=>exact rW);(case hi=>exact rI)))
 go_end0
 exact⟨rfl,hB⟩
theorem mz (Q B h:Nat->Int) (b:Nat) (w:World) (hg:af w b (bU (Q,B)) 85) (hQ:∀i,i<4->bu (Q i)) (hh:∀i,i<3->bu (h i)):Calls Tryz.prog 56 #[.pointer (some ⟨b,0,none⟩),.agg (ah h)] w fun e w'=>e=.returned (.tuple #[])/\Below w.heap.size (w.setRow b (bU (fL Q h,B))) w':=by
 unfold fL
 by_cases hz:zV h=true
 ·rw[if_pos hz,setRow_self w b _ _ _ hg]
  exact C4 Q B h b w hg hz
 ·rw[if_neg hz]
  exact zO Q B h b w hg (by simpa using hz) hQ hh
theorem dHz (F G:Nat->Int):gc (ah F) 0 (ah G).toList=ah G:=by unfold ah;rfl
theorem dKz (F G:Nat->Int):gc (aj F) 0 (aj G).toList=aj G:=by unfold aj;rfl
theorem sf (f:Nat->Int) (d:Int):∀i,i<3->bu (aS f d i):=fun i _=>by unfold aS;exact Dw _ _ _
theorem Fd (f g:Nat->Int):∀i,i<3->bu (cu f g i):=by
 intro i hi
 have h0:bu 0:=⟨oa,oa⟩
 unfold cu
 split
 ·unfold iV
  split
  ·rename_i h
   have:=(bE _).1 ((bK _).1 h i hi)
   exact⟨oa,oa⟩
  ·exact h0
 ·exact h0
theorem Fb (q:Nat->Int) (w:World) (hq:∀i,i<4->bu (q i)) (hv:au q=false):Calls Tryz.prog 13 #[.agg (aj q)] w fun e w'=>e=.returned (.tuple #[.pointer none,.int .i64 2])/\Below w.heap.size w w':=by
 have VA:=aa (fun w=>cU q w hq)
 rw[hv]at VA
 go_enter Tryz.func13,Tryz.ntmps13
 go_upto_region 1 with(fail)
 have v:af (w.alloc (.cells (aj q) 23)) w.heap.size (aj q) 23:=af.new _ _ _
 have hB:Below w.heap.size w (w.alloc (.cells (aj q) 23)):=by go_grown
 generalize(w.alloc (.cells (aj q) 23))=w0 at *
 go_wp2_with (first
  |(refine ac ?hw _ _ rfl _ rfl _ _ _ _ v yb rfl ?hi ?_;(case hw=>exact rW);(case hi=>exact rI))
  |(go_at_call 5;with_reducible refine(VA.out _).mono ?_;rintro e w1 ⟨rfl,hb⟩;replace hB:=hB.trans (hb.mono hB.size);replace v:=v.below hb v.lt;clear hb))
 go_ret2
 exact⟨rfl,hB⟩
theorem xO (q:Nat->Int) (w:World) (hq:∀i,i<4->bu (q i)) (hv:au q=true):Calls Tryz.prog 13 #[.agg (aj q)] w fun e w'=>∃b,e=.returned (.tuple #[.pointer (some ⟨b,0,none⟩),.int .i64 0])/\af w' b (bU (q,fun _=>0)) 85/\w.heap.size<=b/\Below w.heap.size w w':=by
 have VA:=aa (fun w=>cU q w hq)
 rw[hv]at VA
 go_enter Tryz.func13,Tryz.ntmps13
 go_upto_region 1 with(fail)
 have v:af (w.alloc (.cells (aj q) 23)) w.heap.size (aj q) 23:=af.new _ _ _
 have hB:Below w.heap.size w (w.alloc (.cells (aj q) 23)):=by go_grown
 generalize(w.alloc (.cells (aj q) 23))=w0 at *
 go_upto_region 3 with(first
  |(refine ac ?hw _ _ rfl _ rfl _ _ _ _ v yb rfl ?hi ?_;(case hw=>exact rW);(case hi=>exact rI))
  |(go_at_call 5;with_reducible refine(VA.out _).mono ?_;rintro e w1 ⟨rfl,hb⟩;replace hB:=hB.trans (hb.mono hB.size);replace v:=v.below hb v.lt;clear hb))
 unfold aj at v
 go_wp2_with (first
  |(refine ac ?hw _ _ rfl _ rfl _ _ _ _ v yb rfl ?hi ?_;(case hw=>exact rW);(case hi=>exact rI)))
 rw[show#[Value.int .i64 (q 0),.int .i64 (q 1),.int .i64 (q 2),.int .i64 (q 3),.int .i64 0,.int .i64 0,.int .i64 0]=bU (q,fun _=>0)from rfl]
 go_ret2
 exact⟨w1.heap.size,rfl,af.new _ _ _,hB.size,hB.alloc hB.size _⟩
theorem Cr (Q B r:Nat->Int) (b:Nat) (w:World) (hg:af w b (bU (Q,B)) 85) (hz:zQ Q=false) (hr:aE r 268435456=false):Calls Tryz.prog 20 #[.pointer (some ⟨b,0,none⟩),.agg (ah r)] w fun e w'=>e=.returned (.int .i64 2)/\Below w.heap.size w w':=by
 have NN:=aa (fun w' (hb:Below w.heap.size w w')=>iq Q B b w' (hg.below hb hg.lt))
 rw[hz]at NN
 have WI:=aa (fun w=>gG r 268435456 w oa oa)
 rw[hr]at WI
 go_enter Tryz.func20,Tryz.ntmps20
 go_upto_region 1 with(fail)
 have v:af (w.alloc (.cells (ah r) 25)) w.heap.size (ah r) 25:=af.new _ _ _
 have hB:Below w.heap.size w (w.alloc (.cells (ah r) 25)):=by go_grown
 generalize(w.alloc (.cells (ah r) 25))=w0 at *
 go_wp2_with (first
  |(refine ac ?hw _ _ rfl _ rfl _ _ _ _ v yc rfl ?hi ?_;(case hw=>exact rW);(case hi=>exact rI))
  |(go_at_call 35;with_reducible refine(WI.out _).mono ?_;rintro e w1 ⟨rfl,hb⟩;replace hB:=hB.trans (hb.mono hB.size);replace v:=v.below hb v.lt;clear hb)
  |(go_at_call 54;with_reducible refine(NN.out _ hB).mono ?_;rintro e w9 ⟨rfl,rfl⟩))
 go_ret
 exact⟨rfl,hB⟩
theorem Cc (Q B r:Nat->Int) (b:Nat) (w:World) (hg:af w b (bU (Q,B)) 85) (hz:zQ Q=false) (hr:aE r 268435456=true) (hQ:∀i,i<4->bu (Q i)):Calls Tryz.prog 20 #[.pointer (some ⟨b,0,none⟩),.agg (ah r)] w fun e w'=>e=.returned (.int .i64 0)/\Below w.heap.size (w.setRow b (bU (fL Q (aS (cu r B) 2),B))) w':=by
 have NN:=aa (fun w' (hb:Below w.heap.size w w')=>iq Q B b w' (hg.below hb hg.lt))
 rw[hz]at NN
 have WI:=aa (fun w=>gG r 268435456 w oa oa)
 rw[hr]at WI
 have SU:=aa (fun w=>pH r B w)
 have PA:=aa (fun w=>pz (cu r B) 2 w (Fd r B) ⟨oa,oa⟩)
 have FT:=aa (fun(w1:World) (h1:af w1 b (bU (Q,B)) 85)=>mz Q B (aS (cu r B) 2) b w1 h1 hQ (sf _ _))
 have hgl:=hg.lt
 clear hQ
 go_enter Tryz.func20,Tryz.ntmps20
 go_upto_region 1 with(fail)
 have v:af (w.alloc (.cells (ah r) 25)) w.heap.size (ah r) 25:=af.new _ _ _
 have hB:Below w.heap.size w (w.alloc (.cells (ah r) 25)):=by go_grown
 generalize(w.alloc (.cells (ah r) 25))=w0 at *
 go_upto_region 5 with(first
  |(refine ac ?hw _ _ rfl _ rfl _ _ _ _ v yc rfl ?hi ?_;(case hw=>exact rW);(case hi=>exact rI))
  |(go_at_call 35;with_reducible refine(WI.out _).mono ?_;rintro e w1 ⟨rfl,hb⟩;replace hB:=hB.trans (hb.mono hB.size);replace v:=v.below hb v.lt;clear hb)
  |(go_at_call 54;with_reducible refine(NN.out _ hB).mono ?_;rintro e w9 ⟨rfl,rfl⟩))
 have f:af w1 b (bU (Q,B)) 85:=hg.below hB hg.lt
 clear hg
 have ne_v_f:w.heap.size≠b:=oa
 have lt_v:=v.lt
 have lt_f:=f.lt
 have hW0:w.heap.size<=w1.heap.size:=by simpa using hB.size
 apply a_ 12 [0,0,2,6,14,31,63,127,127,0,767,2047] [9] [_,_,_,_,_,_,_,_,_,(fun p=>.pointer (some ⟨p 9,0,none⟩)),(fun _=>undef),_] (fun p L w'=>w1.heap.size<=w'.heap.size/\Below w.heap.size w w'/\af w' w.heap.size (ah r) 25/\af w' b (bU (Q,B)) 85/\(L 9=true->w1.heap.size<=p 9/\af w' (p 9) (bif L 10 then(ah (cu r B))else(ah fun _=>0)) 25)) _ [(0,15),(1,16),(2,17),(3,18),(4,19),(5,20),(6,14),(7,21),(8,22),(9,5),(11,6)] [0,1,2,3,4,5,6,7,8,9,10,11]
 case hn|hm|hB|hds|hA=>exact rA
 case h0=>exact rH
 case hmore=>exact rM
 case hs=>
  intro more
  refine cm ?_ ?_
  ·rintro p L w1 ⟨hsz,hB,v,f,h_d⟩ hk
   first|exact br _ _ rfl _ rfl _ _ v _ yc rfl rI rfl|(have hc:=v.cellIs (az _ (show 0<3 by omega));go_simp;exact⟨rfl,rfl⟩)
  refine aH ?_
  refine aH ?_
  refine aH ?_
  refine cm ?_ ?_
  ·rintro p L w1 ⟨hsz,hB,v,f,h_d⟩ hk
   exact aO _ _ rfl _ 4 rfl _ _ f (ah B) (GC Q B) _ yc rfl rI rfl
  refine bS 5 rfl (fun p=>rfl) (fun _ _ _ h=>h) more ?_ ?_
  ·rintro p L w1 ⟨hsz,hB,v,f,h_d⟩ hk
   go_simp
   exact(SU.out _).mono rC
  refine aH ?_
  refine aH ?_
  refine aH ?_
  refine aw.cons ?_ ?_
  ·refine aP 9 rfl (fun p=>rfl) rfl (ah fun _=>0) 25 (fun p=>rfl) ?_ ?_
   ·exact rZ
   rintro p L w1 ⟨hsz,hB,v,f,h_d⟩ hk
   have L10:L 10=false:=hk.2.2 10 rfl
   refine⟨nk hsz sd,hB.alloc (nk hW0 hsz) _,v.alloc _,f.alloc _,fun _=>⟨hsz,?_⟩⟩
   rw[show cD L 9 10=false from L10]
   exact af.new _ _ _
  refine aw.cons ?_ ?_
  ·refine aA 10 rfl (fun p=>rfl) (fun p=>rfl) _ _ _ rfl (fun p=>p 9) 0 (fun p=>rfl) (fun p=>(ah (cu r B))) (fun p=>rfl) (fun p=>(ah fun _=>0)) (fun p=>(ah (cu r B))) 25 (fun p=>dHz _ _) (fun p=>by first|(rw[ad,ad];decide)|simp[ad,ad]) (fun p=>by rw[ad];kernel_rfl) (fun p=>aG _) ?_ ?_
   ·rintro p L w1 ⟨hsz,hB,v,f,h_d⟩ hk
    exact cg (h_d (hk.2.1 9 rfl)).2 hk.1
   ·rintro p L w1 ⟨hsz,hB,v,f,h_d⟩ hk
    have hp:=h_d (hk.2.1 9 rfl)
    refine⟨(by simpa using hsz),Below.setRow hB (nk hW0 hp.1) _,v.rowOther (nL lt_v hp.1) _,f.rowOther (nL lt_f hp.1) _,fun _=>⟨hp.1,?_⟩⟩
    rw[show cD L 10 10=true from rfl]
    exact hp.2.row _
  refine aH ?_
  exact aw.nil
 case hV0=>exact rV
 case he=>
 clear hB v f
 rintro p w1r ⟨hsz,hB,v,f,h_d⟩
 obtain⟨le_d,d⟩:=h_d rfl
 clear h_d
 replace d:af w1r (p 9) (ah (cu r B)) 25:=d
 have ne_v_d:w.heap.size≠p 9:=nN (nq lt_v le_d)
 have ne_f_d:b≠p 9:=nN (nq lt_f le_d)
 have ge_d:w.heap.size<=p 9:=nk hW0 le_d
 generalize p 9=d_b at *
 clear lt_v lt_f hsz hW0
 have ne_d_f:d_b≠b:=Ne.symm ne_f_d
 go_wp2_with (first|(refine ac ?hw _ _ rfl _ rfl _ _ _ _ d yc rfl ?hi ?_;(case hw=>exact rW);(case hi=>exact rI))|(go_at_call 57;with_reducible refine(PA.out _).mono ?_;rintro e w2 ⟨rfl,hb⟩;replace hB:=hB.trans (hb.mono hB.size);replace v:=v.below hb v.lt;replace f:=f.below hb f.lt;replace d:=d.below hb d.lt;clear hb)|(go_at_call 56;with_reducible refine(FT.out _ f).mono ?_;rintro e w3 ⟨rfl,hb⟩;replace hB:=(lM hB b (bU (fL Q (aS (cu r B) 2),B))).trans (hb.mono (by have:=hB.size;simp at this|-;omega));replace v:=(v.rowOther ne_v_f (bU (fL Q (aS (cu r B) 2),B))).below hb (by have:=v.lt;simpa using this);replace f:=(f.row (bU (fL Q (aS (cu r B) 2),B))).below hb (by have:=f.lt;simpa using this);replace d:=(d.rowOther ne_d_f (bU (fL Q (aS (cu r B) 2),B))).below hb (by have:=d.lt;simpa using this);clear hb))
 go_ret
 exact⟨rfl,hB⟩
end Go.Proofs.YtbhahonkhiiilaaGreat
