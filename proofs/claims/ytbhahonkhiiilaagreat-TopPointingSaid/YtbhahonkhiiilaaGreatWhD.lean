/-
  Wheels: Command, Allocate.
-/
import Derived.Test.YtbhahonkhiiilaaGreatMc
import Derived.Test.YtbhahonkhiiilaaGreatMac
import Derived.Test.YtbhahonkhiiilaaGreatWhB
set_option linter.unusedSimpArgs false
set_option linter.unusedVariables false
set_option maxHeartbeats 6000000
set_option maxRecDepth 100000
namespace Go.Proofs.YtbhahonkhiiilaaGreat
open Go.RowKit PM Dt
def mn (x y:Int):Int:=if y<x then y else x
theorem F9 {P:Program} (w:World) (ats:Array TypeId) (ty:TypeId):∀(xs:List Int) (x:Int),(Builtin.min_ ats ty (((x::xs).map (Value.int .i64)).toArray)).run P w=.ok (.int .i64 (xs.foldl mn x)) w:=by
 have key:∀(xs:List Int) (x:Int),((xs.map (Value.int .i64)).foldlM Builtin.min2 (Value.int .i64 x)).run P w=.ok (.int .i64 (xs.foldl mn x)) w:=by
  intro xs
  induction xs with
  |nil=>intro x;rfl
  | cons y ys ih=>
    intro x
    rw[List.map_cons,List.foldlM_cons,Sem.run_bind]
    have:(Builtin.min2 (Value.int .i64 x) (Value.int .i64 y)).run P w=.ok (.int .i64 (mn x y)) w:=rfl
    rw[this,Result.andThen_ok,ih]
    rfl
 intro xs x
 exact key xs x
theorem wR {P:Program} {ops:Array Oper} {rest:List Oper} {o:Oper} {a:Act} {w:World} {Q:Exit->Act->World->Prop} (hg:o.guard=none) {args:Array Operand} {ats:Array TypeId}
 (ho:o.op=Op.call {callee:=Callee.builtin Builtin.min,args:=args,argTypes:=ats}) (xs:List Int) (x M:Int) (hM:xs.foldl mn x=M) (hargs0:args.toList.map a.eval=(x::xs).map (Value.int .i64))
 (h:wpList P ops Q rest (a.put o.dst (.int .i64 M)) w):wpList P ops Q (o::rest) a w:=by
 refine nM (.int .i64 M) hg ?_ h
 have hargs:args.map a.eval=((x::xs).map (Value.int .i64)).toArray:=by
  rw[<-hargs0];apply Array.ext';simp
 have hr:=F9 (P:=P) w ats o.type xs x
 rw[hM,<-hargs]at hr
 simp[execOp,ho,resolve,invoke,builtin,hr,Result.andThen,gU]
def gx (h t:Int):Int:=aI t (-16777216) 16777216-h+f9 h
def dU (h:Nat->Int) (f:Int) (t:Nat->Int):Nat->Int:=fun i=>if(i:Int)=f then 0 else gx (h i) (t i)
def kV (d:Nat->Int):Int:=([d 1,d 2,0].foldl mx (d 0)+[d 1,d 2,0].foldl mn (d 0))/2
def bj (d:Nat->Int) (f:Int):Int:=if f=-1 then kV d else if f=3 then 0 else d f.toNat
def bo (d:Nat->Int) (f:Int):Nat->Int
 |0=>d 0-bj d f
 |1=>d 1-bj d f
 |2=>d 2-bj d f
 |_=>bj d f
theorem xM {d:Nat->Int} {m:Int} (hm:0<=m) (h:∀i,i<3->-m<=d i/\d i<=m):0<=[d 1,d 2,0].foldl mx (d 0)/\[d 1,d 2,0].foldl mx (d 0)<=m/\-m<=[d 1,d 2,0].foldl mn (d 0)/\[d 1,d 2,0].foldl mn (d 0)<=0/\∀i,i<3->d i<=[d 1,d 2,0].foldl mx (d 0)/\[d 1,d 2,0].foldl mn (d 0)<=d i:=by
 have h0:=h 0 oa;have h1:=h 1 oa;have h2:=h 2 oa
 simp only[List.foldl_cons,List.foldl_nil]
 refine⟨?_,?_,?_,?_,fun i hi=>?_⟩
 ·unfold mx;split<;>(try split)<;>(try split)<;>omega
 ·unfold mx;split<;>(try split)<;>(try split)<;>omega
 ·unfold mn;split<;>(try split)<;>(try split)<;>omega
 ·unfold mn;split<;>(try split)<;>(try split)<;>omega
 ·rcases(show i=0\/i=1\/i=2 by omega)with rfl|rfl|rfl<;>constructor<;>(first|unfold mx|unfold mn)<;>split<;>(try split)<;>(try split)<;>omega
theorem my {d:Nat->Int} (h:cx d=true):∀i,i<3->-1099511627776<=d i/\d i<=1099511627776:=fun i hi=>(bE _).1 ((bK _).1 h i hi)
theorem jQ {F:Nat->Int} {z:Int} (h3:z=F 3):#[Value.int .i64 (F 0),.int .i64 (F 1),.int .i64 (F 2),.int .i64 z]=aj F:=by
 subst h3
 unfold aj;rfl
theorem Bl {d:Nat->Int} (h:cx d=true):-1099511627776<=kV d/\kV d<=1099511627776:=by
 have:=xM (m:=1099511627776) da (my h)
 unfold kV;omega
theorem Dj (h:Nat->Int) (f:Int) (b:Nat) (t:Nat->Int) (w:World) (hg:af w b (cy (h,f)) 126) (hI:SI h f):Calls Tryz.prog 90 #[.pointer (some ⟨b,0,none⟩),.agg (aj t)] w fun e w'=>e=.returned (.agg (aj (dU h f t)))/\Below w.heap.size w w':=by
 have NN:=aa (fun w' (hb:Below w.heap.size w w')=>ko h f b w' (hg.below hb hg.lt))
 have HI:=aa hI.b
 clear hI
 go_enter Tryz.func90,Tryz.ntmps90
 go_upto_region 1 with(fail)
 simp only[dp]
 have v:af ((w.alloc (.cells (aj t) 22)).alloc (.cells (aj fun _=>0) 22)) w.heap.size (aj t) 22:=(af.new _ _ _).alloc _
 have r:af ((w.alloc (.cells (aj t) 22)).alloc (.cells (aj fun _=>0) 22)) (w.heap.size+1) (aj fun _=>0) 22:=af.new' sd
 have hB:Below w.heap.size w ((w.alloc (.cells (aj t) 22)).alloc (.cells (aj fun _=>0) 22)):=by go_grown
 generalize((w.alloc (.cells (aj t) 22)).alloc (.cells (aj fun _=>0) 22))=w0 at *
 have g:af w0 b (cy (h,f)) 126:=hg.below hB hg.lt
 have gl:=hg.lt
 clear hg
 have ne_v_g:w.heap.size≠b:=oa
 have ne_r_g:(w.heap.size+1)≠b:=oa
 have lt_v:=v.lt
 have lt_r:=r.lt
 have lt_g:=g.lt
 have hW0:w.heap.size<=w0.heap.size:=by simpa using hB.size
 apply ay 1 [0] [0] [(fun p=>.pointer (some ⟨p 0,0,none⟩))] (fun p L w'=>w0.heap.size<=w'.heap.size/\Below w.heap.size w w'/\af w' w.heap.size (aj t) 22/\af w' (w.heap.size+1) (aj fun _=>0) 22/\af w' b (cy (h,f)) 126/\(L 0=true->w0.heap.size<=p 0/\af w' (p 0) (aj fun _=>0) 22)) _ [(0,5)] [0]
 case hn|hB|hds|hA=>exact rA
 case h0=>exact rH
 case hmore=>exact rM
 case hs=>
  intro more
  refine aw.cons ?_ ?_
  ·refine aP 0 rfl (fun p=>rfl) rfl (aj fun _=>0) 22 (fun p=>rfl) ?_ ?_
   ·exact rZ
   rintro p L w1 ⟨hsz,hB,v,r,g,h_x⟩ hk
   refine⟨nk hsz sd,hB.alloc (nk hW0 hsz) _,v.alloc _,r.alloc _,g.alloc _,fun _=>⟨hsz,?_⟩⟩
   exact af.new _ _ _
  exact aw.nil
 case hV0=>exact rV
 case he=>
 clear hB v r g
 rintro p w0r ⟨hsz,hB,v,r,g,h_x⟩
 obtain⟨le_x,x⟩:=h_x rfl
 clear h_x
 replace x:af w0r (p 0) (aj fun _=>0) 22:=x
 have ne_v_x:w.heap.size≠p 0:=nN (nq lt_v le_x)
 have ne_r_x:(w.heap.size+1)≠p 0:=nN (nq lt_r le_x)
 have ne_g_x:b≠p 0:=nN (nq lt_g le_x)
 have ge_x:w.heap.size<=p 0:=nk hW0 le_x
 generalize p 0=x_b at *
 clear lt_v lt_r lt_g hsz hW0
 go_upto_region 4 with(first
  |(go_at_call 94;with_reducible refine(NN.out _ hB).mono ?_;rintro e w9 ⟨rfl,rfl⟩))
 have lt_v:=v.lt
 have lt_r:=r.lt
 have lt_g:=g.lt
 have lt_x:=x.lt
 have hW0:w.heap.size<=w0r.heap.size:=by simpa using hB.size
 apply ay 6 [0,1,3,7,15,31] [] [_,_,_,_,_,_] (fun p L w'=>w0r.heap.size<=w'.heap.size/\Below w.heap.size w w'/\af w' w.heap.size (aj t) 22/\af w' (w.heap.size+1) (aj fun _=>0) 22/\af w' b (cy (h,f)) 126/\af w' x_b (aj fun _=>0) 22) _ [(0,11),(1,12),(2,13),(3,14),(4,15),(5,16)] [0,1,2,3,4,5]
 case hn|hB|hds|hA=>exact rA
 case h0=>exact rH
 case hmore=>exact rM
 case hs=>
  intro more
  refine aH ?_
  refine aH ?_
  refine aH ?_
  refine aH ?_
  refine cm ?_ ?_
  ·rintro p L w1 ⟨hsz,hB,v,r,g,x⟩ hk
   exact aO _ _ rfl _ 0 rfl _ _ g (aj h) (D9 h f) _ ya rfl rI rfl
  refine aH ?_
  exact aw.nil
 case hV0=>exact fun p q=>aw.nil
 case he=>
 clear hB v r g x
 rintro p w0rr ⟨hsz,hB,v,r,g,x⟩
 clear lt_v lt_r lt_g lt_x hsz hW0
 rw[show aj (fun _=>0)=aj (cV (dU h f t) (fun _=>0) 0)from by rw[kD]]at x
 clear NN
 go_wp2_with (fail)
 go_loopg [16] 4 (fun g_ iv wr=>∃k:Nat,g_+k=4/\iv=.int .i64 k/\af wr w.heap.size (aj t) 22/\af wr (w.heap.size+1) (aj fun _=>0) 22/\af wr b (cy (h,f)) 126/\af wr x_b (aj (cV (dU h f t) (fun _=>0) k)) 22/\Below w.heap.size w wr)
 case atStart=>exact⟨0,rfl,rfl,v,r,g,x,hB⟩
 case round=>
  clear v r g x hB
  obtain⟨k,hk,rfl,v,r,g,x,hB⟩:=hrel
  by_cases hkn:k<4
  ·have hdk:decide ((k:Int)<4)=true:=dT oa
   have hdk':decide (k<4)=true:=dT oa
   have hk3:(k:Int)<4:=oa
   have hw3:IntKind.i64.wrap ((k:Int)+1)=((k+1:Nat):Int):=by rw[wI];omega
   have hix:Hid (∀w,(Instr.index 22 (.agg (aj h)) (.int .i64 k)).run Tryz.prog w=.ok (.int .i64 (h k)) w):=fun w=>EH h hkn w
   have H:=HI.out k hkn
   by_cases hf:(k:Int)=f
   ·have d6:((k:Int) !=f)=false:=by simp[hf]
    have ev:dU h f t k=(fun _=>(0:Int)) k:=by unfold dU;rw[if_pos hf]
    have hc4:wr.cell? ⟨b,4,none⟩=some (.int .i64 f):=g.cellIs rfl
    clear H hf
    go_wp2_with ((refine aZ ?hw _ _ _ rfl _ rfl k _ rfl rfl _ hix.out ?_;(case hw=>exact rW)))
    go_roundg (4-(k+1))
    case rel=>
     exact⟨k+1,oa,rfl,v,r,g,by rw[qR ev];exact x,hB⟩
    case measure=>omega
   ·have d6:((k:Int) !=f)=true:=by simp[hf]
    have hc4:wr.cell? ⟨b,4,none⟩=some (.int .i64 f):=g.cellIs rfl
    have H1:=q6 (t k)
    have H2:=qj H
    have CL:=aa (fun w=>i4 (t k) (-16777216) 16777216 w)
    have FR:=aa (fun w=>uO (h k) w H)
    have e1:IntKind.i64.wrap (aI (t k) (-16777216) 16777216-h k)=aI (t k) (-16777216) 16777216-h k:=by rw[wI];omega
    have e2:IntKind.i64.wrap (aI (t k) (-16777216) 16777216-h k+f9 (h k))=gx (h k) (t k):=by rw[wI];unfold gx;omega
    have ev:gx (h k) (t k)=dU h f t k:=by unfold dU;rw[if_neg hf]
    clear H H1 H2 hf
    go_upto_region 8 with(first
     |(refine aZ ?hw _ _ _ rfl _ rfl k _ rfl rfl _ hix.out ?_;(case hw=>exact rW)))
    clear hix hc4
    have lt_v:=v.lt
    have lt_r:=r.lt
    have lt_g:=g.lt
    have lt_x:=x.lt
    have hW0:w.heap.size<=wr.heap.size:=by simpa using hB.size
    apply ay 12 [0,1,3,7,15,31,63,127,255,511,1023,2047] [] [_,_,_,_,_,_,_,_,_,_,_,(fun _=>undef)] (fun p L w'=>wr.heap.size<=w'.heap.size/\Below w.heap.size w w'/\af w' w.heap.size (aj t) 22/\af w' (w.heap.size+1) (aj fun _=>0) 22/\af w' b (cy (h,f)) 126/\af w' x_b (bif L 11 then(aj (cV (dU h f t) (fun _=>0) (k+1)))else(aj (cV (dU h f t) (fun _=>0) k))) 22) _ [(0,27),(1,28),(2,29),(3,30),(4,31),(5,32),(6,33),(7,34),(8,35),(9,36),(10,37)] [0,1,2,3,4,5,6,7,8,9,10,11]
    case hn|hB|hds|hA=>exact rA
    case h0=>exact rH
    case hmore=>exact rM
    case hs=>
     intro more
     refine aH ?_
     refine aH ?_
     refine aH ?_
     refine cm ?_ ?_
     ·rintro p L w1 ⟨hsz,hB,v,r,g,x⟩ hk
      have hc:w1.cell? ⟨w.heap.size,k,none⟩=some (.int .i64 (t k)):=v.cellIs (aD _ hkn)
      go_simp
      exact⟨rfl,rfl⟩
     refine bS 4 rfl (fun p=>rfl) (fun _ _ _ h=>h) more ?_ ?_
     ·rintro p L w1 ⟨hsz,hB,v,r,g,x⟩ hk
      go_simp
      exact(CL.out _).mono rC
     refine aH ?_
     refine aH ?_
     refine aH ?_
     refine bS 8 rfl (fun p=>rfl) (fun _ _ _ h=>h) more ?_ ?_
     ·rintro p L w1 ⟨hsz,hB,v,r,g,x⟩ hk
      go_simp
      exact(FR.out _).mono rC
     refine aH ?_
     refine aH ?_
     refine aw.cons ?_ ?_
     ·refine fJ 11 rfl (fun p=>rfl) (fun p=>rfl) (fun _=>x_b) (k) (fun p=>.int .i64 (gx (h k) (t k))) (fun p=>(aj (cV (dU h f t) (fun _=>0) k))) (fun p=>(aj (cV (dU h f t) (fun _=>0) (k+1)))) 22 (fun p=>KJ hkn _ ev) ?_ ?_ ?_
      ·rintro p L w1 ⟨hsz,hB,v,r,g,x⟩ hk
       exact cg x hk.1
      ·intro p w1 hb
       have fz:w1.frozen? ⟨x_b,k,none⟩=false:=hb.free _
       have cz:∃u,w1.cell? ⟨x_b,k,none⟩=some u:=⟨_,hb.cellIs (aD _ hkn)⟩
       obtain⟨u,cz⟩:=cz
       go_simp
       try exact⟨_,rfl,by first|exact .inl rfl|exact .inr rfl⟩
      ·rintro p L w1 ⟨hsz,hB,v,r,g,x⟩ hk
       refine⟨(by simpa using hsz),Below.setRow hB (by first|exact nk hW0 hp.1|exact ge_x|omega|(have:=hB.size;simp at this|-;omega)) _,v.rowOther ne_v_x _,r.rowOther ne_r_x _,g.rowOther ne_g_x _,?_⟩
       rw[show cD L 11 11=true from rfl]
       exact x.row _
     exact aw.nil
    case hV0=>exact fun p q=>aw.nil
    case he=>
    clear hB v r g x
    rintro p wrr ⟨hsz,hB,v,r,g,x⟩
    replace x:af wrr x_b (aj (cV (dU h f t) (fun _=>0) (k+1))) 22:=x
    clear lt_v lt_r lt_g lt_x hsz hW0
    go_wp2_with (fail)
    go_roundg (4-(k+1))
    case rel=>
     exact⟨k+1,oa,rfl,v,r,g,x,hB⟩
    case measure=>omega
  ·obtain rfl:k=4:=oa
   rw[IF]at x
   go_upto_region 10 with(fail)
   have lt_v:=v.lt
   have lt_r:=r.lt
   have lt_g:=g.lt
   have lt_x:=x.lt
   have hW0:w.heap.size<=wr.heap.size:=by simpa using hB.size
   apply ay 2 [0,1] [] [_,(fun _=>undef)] (fun p L w'=>wr.heap.size<=w'.heap.size/\Below w.heap.size w w'/\af w' w.heap.size (aj t) 22/\af w' (w.heap.size+1) (bif L 1 then(aj (dU h f t))else(aj fun _=>0)) 22/\af w' b (cy (h,f)) 126/\af w' x_b (aj (dU h f t)) 22) _ [(0,39)] [0,1]
   case hn|hB|hds|hA=>exact rA
   case h0=>exact rH
   case hmore=>exact rM
   case hs=>
    intro more
    refine cm ?_ ?_
    ·rintro p L w1 ⟨hsz,hB,v,r,g,x⟩ hk
     first|exact br _ _ rfl _ rfl _ _ x _ ya rfl rI rfl|(have hc:=x.cellIs (aD _ (show 0<4 by omega));go_simp;exact⟨rfl,rfl⟩)
    refine aw.cons ?_ ?_
    ·refine aA 1 rfl (fun p=>rfl) (fun p=>rfl) _ _ _ rfl (fun _=>(w.heap.size+1)) 0 (fun p=>rfl) (fun p=>(aj (dU h f t))) (fun p=>rfl) (fun p=>(aj fun _=>0)) (fun p=>(aj (dU h f t))) 22 (fun p=>dK _ _) (fun p=>by first|(rw[ak,ak];decide)|simp[ak,ak]) (fun p=>by rw[ak];kernel_rfl) (fun p=>bF _) ?_ ?_
     ·rintro p L w1 ⟨hsz,hB,v,r,g,x⟩ hk
      exact cg r hk.1
     ·rintro p L w1 ⟨hsz,hB,v,r,g,x⟩ hk
      refine⟨(by simpa using hsz),Below.setRow hB (by first|exact nk hW0 hp.1|exact ge_r|omega|(have:=hB.size;simp at this|-;omega)) _,v.rowOther (by first|exact ne_v_r|exact Ne.symm ne_r_v|omega) _,?_,g.rowOther (Ne.symm ne_r_g) _,x.rowOther (Ne.symm ne_r_x) _⟩
      rw[show cD L 1 1=true from rfl]
      exact r.row _
    exact aw.nil
   case hV0=>exact fun p q=>aw.nil
   case he=>
   clear hB v r g x
   rintro p wrr ⟨hsz,hB,v,r,g,x⟩
   replace r:af wrr (w.heap.size+1) (aj (dU h f t)) 22:=r
   clear lt_v lt_r lt_g lt_x hsz hW0
   go_wp2_with (fail)
   refine bodyPost_ret (results_cell_row rfl _ _ _ _ _ _ _ rfl r ya rfl rI) rfl ?_
   refine⟨?_,hB⟩
   rfl
theorem Dn (d:Nat->Int) (f:Int) (w:World) (hv:cx d=false):Calls Tryz.prog 89 #[.agg (ah d),.int .i64 f] w fun e w'=>e=.returned (.tuple #[.agg (aj fun _=>0),.int .i64 2])/\Below w.heap.size w w':=by
 have VA:=aa (fun w=>cd d w)
 rw[hv]at VA
 have IS:=aa (fun w=>jl f w)
 go_enter Tryz.func89,Tryz.ntmps89
 go_upto_region 1 with(fail)
 simp only[dp]
 have v:af ((w.alloc (.cells (ah d) 25)).alloc (.cells (aj fun _=>0) 22)) w.heap.size (ah d) 25:=(af.new _ _ _).alloc _
 have r:af ((w.alloc (.cells (ah d) 25)).alloc (.cells (aj fun _=>0) 22)) (w.heap.size+1) (aj fun _=>0) 22:=af.new' sd
 have hB:Below w.heap.size w ((w.alloc (.cells (ah d) 25)).alloc (.cells (aj fun _=>0) 22)):=by go_grown
 generalize((w.alloc (.cells (ah d) 25)).alloc (.cells (aj fun _=>0) 22))=w0 at *
 go_upto_region 2 with(first
  |(refine ac ?hw _ _ rfl _ rfl _ _ _ _ v yc rfl ?hi ?_;(case hw=>exact rW);(case hi=>exact rI))
  |(go_at_call 32;with_reducible refine(VA.out _).mono ?_;rintro e w1 ⟨rfl,hb⟩;replace hB:=hB.trans (hb.mono hB.size);replace v:=v.below hb v.lt;replace r:=r.below hb r.lt;clear hb))
 have lt_v:=v.lt
 have lt_r:=r.lt
 have hW0:w.heap.size<=w1.heap.size:=by simpa using hB.size
 apply ay 3 [0,1,3] [] [_,(fun _=>undef),_] (fun p L w'=>w1.heap.size<=w'.heap.size/\Below w.heap.size w w'/\af w' w.heap.size (ah d) 25/\af w' (w.heap.size+1) (bif L 1 then(aj (fun _=>0))else(aj fun _=>0)) 22) _ [(0,15),(2,5)] [0,1,2]
 case hn|hB|hds|hA=>exact rA
 case h0=>exact rH
 case hmore=>exact rM
 case hs=>
  intro more
  refine cm ?_ ?_
  ·intros;(try simp only[ah,aj]);go_simp;exact⟨rfl,rfl⟩
  refine aw.cons ?_ ?_
  ·refine aA 1 rfl (fun p=>rfl) (fun p=>rfl) _ _ _ rfl (fun _=>(w.heap.size+1)) 0 (fun p=>rfl) (fun p=>(aj (fun _=>0))) (fun p=>(congrArg Value.agg dp)) (fun p=>(aj fun _=>0)) (fun p=>(aj (fun _=>0))) 22 (fun p=>dK _ _) (fun p=>by first|(rw[ak,ak];decide)|simp[ak,ak]) (fun p=>by rw[ak];kernel_rfl) (fun p=>bF _) ?_ ?_
   ·rintro p L w1 ⟨hsz,hB,v,r⟩ hk
    exact cg r hk.1
   ·rintro p L w1 ⟨hsz,hB,v,r⟩ hk
    refine⟨(by simpa using hsz),Below.setRow hB (by first|exact nk hW0 hp.1|exact ge_r|omega|(have:=hB.size;simp at this|-;omega)) _,v.rowOther (by first|exact ne_v_r|exact Ne.symm ne_r_v|omega) _,?_⟩
    rw[show cD L 1 1=true from rfl]
    exact r.row _
  refine aH ?_
  exact aw.nil
 case hV0=>exact fun p q=>aw.nil
 case he=>
 clear hB v r
 rintro p w1r ⟨hsz,hB,v,r⟩
 replace r:af w1r (w.heap.size+1) (aj (fun _=>0)) 22:=r
 clear lt_v lt_r hsz hW0
 go_wp2_with (fail)
 refine bodyPost_ret (aq rfl _ _ _ _ _ _ _ rfl r ya rfl rI) rfl ?_
 refine⟨?_,hB⟩
 rfl
theorem CX (d:Nat->Int) (f:Int) (w:World) (hv:cx d=true) (hf:kN f=false):Calls Tryz.prog 89 #[.agg (ah d),.int .i64 f] w fun e w'=>e=.returned (.tuple #[.agg (aj fun _=>0),.int .i64 2])/\Below w.heap.size w w':=by
 have VA:=aa (fun w=>cd d w)
 rw[hv]at VA
 have IS:=aa (fun w=>jl f w)
 rw[hf]at IS
 go_enter Tryz.func89,Tryz.ntmps89
 go_upto_region 1 with(fail)
 simp only[dp]
 have v:af ((w.alloc (.cells (ah d) 25)).alloc (.cells (aj fun _=>0) 22)) w.heap.size (ah d) 25:=(af.new _ _ _).alloc _
 have r:af ((w.alloc (.cells (ah d) 25)).alloc (.cells (aj fun _=>0) 22)) (w.heap.size+1) (aj fun _=>0) 22:=af.new' sd
 have hB:Below w.heap.size w ((w.alloc (.cells (ah d) 25)).alloc (.cells (aj fun _=>0) 22)):=by go_grown
 generalize((w.alloc (.cells (ah d) 25)).alloc (.cells (aj fun _=>0) 22))=w0 at *
 go_upto_region 2 with(first
  |(refine ac ?hw _ _ rfl _ rfl _ _ _ _ v yc rfl ?hi ?_;(case hw=>exact rW);(case hi=>exact rI))
  |(go_at_call 32;with_reducible refine(VA.out _).mono ?_;rintro e w1 ⟨rfl,hb⟩;replace hB:=hB.trans (hb.mono hB.size);replace v:=v.below hb v.lt;replace r:=r.below hb r.lt;clear hb)
  |(go_at_call 71;with_reducible refine(IS.out _).mono ?_;rintro e w2 ⟨rfl,hb⟩;replace hB:=hB.trans (hb.mono hB.size);replace v:=v.below hb v.lt;replace r:=r.below hb r.lt;clear hb))
 have lt_v:=v.lt
 have lt_r:=r.lt
 have hW0:w.heap.size<=w2.heap.size:=by simpa using hB.size
 apply ay 3 [0,1,3] [] [_,(fun _=>undef),_] (fun p L w'=>w2.heap.size<=w'.heap.size/\Below w.heap.size w w'/\af w' w.heap.size (ah d) 25/\af w' (w.heap.size+1) (bif L 1 then(aj (fun _=>0))else(aj fun _=>0)) 22) _ [(0,15),(2,5)] [0,1,2]
 case hn|hB|hds|hA=>exact rA
 case h0=>exact rH
 case hmore=>exact rM
 case hs=>
  intro more
  refine cm ?_ ?_
  ·intros;(try simp only[ah,aj]);go_simp;exact⟨rfl,rfl⟩
  refine aw.cons ?_ ?_
  ·refine aA 1 rfl (fun p=>rfl) (fun p=>rfl) _ _ _ rfl (fun _=>(w.heap.size+1)) 0 (fun p=>rfl) (fun p=>(aj (fun _=>0))) (fun p=>(congrArg Value.agg dp)) (fun p=>(aj fun _=>0)) (fun p=>(aj (fun _=>0))) 22 (fun p=>dK _ _) (fun p=>by first|(rw[ak,ak];decide)|simp[ak,ak]) (fun p=>by rw[ak];kernel_rfl) (fun p=>bF _) ?_ ?_
   ·rintro p L w1 ⟨hsz,hB,v,r⟩ hk
    exact cg r hk.1
   ·rintro p L w1 ⟨hsz,hB,v,r⟩ hk
    refine⟨(by simpa using hsz),Below.setRow hB (by first|exact nk hW0 hp.1|exact ge_r|omega|(have:=hB.size;simp at this|-;omega)) _,v.rowOther (by first|exact ne_v_r|exact Ne.symm ne_r_v|omega) _,?_⟩
    rw[show cD L 1 1=true from rfl]
    exact r.row _
  refine aH ?_
  exact aw.nil
 case hV0=>exact fun p q=>aw.nil
 case he=>
 clear hB v r
 rintro p w2r ⟨hsz,hB,v,r⟩
 replace r:af w2r (w.heap.size+1) (aj (fun _=>0)) 22:=r
 clear lt_v lt_r hsz hW0
 go_wp2_with (fail)
 refine bodyPost_ret (aq rfl _ _ _ _ _ _ _ rfl r ya rfl rI) rfl ?_
 refine⟨?_,hB⟩
 rfl
theorem Ir (d:Nat->Int) (w:World) (hv:cx d=true):Calls Tryz.prog 89 #[.agg (ah d),.int .i64 (-1)] w fun e w'=>e=.returned (.tuple #[.agg (aj (bo d (-1))),.int .i64 0])/\Below w.heap.size w w':=by
 have VA:=aa (fun w=>cd d w)
 rw[hv]at VA
 have IS:=aa (fun w=>jl (-1) w)
 rw[show kN (-1)=true from by decide]at IS
 have bd:=my hv
 have hz:bj d (-1)=kV d:=rfl
 obtain⟨x0,x1,n0,n1,_⟩:=xM (m:=1099511627776) da bd
 have zb:=Bl hv
 have hM:Hid ([d 1,d 2,0].foldl mx (d 0)=[d 1,d 2,0].foldl mx (d 0)):=aa rfl
 have hm:Hid ([d 1,d 2,0].foldl mn (d 0)=[d 1,d 2,0].foldl mn (d 0)):=aa rfl
 have hs:kV d=([d 1,d 2,0].foldl mx (d 0)+[d 1,d 2,0].foldl mn (d 0))/2:=rfl
 generalize hZ:kV d=Z at *
 generalize h1:[d 1,d 2,0].foldl mx (d 0)=M1 at *
 generalize h2:[d 1,d 2,0].foldl mn (d 0)=M2 at *
 replace hM:=aa h1
 replace hm:=aa h2
 clear h1 h2 hZ
 have ew:IntKind.i64.wrap (M1+M2)=M1+M2:=by rw[wI];omega
 have es:(M1+M2)>>>1=Z:=by rw[hs];exact Int.shiftRight_eq_div_pow _ _
 have es2:(M1+M2)/2=Z:=hs.symm
 have ez:IntKind.i64.wrap Z=Z:=by rw[wI];omega
 have s0:IntKind.i64.wrap (d 0-Z)=bo d (-1) 0:=by have:=bd 0 oa;have:=bd 0 oa;have:=bd 1 oa;have:=bd 2 oa;rw[wI];show _=d 0-bj d (-1);rw[hz];omega
 have s1:IntKind.i64.wrap (d 1-Z)=bo d (-1) 1:=by have:=bd 1 oa;have:=bd 0 oa;have:=bd 1 oa;have:=bd 2 oa;rw[wI];show _=d 1-bj d (-1);rw[hz];omega
 have s2:IntKind.i64.wrap (d 2-Z)=bo d (-1) 2:=by have:=bd 2 oa;have:=bd 0 oa;have:=bd 1 oa;have:=bd 2 oa;rw[wI];show _=d 2-bj d (-1);rw[hz];omega
 have s3:=aa (show Z=bo d (-1) 3 from hz.symm)
 clear bd hz hs x0 x1 n0 n1 zb
 go_enter Tryz.func89,Tryz.ntmps89
 go_upto_region 1 with(fail)
 simp only[dp]
 have v:af ((w.alloc (.cells (ah d) 25)).alloc (.cells (aj fun _=>0) 22)) w.heap.size (ah d) 25:=(af.new _ _ _).alloc _
 have r:af ((w.alloc (.cells (ah d) 25)).alloc (.cells (aj fun _=>0) 22)) (w.heap.size+1) (aj fun _=>0) 22:=af.new' sd
 have hB:Below w.heap.size w ((w.alloc (.cells (ah d) 25)).alloc (.cells (aj fun _=>0) 22)):=by go_grown
 generalize((w.alloc (.cells (ah d) 25)).alloc (.cells (aj fun _=>0) 22))=w0 at *
 have hc0:∀w1,af w1 w.heap.size (ah d) 25->w1.cell? ⟨w.heap.size,0,none⟩=some (.int .i64 (d 0)):=fun w1 hv=>hv.cellIs (az d oa)
 replace hc0:=aa hc0
 have hc1:∀w1,af w1 w.heap.size (ah d) 25->w1.cell? ⟨w.heap.size,1,none⟩=some (.int .i64 (d 1)):=fun w1 hv=>hv.cellIs (az d oa)
 replace hc1:=aa hc1
 have hc2:∀w1,af w1 w.heap.size (ah d) 25->w1.cell? ⟨w.heap.size,2,none⟩=some (.int .i64 (d 2)):=fun w1 hv=>hv.cellIs (az d oa)
 replace hc2:=aa hc2
 go_upto_region 3 with(first
  |(refine ac ?hw _ _ rfl _ rfl _ _ _ _ v yc rfl ?hi ?_;(case hw=>exact rW);(case hi=>exact rI))
  |(go_at_call 32;with_reducible refine(VA.out _).mono ?_;rintro e w1 ⟨rfl,hb⟩;replace hB:=hB.trans (hb.mono hB.size);replace v:=v.below hb v.lt;replace r:=r.below hb r.lt;clear hb)
  |(go_at_call 71;with_reducible refine(IS.out _).mono ?_;rintro e w2 ⟨rfl,hb⟩;replace hB:=hB.trans (hb.mono hB.size);replace v:=v.below hb v.lt;replace r:=r.below hb r.lt;clear hb))
 have q0:=hc0.out _ v
 have q1:=hc1.out _ v
 have q2:=hc2.out _ v
 go_upto_region 11 with(first
  |(refine fH rfl rfl _ _ _ hM.out rfl ?_)
  |(refine wR rfl rfl _ _ _ hm.out rfl ?_))
 clear q0 q1 q2 hc0 hc1 hc2 VA IS
 have lt_v:=v.lt
 have lt_r:=r.lt
 have hW0:w.heap.size<=w2.heap.size:=by simpa using hB.size
 apply ay 16 [0,1,3,7,15,31,63,127,255,511,1023,2047,4095,8191,16383,32767] [] [_,_,_,_,_,_,_,_,_,_,_,_,_,_,(fun _=>undef),_] (fun p L w'=>w2.heap.size<=w'.heap.size/\Below w.heap.size w w'/\af w' w.heap.size (ah d) 25/\af w' (w.heap.size+1) (bif L 14 then(aj (bo d (-1)))else(aj fun _=>0)) 22) _ [(0,42),(1,43),(2,44),(3,45),(4,46),(5,47),(6,48),(7,49),(8,50),(9,51),(10,52),(11,53),(12,54),(13,55),(15,5)] [0,1,2,3,4,5,6,7,8,9,10,11,12,13,14,15]
 case hn|hB|hds|hA=>exact rA
 case h0=>exact rH
 case hmore=>exact rM
 case hs=>
  intro more
  refine aH ?_
  refine cm ?_ ?_
  ·rintro p L w1 ⟨hsz,hB,v,r⟩ hk
   have hc:w1.cell? ⟨w.heap.size,0,none⟩=some (.int .i64 (d 0)):=v.cellIs (az _ oa)
   go_simp
   exact⟨rfl,rfl⟩
  refine aH ?_
  refine aH ?_
  refine aH ?_
  refine cm ?_ ?_
  ·rintro p L w1 ⟨hsz,hB,v,r⟩ hk
   have hc:w1.cell? ⟨w.heap.size,1,none⟩=some (.int .i64 (d 1)):=v.cellIs (az _ oa)
   go_simp
   exact⟨rfl,rfl⟩
  refine aH ?_
  refine aH ?_
  refine aH ?_
  refine cm ?_ ?_
  ·rintro p L w1 ⟨hsz,hB,v,r⟩ hk
   have hc:w1.cell? ⟨w.heap.size,2,none⟩=some (.int .i64 (d 2)):=v.cellIs (az _ oa)
   go_simp
   exact⟨rfl,rfl⟩
  refine aH ?_
  refine aH ?_
  refine aH ?_
  refine aw.cons ?_ ?_
  ·refine eK 13 rfl (fun p=>rfl) ?_ (fun _ _ _ h=>h)
   intros;go_simp;exact⟨congrArg Value.agg (jQ s3),rfl⟩
  refine aw.cons ?_ ?_
  ·refine aA 14 rfl (fun p=>rfl) (fun p=>rfl) _ _ _ rfl (fun _=>(w.heap.size+1)) 0 (fun p=>rfl) (fun p=>(aj (bo d (-1)))) (fun p=>rfl) (fun p=>(aj fun _=>0)) (fun p=>(aj (bo d (-1)))) 22 (fun p=>dK _ _) (fun p=>by first|(rw[ak,ak];decide)|simp[ak,ak]) (fun p=>by rw[ak];kernel_rfl) (fun p=>bF _) ?_ ?_
   ·rintro p L w1 ⟨hsz,hB,v,r⟩ hk
    exact cg r hk.1
   ·rintro p L w1 ⟨hsz,hB,v,r⟩ hk
    refine⟨(by simpa using hsz),Below.setRow hB (by first|exact nk hW0 hp.1|exact ge_r|omega|(have:=hB.size;simp at this|-;omega)) _,v.rowOther (by first|exact ne_v_r|exact Ne.symm ne_r_v|omega) _,?_⟩
    rw[show cD L 14 14=true from rfl]
    exact r.row _
  refine aH ?_
  exact aw.nil
 case hV0=>exact fun p q=>aw.nil
 case he=>
 clear hB v r
 rintro p w2r ⟨hsz,hB,v,r⟩
 replace r:af w2r (w.heap.size+1) (aj (bo d (-1))) 22:=r
 clear lt_v lt_r hsz hW0
 go_wp2_with (fail)
 refine bodyPost_ret (aq rfl _ _ _ _ _ _ _ rfl r ya rfl rI) rfl ?_
 refine⟨?_,hB⟩
 rfl
theorem Id (d:Nat->Int) (w:World) (hv:cx d=true):Calls Tryz.prog 89 #[.agg (ah d),.int .i64 0] w fun e w'=>e=.returned (.tuple #[.agg (aj (bo d 0)),.int .i64 0])/\Below w.heap.size w w':=by
 have VA:=aa (fun w=>cd d w)
 rw[hv]at VA
 have IS:=aa (fun w=>jl 0 w)
 rw[show kN 0=true from by decide]at IS
 have bd:=my hv
 have hz:bj d 0=d 0:=rfl
 have s0:IntKind.i64.wrap (d 0-d 0)=bo d 0 0:=by have:=bd 0 oa;have:=bd 0 oa;have:=bd 1 oa;have:=bd 2 oa;rw[wI];show _=d 0-bj d 0;rw[hz];omega
 have s1:IntKind.i64.wrap (d 1-d 0)=bo d 0 1:=by have:=bd 1 oa;have:=bd 0 oa;have:=bd 1 oa;have:=bd 2 oa;rw[wI];show _=d 1-bj d 0;rw[hz];omega
 have s2:IntKind.i64.wrap (d 2-d 0)=bo d 0 2:=by have:=bd 2 oa;have:=bd 0 oa;have:=bd 1 oa;have:=bd 2 oa;rw[wI];show _=d 2-bj d 0;rw[hz];omega
 have s3:=aa (show d 0=bo d 0 3 from hz.symm)
 have t0:IntKind.i64.wrap 0=bo d 0 0:=by rw[<-s0];congr 1;omega
 clear s0 bd hz
 go_enter Tryz.func89,Tryz.ntmps89
 go_upto_region 1 with(fail)
 simp only[dp]
 have v:af ((w.alloc (.cells (ah d) 25)).alloc (.cells (aj fun _=>0) 22)) w.heap.size (ah d) 25:=(af.new _ _ _).alloc _
 have r:af ((w.alloc (.cells (ah d) 25)).alloc (.cells (aj fun _=>0) 22)) (w.heap.size+1) (aj fun _=>0) 22:=af.new' sd
 have hB:Below w.heap.size w ((w.alloc (.cells (ah d) 25)).alloc (.cells (aj fun _=>0) 22)):=by go_grown
 generalize((w.alloc (.cells (ah d) 25)).alloc (.cells (aj fun _=>0) 22))=w0 at *
 have hc0:∀w1,af w1 w.heap.size (ah d) 25->w1.cell? ⟨w.heap.size,0,none⟩=some (.int .i64 (d 0)):=fun w1 hv=>hv.cellIs (az d oa)
 replace hc0:=aa hc0
 have hc1:∀w1,af w1 w.heap.size (ah d) 25->w1.cell? ⟨w.heap.size,1,none⟩=some (.int .i64 (d 1)):=fun w1 hv=>hv.cellIs (az d oa)
 replace hc1:=aa hc1
 have hc2:∀w1,af w1 w.heap.size (ah d) 25->w1.cell? ⟨w.heap.size,2,none⟩=some (.int .i64 (d 2)):=fun w1 hv=>hv.cellIs (az d oa)
 replace hc2:=aa hc2
 go_upto_region 3 with(first
  |(refine ac ?hw _ _ rfl _ rfl _ _ _ _ v yc rfl ?hi ?_;(case hw=>exact rW);(case hi=>exact rI))
  |(go_at_call 32;with_reducible refine(VA.out _).mono ?_;rintro e w1 ⟨rfl,hb⟩;replace hB:=hB.trans (hb.mono hB.size);replace v:=v.below hb v.lt;replace r:=r.below hb r.lt;clear hb)
  |(go_at_call 71;with_reducible refine(IS.out _).mono ?_;rintro e w2 ⟨rfl,hb⟩;replace hB:=hB.trans (hb.mono hB.size);replace v:=v.below hb v.lt;replace r:=r.below hb r.lt;clear hb))
 have q0:=hc0.out _ v
 have q1:=hc1.out _ v
 have q2:=hc2.out _ v
 go_upto_region 11 with(fail)
 clear q0 q1 q2 hc0 hc1 hc2 VA IS
 have lt_v:=v.lt
 have lt_r:=r.lt
 have hW0:w.heap.size<=w2.heap.size:=by simpa using hB.size
 apply ay 16 [0,1,3,7,15,31,63,127,255,511,1023,2047,4095,8191,16383,32767] [] [_,_,_,_,_,_,_,_,_,_,_,_,_,_,(fun _=>undef),_] (fun p L w'=>w2.heap.size<=w'.heap.size/\Below w.heap.size w w'/\af w' w.heap.size (ah d) 25/\af w' (w.heap.size+1) (bif L 14 then(aj (bo d 0))else(aj fun _=>0)) 22) _ [(0,42),(1,43),(2,44),(3,45),(4,46),(5,47),(6,48),(7,49),(8,50),(9,51),(10,52),(11,53),(12,54),(13,55),(15,5)] [0,1,2,3,4,5,6,7,8,9,10,11,12,13,14,15]
 case hn|hB|hds|hA=>exact rA
 case h0=>exact rH
 case hmore=>exact rM
 case hs=>
  intro more
  refine aH ?_
  refine cm ?_ ?_
  ·rintro p L w1 ⟨hsz,hB,v,r⟩ hk
   have hc:w1.cell? ⟨w.heap.size,0,none⟩=some (.int .i64 (d 0)):=v.cellIs (az _ oa)
   go_simp
   exact⟨rfl,rfl⟩
  refine aH ?_
  refine aH ?_
  refine aH ?_
  refine cm ?_ ?_
  ·rintro p L w1 ⟨hsz,hB,v,r⟩ hk
   have hc:w1.cell? ⟨w.heap.size,1,none⟩=some (.int .i64 (d 1)):=v.cellIs (az _ oa)
   go_simp
   exact⟨rfl,rfl⟩
  refine aH ?_
  refine aH ?_
  refine aH ?_
  refine cm ?_ ?_
  ·rintro p L w1 ⟨hsz,hB,v,r⟩ hk
   have hc:w1.cell? ⟨w.heap.size,2,none⟩=some (.int .i64 (d 2)):=v.cellIs (az _ oa)
   go_simp
   exact⟨rfl,rfl⟩
  refine aH ?_
  refine aH ?_
  refine aH ?_
  refine aw.cons ?_ ?_
  ·refine eK 13 rfl (fun p=>rfl) ?_ (fun _ _ _ h=>h)
   intros;go_simp;exact⟨congrArg Value.agg (jQ s3),rfl⟩
  refine aw.cons ?_ ?_
  ·refine aA 14 rfl (fun p=>rfl) (fun p=>rfl) _ _ _ rfl (fun _=>(w.heap.size+1)) 0 (fun p=>rfl) (fun p=>(aj (bo d 0))) (fun p=>rfl) (fun p=>(aj fun _=>0)) (fun p=>(aj (bo d 0))) 22 (fun p=>dK _ _) (fun p=>by first|(rw[ak,ak];decide)|simp[ak,ak]) (fun p=>by rw[ak];kernel_rfl) (fun p=>bF _) ?_ ?_
   ·rintro p L w1 ⟨hsz,hB,v,r⟩ hk
    exact cg r hk.1
   ·rintro p L w1 ⟨hsz,hB,v,r⟩ hk
    refine⟨(by simpa using hsz),Below.setRow hB (by first|exact nk hW0 hp.1|exact ge_r|omega|(have:=hB.size;simp at this|-;omega)) _,v.rowOther (by first|exact ne_v_r|exact Ne.symm ne_r_v|omega) _,?_⟩
    rw[show cD L 14 14=true from rfl]
    exact r.row _
  refine aH ?_
  exact aw.nil
 case hV0=>exact fun p q=>aw.nil
 case he=>
 clear hB v r
 rintro p w2r ⟨hsz,hB,v,r⟩
 replace r:af w2r (w.heap.size+1) (aj (bo d 0)) 22:=r
 clear lt_v lt_r hsz hW0
 go_wp2_with (fail)
 refine bodyPost_ret (aq rfl _ _ _ _ _ _ _ rfl r ya rfl rI) rfl ?_
 refine⟨?_,hB⟩
 rfl
theorem Hr (d:Nat->Int) (w:World) (hv:cx d=true):Calls Tryz.prog 89 #[.agg (ah d),.int .i64 1] w fun e w'=>e=.returned (.tuple #[.agg (aj (bo d 1)),.int .i64 0])/\Below w.heap.size w w':=by
 have VA:=aa (fun w=>cd d w)
 rw[hv]at VA
 have IS:=aa (fun w=>jl 1 w)
 rw[show kN 1=true from by decide]at IS
 have bd:=my hv
 have hz:bj d 1=d 1:=rfl
 have s0:IntKind.i64.wrap (d 0-d 1)=bo d 1 0:=by have:=bd 0 oa;have:=bd 0 oa;have:=bd 1 oa;have:=bd 2 oa;rw[wI];show _=d 0-bj d 1;rw[hz];omega
 have s1:IntKind.i64.wrap (d 1-d 1)=bo d 1 1:=by have:=bd 1 oa;have:=bd 0 oa;have:=bd 1 oa;have:=bd 2 oa;rw[wI];show _=d 1-bj d 1;rw[hz];omega
 have s2:IntKind.i64.wrap (d 2-d 1)=bo d 1 2:=by have:=bd 2 oa;have:=bd 0 oa;have:=bd 1 oa;have:=bd 2 oa;rw[wI];show _=d 2-bj d 1;rw[hz];omega
 have s3:=aa (show d 1=bo d 1 3 from hz.symm)
 have t1:IntKind.i64.wrap 0=bo d 1 1:=by rw[<-s1];congr 1;omega
 clear s1 bd hz
 go_enter Tryz.func89,Tryz.ntmps89
 go_upto_region 1 with(fail)
 simp only[dp]
 have v:af ((w.alloc (.cells (ah d) 25)).alloc (.cells (aj fun _=>0) 22)) w.heap.size (ah d) 25:=(af.new _ _ _).alloc _
 have r:af ((w.alloc (.cells (ah d) 25)).alloc (.cells (aj fun _=>0) 22)) (w.heap.size+1) (aj fun _=>0) 22:=af.new' sd
 have hB:Below w.heap.size w ((w.alloc (.cells (ah d) 25)).alloc (.cells (aj fun _=>0) 22)):=by go_grown
 generalize((w.alloc (.cells (ah d) 25)).alloc (.cells (aj fun _=>0) 22))=w0 at *
 have hc0:∀w1,af w1 w.heap.size (ah d) 25->w1.cell? ⟨w.heap.size,0,none⟩=some (.int .i64 (d 0)):=fun w1 hv=>hv.cellIs (az d oa)
 replace hc0:=aa hc0
 have hc1:∀w1,af w1 w.heap.size (ah d) 25->w1.cell? ⟨w.heap.size,1,none⟩=some (.int .i64 (d 1)):=fun w1 hv=>hv.cellIs (az d oa)
 replace hc1:=aa hc1
 have hc2:∀w1,af w1 w.heap.size (ah d) 25->w1.cell? ⟨w.heap.size,2,none⟩=some (.int .i64 (d 2)):=fun w1 hv=>hv.cellIs (az d oa)
 replace hc2:=aa hc2
 go_upto_region 3 with(first
  |(refine ac ?hw _ _ rfl _ rfl _ _ _ _ v yc rfl ?hi ?_;(case hw=>exact rW);(case hi=>exact rI))
  |(go_at_call 32;with_reducible refine(VA.out _).mono ?_;rintro e w1 ⟨rfl,hb⟩;replace hB:=hB.trans (hb.mono hB.size);replace v:=v.below hb v.lt;replace r:=r.below hb r.lt;clear hb)
  |(go_at_call 71;with_reducible refine(IS.out _).mono ?_;rintro e w2 ⟨rfl,hb⟩;replace hB:=hB.trans (hb.mono hB.size);replace v:=v.below hb v.lt;replace r:=r.below hb r.lt;clear hb))
 have q0:=hc0.out _ v
 have q1:=hc1.out _ v
 have q2:=hc2.out _ v
 go_upto_region 11 with(fail)
 clear q0 q1 q2 hc0 hc1 hc2 VA IS
 have lt_v:=v.lt
 have lt_r:=r.lt
 have hW0:w.heap.size<=w2.heap.size:=by simpa using hB.size
 apply ay 16 [0,1,3,7,15,31,63,127,255,511,1023,2047,4095,8191,16383,32767] [] [_,_,_,_,_,_,_,_,_,_,_,_,_,_,(fun _=>undef),_] (fun p L w'=>w2.heap.size<=w'.heap.size/\Below w.heap.size w w'/\af w' w.heap.size (ah d) 25/\af w' (w.heap.size+1) (bif L 14 then(aj (bo d 1))else(aj fun _=>0)) 22) _ [(0,42),(1,43),(2,44),(3,45),(4,46),(5,47),(6,48),(7,49),(8,50),(9,51),(10,52),(11,53),(12,54),(13,55),(15,5)] [0,1,2,3,4,5,6,7,8,9,10,11,12,13,14,15]
 case hn|hB|hds|hA=>exact rA
 case h0=>exact rH
 case hmore=>exact rM
 case hs=>
  intro more
  refine aH ?_
  refine cm ?_ ?_
  ·rintro p L w1 ⟨hsz,hB,v,r⟩ hk
   have hc:w1.cell? ⟨w.heap.size,0,none⟩=some (.int .i64 (d 0)):=v.cellIs (az _ oa)
   go_simp
   exact⟨rfl,rfl⟩
  refine aH ?_
  refine aH ?_
  refine aH ?_
  refine cm ?_ ?_
  ·rintro p L w1 ⟨hsz,hB,v,r⟩ hk
   have hc:w1.cell? ⟨w.heap.size,1,none⟩=some (.int .i64 (d 1)):=v.cellIs (az _ oa)
   go_simp
   exact⟨rfl,rfl⟩
  refine aH ?_
  refine aH ?_
  refine aH ?_
  refine cm ?_ ?_
  ·rintro p L w1 ⟨hsz,hB,v,r⟩ hk
   have hc:w1.cell? ⟨w.heap.size,2,none⟩=some (.int .i64 (d 2)):=v.cellIs (az _ oa)
   go_simp
   exact⟨rfl,rfl⟩
  refine aH ?_
  refine aH ?_
  refine aH ?_
  refine aw.cons ?_ ?_
  ·refine eK 13 rfl (fun p=>rfl) ?_ (fun _ _ _ h=>h)
   intros;go_simp;exact⟨congrArg Value.agg (jQ s3),rfl⟩
  refine aw.cons ?_ ?_
  ·refine aA 14 rfl (fun p=>rfl) (fun p=>rfl) _ _ _ rfl (fun _=>(w.heap.size+1)) 0 (fun p=>rfl) (fun p=>(aj (bo d 1))) (fun p=>rfl) (fun p=>(aj fun _=>0)) (fun p=>(aj (bo d 1))) 22 (fun p=>dK _ _) (fun p=>by first|(rw[ak,ak];decide)|simp[ak,ak]) (fun p=>by rw[ak];kernel_rfl) (fun p=>bF _) ?_ ?_
   ·rintro p L w1 ⟨hsz,hB,v,r⟩ hk
    exact cg r hk.1
   ·rintro p L w1 ⟨hsz,hB,v,r⟩ hk
    refine⟨(by simpa using hsz),Below.setRow hB (by first|exact nk hW0 hp.1|exact ge_r|omega|(have:=hB.size;simp at this|-;omega)) _,v.rowOther (by first|exact ne_v_r|exact Ne.symm ne_r_v|omega) _,?_⟩
    rw[show cD L 14 14=true from rfl]
    exact r.row _
  refine aH ?_
  exact aw.nil
 case hV0=>exact fun p q=>aw.nil
 case he=>
 clear hB v r
 rintro p w2r ⟨hsz,hB,v,r⟩
 replace r:af w2r (w.heap.size+1) (aj (bo d 1)) 22:=r
 clear lt_v lt_r hsz hW0
 go_wp2_with (fail)
 refine bodyPost_ret (aq rfl _ _ _ _ _ _ _ rfl r ya rfl rI) rfl ?_
 refine⟨?_,hB⟩
 rfl
theorem Iw (d:Nat->Int) (w:World) (hv:cx d=true):Calls Tryz.prog 89 #[.agg (ah d),.int .i64 2] w fun e w'=>e=.returned (.tuple #[.agg (aj (bo d 2)),.int .i64 0])/\Below w.heap.size w w':=by
 have VA:=aa (fun w=>cd d w)
 rw[hv]at VA
 have IS:=aa (fun w=>jl 2 w)
 rw[show kN 2=true from by decide]at IS
 have bd:=my hv
 have hz:bj d 2=d 2:=rfl
 have s0:IntKind.i64.wrap (d 0-d 2)=bo d 2 0:=by have:=bd 0 oa;have:=bd 0 oa;have:=bd 1 oa;have:=bd 2 oa;rw[wI];show _=d 0-bj d 2;rw[hz];omega
 have s1:IntKind.i64.wrap (d 1-d 2)=bo d 2 1:=by have:=bd 1 oa;have:=bd 0 oa;have:=bd 1 oa;have:=bd 2 oa;rw[wI];show _=d 1-bj d 2;rw[hz];omega
 have s2:IntKind.i64.wrap (d 2-d 2)=bo d 2 2:=by have:=bd 2 oa;have:=bd 0 oa;have:=bd 1 oa;have:=bd 2 oa;rw[wI];show _=d 2-bj d 2;rw[hz];omega
 have s3:=aa (show d 2=bo d 2 3 from hz.symm)
 have t2:IntKind.i64.wrap 0=bo d 2 2:=by rw[<-s2];congr 1;omega
 clear s2 bd hz
 go_enter Tryz.func89,Tryz.ntmps89
 go_upto_region 1 with(fail)
 simp only[dp]
 have v:af ((w.alloc (.cells (ah d) 25)).alloc (.cells (aj fun _=>0) 22)) w.heap.size (ah d) 25:=(af.new _ _ _).alloc _
 have r:af ((w.alloc (.cells (ah d) 25)).alloc (.cells (aj fun _=>0) 22)) (w.heap.size+1) (aj fun _=>0) 22:=af.new' sd
 have hB:Below w.heap.size w ((w.alloc (.cells (ah d) 25)).alloc (.cells (aj fun _=>0) 22)):=by go_grown
 generalize((w.alloc (.cells (ah d) 25)).alloc (.cells (aj fun _=>0) 22))=w0 at *
 have hc0:∀w1,af w1 w.heap.size (ah d) 25->w1.cell? ⟨w.heap.size,0,none⟩=some (.int .i64 (d 0)):=fun w1 hv=>hv.cellIs (az d oa)
 replace hc0:=aa hc0
 have hc1:∀w1,af w1 w.heap.size (ah d) 25->w1.cell? ⟨w.heap.size,1,none⟩=some (.int .i64 (d 1)):=fun w1 hv=>hv.cellIs (az d oa)
 replace hc1:=aa hc1
 have hc2:∀w1,af w1 w.heap.size (ah d) 25->w1.cell? ⟨w.heap.size,2,none⟩=some (.int .i64 (d 2)):=fun w1 hv=>hv.cellIs (az d oa)
 replace hc2:=aa hc2
 go_upto_region 3 with(first
  |(refine ac ?hw _ _ rfl _ rfl _ _ _ _ v yc rfl ?hi ?_;(case hw=>exact rW);(case hi=>exact rI))
  |(go_at_call 32;with_reducible refine(VA.out _).mono ?_;rintro e w1 ⟨rfl,hb⟩;replace hB:=hB.trans (hb.mono hB.size);replace v:=v.below hb v.lt;replace r:=r.below hb r.lt;clear hb)
  |(go_at_call 71;with_reducible refine(IS.out _).mono ?_;rintro e w2 ⟨rfl,hb⟩;replace hB:=hB.trans (hb.mono hB.size);replace v:=v.below hb v.lt;replace r:=r.below hb r.lt;clear hb))
 have q0:=hc0.out _ v
 have q1:=hc1.out _ v
 have q2:=hc2.out _ v
 go_upto_region 11 with(fail)
 clear q0 q1 q2 hc0 hc1 hc2 VA IS
 have lt_v:=v.lt
 have lt_r:=r.lt
 have hW0:w.heap.size<=w2.heap.size:=by simpa using hB.size
 apply ay 16 [0,1,3,7,15,31,63,127,255,511,1023,2047,4095,8191,16383,32767] [] [_,_,_,_,_,_,_,_,_,_,_,_,_,_,(fun _=>undef),_] (fun p L w'=>w2.heap.size<=w'.heap.size/\Below w.heap.size w w'/\af w' w.heap.size (ah d) 25/\af w' (w.heap.size+1) (bif L 14 then(aj (bo d 2))else(aj fun _=>0)) 22) _ [(0,42),(1,43),(2,44),(3,45),(4,46),(5,47),(6,48),(7,49),(8,50),(9,51),(10,52),(11,53),(12,54),(13,55),(15,5)] [0,1,2,3,4,5,6,7,8,9,10,11,12,13,14,15]
 case hn|hB|hds|hA=>exact rA
 case h0=>exact rH
 case hmore=>exact rM
 case hs=>
  intro more
  refine aH ?_
  refine cm ?_ ?_
  ·rintro p L w1 ⟨hsz,hB,v,r⟩ hk
   have hc:w1.cell? ⟨w.heap.size,0,none⟩=some (.int .i64 (d 0)):=v.cellIs (az _ oa)
   go_simp
   exact⟨rfl,rfl⟩
  refine aH ?_
  refine aH ?_
  refine aH ?_
  refine cm ?_ ?_
  ·rintro p L w1 ⟨hsz,hB,v,r⟩ hk
   have hc:w1.cell? ⟨w.heap.size,1,none⟩=some (.int .i64 (d 1)):=v.cellIs (az _ oa)
   go_simp
   exact⟨rfl,rfl⟩
  refine aH ?_
  refine aH ?_
  refine aH ?_
  refine cm ?_ ?_
  ·rintro p L w1 ⟨hsz,hB,v,r⟩ hk
   have hc:w1.cell? ⟨w.heap.size,2,none⟩=some (.int .i64 (d 2)):=v.cellIs (az _ oa)
   go_simp
   exact⟨rfl,rfl⟩
  refine aH ?_
  refine aH ?_
  refine aH ?_
  refine aw.cons ?_ ?_
  ·refine eK 13 rfl (fun p=>rfl) ?_ (fun _ _ _ h=>h)
   intros;go_simp;exact⟨congrArg Value.agg (jQ s3),rfl⟩
  refine aw.cons ?_ ?_
  ·refine aA 14 rfl (fun p=>rfl) (fun p=>rfl) _ _ _ rfl (fun _=>(w.heap.size+1)) 0 (fun p=>rfl) (fun p=>(aj (bo d 2))) (fun p=>rfl) (fun p=>(aj fun _=>0)) (fun p=>(aj (bo d 2))) 22 (fun p=>dK _ _) (fun p=>by first|(rw[ak,ak];decide)|simp[ak,ak]) (fun p=>by rw[ak];kernel_rfl) (fun p=>bF _) ?_ ?_
   ·rintro p L w1 ⟨hsz,hB,v,r⟩ hk
    exact cg r hk.1
   ·rintro p L w1 ⟨hsz,hB,v,r⟩ hk
    refine⟨(by simpa using hsz),Below.setRow hB (by first|exact nk hW0 hp.1|exact ge_r|omega|(have:=hB.size;simp at this|-;omega)) _,v.rowOther (by first|exact ne_v_r|exact Ne.symm ne_r_v|omega) _,?_⟩
    rw[show cD L 14 14=true from rfl]
    exact r.row _
  refine aH ?_
  exact aw.nil
 case hV0=>exact fun p q=>aw.nil
 case he=>
 clear hB v r
 rintro p w2r ⟨hsz,hB,v,r⟩
 replace r:af w2r (w.heap.size+1) (aj (bo d 2)) 22:=r
 clear lt_v lt_r hsz hW0
 go_wp2_with (fail)
 refine bodyPost_ret (aq rfl _ _ _ _ _ _ _ rfl r ya rfl rI) rfl ?_
 refine⟨?_,hB⟩
 rfl
theorem I5 (d:Nat->Int) (w:World) (hv:cx d=true):Calls Tryz.prog 89 #[.agg (ah d),.int .i64 3] w fun e w'=>e=.returned (.tuple #[.agg (aj (bo d 3)),.int .i64 0])/\Below w.heap.size w w':=by
 have VA:=aa (fun w=>cd d w)
 rw[hv]at VA
 have IS:=aa (fun w=>jl 3 w)
 rw[show kN 3=true from by decide]at IS
 have bd:=my hv
 have hz:bj d 3=0:=rfl
 have s0:IntKind.i64.wrap (d 0-0)=bo d 3 0:=by have:=bd 0 oa;have:=bd 0 oa;have:=bd 1 oa;have:=bd 2 oa;rw[wI];show _=d 0-bj d 3;rw[hz];omega
 have s1:IntKind.i64.wrap (d 1-0)=bo d 3 1:=by have:=bd 1 oa;have:=bd 0 oa;have:=bd 1 oa;have:=bd 2 oa;rw[wI];show _=d 1-bj d 3;rw[hz];omega
 have s2:IntKind.i64.wrap (d 2-0)=bo d 3 2:=by have:=bd 2 oa;have:=bd 0 oa;have:=bd 1 oa;have:=bd 2 oa;rw[wI];show _=d 2-bj d 3;rw[hz];omega
 have s3:=aa (show 0=bo d 3 3 from hz.symm)
 rw[Int.sub_zero]at s0
 rw[Int.sub_zero]at s1
 rw[Int.sub_zero]at s2
 clear bd hz
 go_enter Tryz.func89,Tryz.ntmps89
 go_upto_region 1 with(fail)
 simp only[dp]
 have v:af ((w.alloc (.cells (ah d) 25)).alloc (.cells (aj fun _=>0) 22)) w.heap.size (ah d) 25:=(af.new _ _ _).alloc _
 have r:af ((w.alloc (.cells (ah d) 25)).alloc (.cells (aj fun _=>0) 22)) (w.heap.size+1) (aj fun _=>0) 22:=af.new' sd
 have hB:Below w.heap.size w ((w.alloc (.cells (ah d) 25)).alloc (.cells (aj fun _=>0) 22)):=by go_grown
 generalize((w.alloc (.cells (ah d) 25)).alloc (.cells (aj fun _=>0) 22))=w0 at *
 have hc0:∀w1,af w1 w.heap.size (ah d) 25->w1.cell? ⟨w.heap.size,0,none⟩=some (.int .i64 (d 0)):=fun w1 hv=>hv.cellIs (az d oa)
 replace hc0:=aa hc0
 have hc1:∀w1,af w1 w.heap.size (ah d) 25->w1.cell? ⟨w.heap.size,1,none⟩=some (.int .i64 (d 1)):=fun w1 hv=>hv.cellIs (az d oa)
 replace hc1:=aa hc1
 have hc2:∀w1,af w1 w.heap.size (ah d) 25->w1.cell? ⟨w.heap.size,2,none⟩=some (.int .i64 (d 2)):=fun w1 hv=>hv.cellIs (az d oa)
 replace hc2:=aa hc2
 go_upto_region 3 with(first
  |(refine ac ?hw _ _ rfl _ rfl _ _ _ _ v yc rfl ?hi ?_;(case hw=>exact rW);(case hi=>exact rI))
  |(go_at_call 32;with_reducible refine(VA.out _).mono ?_;rintro e w1 ⟨rfl,hb⟩;replace hB:=hB.trans (hb.mono hB.size);replace v:=v.below hb v.lt;replace r:=r.below hb r.lt;clear hb)
  |(go_at_call 71;with_reducible refine(IS.out _).mono ?_;rintro e w2 ⟨rfl,hb⟩;replace hB:=hB.trans (hb.mono hB.size);replace v:=v.below hb v.lt;replace r:=r.below hb r.lt;clear hb))
 have q0:=hc0.out _ v
 have q1:=hc1.out _ v
 have q2:=hc2.out _ v
 go_upto_region 11 with(fail)
 clear q0 q1 q2 hc0 hc1 hc2 VA IS
 have lt_v:=v.lt
 have lt_r:=r.lt
 have hW0:w.heap.size<=w2.heap.size:=by simpa using hB.size
 apply ay 16 [0,1,3,7,15,31,63,127,255,511,1023,2047,4095,8191,16383,32767] [] [_,_,_,_,_,_,_,_,_,_,_,_,_,_,(fun _=>undef),_] (fun p L w'=>w2.heap.size<=w'.heap.size/\Below w.heap.size w w'/\af w' w.heap.size (ah d) 25/\af w' (w.heap.size+1) (bif L 14 then(aj (bo d 3))else(aj fun _=>0)) 22) _ [(0,42),(1,43),(2,44),(3,45),(4,46),(5,47),(6,48),(7,49),(8,50),(9,51),(10,52),(11,53),(12,54),(13,55),(15,5)] [0,1,2,3,4,5,6,7,8,9,10,11,12,13,14,15]
 case hn|hB|hds|hA=>exact rA
 case h0=>exact rH
 case hmore=>exact rM
 case hs=>
  intro more
  refine aH ?_
  refine cm ?_ ?_
  ·rintro p L w1 ⟨hsz,hB,v,r⟩ hk
   have hc:w1.cell? ⟨w.heap.size,0,none⟩=some (.int .i64 (d 0)):=v.cellIs (az _ oa)
   go_simp
   exact⟨rfl,rfl⟩
  refine aH ?_
  refine aH ?_
  refine aH ?_
  refine cm ?_ ?_
  ·rintro p L w1 ⟨hsz,hB,v,r⟩ hk
   have hc:w1.cell? ⟨w.heap.size,1,none⟩=some (.int .i64 (d 1)):=v.cellIs (az _ oa)
   go_simp
   exact⟨rfl,rfl⟩
  refine aH ?_
  refine aH ?_
  refine aH ?_
  refine cm ?_ ?_
  ·rintro p L w1 ⟨hsz,hB,v,r⟩ hk
   have hc:w1.cell? ⟨w.heap.size,2,none⟩=some (.int .i64 (d 2)):=v.cellIs (az _ oa)
   go_simp
   exact⟨rfl,rfl⟩
  refine aH ?_
  refine aH ?_
  refine aH ?_
  refine aw.cons ?_ ?_
  ·refine eK 13 rfl (fun p=>rfl) ?_ (fun _ _ _ h=>h)
   intros;go_simp;exact⟨congrArg Value.agg (jQ s3),rfl⟩
  refine aw.cons ?_ ?_
  ·refine aA 14 rfl (fun p=>rfl) (fun p=>rfl) _ _ _ rfl (fun _=>(w.heap.size+1)) 0 (fun p=>rfl) (fun p=>(aj (bo d 3))) (fun p=>rfl) (fun p=>(aj fun _=>0)) (fun p=>(aj (bo d 3))) 22 (fun p=>dK _ _) (fun p=>by first|(rw[ak,ak];decide)|simp[ak,ak]) (fun p=>by rw[ak];kernel_rfl) (fun p=>bF _) ?_ ?_
   ·rintro p L w1 ⟨hsz,hB,v,r⟩ hk
    exact cg r hk.1
   ·rintro p L w1 ⟨hsz,hB,v,r⟩ hk
    refine⟨(by simpa using hsz),Below.setRow hB (by first|exact nk hW0 hp.1|exact ge_r|omega|(have:=hB.size;simp at this|-;omega)) _,v.rowOther (by first|exact ne_v_r|exact Ne.symm ne_r_v|omega) _,?_⟩
    rw[show cD L 14 14=true from rfl]
    exact r.row _
  refine aH ?_
  exact aw.nil
 case hV0=>exact fun p q=>aw.nil
 case he=>
 clear hB v r
 rintro p w2r ⟨hsz,hB,v,r⟩
 replace r:af w2r (w.heap.size+1) (aj (bo d 3)) 22:=r
 clear lt_v lt_r hsz hW0
 go_wp2_with (fail)
 refine bodyPost_ret (aq rfl _ _ _ _ _ _ _ rfl r ya rfl rI) rfl ?_
 refine⟨?_,hB⟩
 rfl
def Kr (d:Nat->Int) (f:Int):Int:=if cx d&&kN f then 0 else 2
def zx (d:Nat->Int) (f:Int):Nat->Int:=if cx d&&kN f then bo d f else fun _=>0
theorem Bd (d:Nat->Int) (f:Int) (w:World):Calls Tryz.prog 89 #[.agg (ah d),.int .i64 f] w fun e w'=>e=.returned (.tuple #[.agg (aj (zx d f)),.int .i64 (Kr d f)])/\Below w.heap.size w w':=by
 unfold zx Kr
 cases hv:cx d with
 |false=>exact Dn d f w hv
 | true=>
   cases hf:kN f with
   |false=>exact CX d f w hv hf
   | true=>
     have h1:=hf
     simp only[kN,Bool.and_eq_true,decide_eq_true_eq]at h1
     rcases(show f=-1\/f=0\/f=1\/f=2\/f=3 by omega)with rfl|rfl|rfl|rfl|rfl
     ·exact Ir d w hv
     ·exact Id d w hv
     ·exact Hr d w hv
     ·exact Iw d w hv
     ·exact I5 d w hv
end Go.Proofs.YtbhahonkhiiilaaGreat
