/-
  Bodies: New.
-/
import Derived.Test.YtbhahonkhiiilaaGreatWhD
set_option linter.unusedSimpArgs false
set_option linter.unusedVariables false
set_option maxRecDepth 100000
set_option maxHeartbeats 2000000
namespace Go.Proofs.YtbhahonkhiiilaaGreat
open Go.RowKit PM Dt
theorem yp (f:Nat->Int) {k:Nat} (h:k<3) (w:World):(Instr.index 25 (.agg (ah f)) (.int .i64 k)).run Tryz.prog w=.ok (.int .i64 (f k)) w:=by
 obtain⟨i,hi⟩:∃i,Tryz.prog.info? 2=some i:=Option.isSome_iff_exists.1 ke
 exact f_ (P:=Tryz.prog) (n:=3) yc Tryz.underlying2 rfl hi ke h (az f h) w
theorem fa (f:Nat->Int) (w:World):Calls Tryz.prog 34 #[.agg (ah f)] w fun e w'=>e=.returned (.bool (fG f))/\Below w.heap.size w w':=by
 go_enter Tryz.func34,Tryz.ntmps34
 go_upto_region 1 with(fail)
 have v:af (w.alloc (.cells (ah f) 25)) w.heap.size (ah f) 25:=af.new _ _ _
 have hB:Below w.heap.size w (w.alloc (.cells (ah f) 25)):=by go_grown
 generalize(w.alloc (.cells (ah f) 25))=w0 at *
 go_wp2_with ((refine ac ?hw _ _ rfl _ rfl _ _ _ _ v yc rfl ?hi ?_;(case hw=>exact rW);(case hi=>exact rI)))
 go_loopg [6] 3 (fun g iv wr=>∃k:Nat,g+k=3/\iv=.int .i64 k/\Hid (∀j,j<k->sb 1048576 (f j)=true)/\af wr w.heap.size (ah f) 25/\Below w.heap.size w wr)
 case atStart=>exact⟨0,rfl,rfl,fun j hj=>by omega,v,hB⟩
 case round=>
  clear hB v
  obtain⟨k,hk,rfl,hall,v,hB⟩:=hrel
  by_cases hkn:k<3
  ·have hdk:decide ((k:Int)<3)=true:=dT oa
   have hdk':decide (k<3)=true:=dT oa
   have hw3:IntKind.i64.wrap ((k:Int)+1)=((k+1:Nat):Int):=by rw[wI];omega
   have hix:Hid (∀w,(Instr.index 25 (.agg (ah f)) (.int .i64 k)).run Tryz.prog w=.ok (.int .i64 (f k)) w):=fun w=>yp f hkn w
   by_cases h1:-1048576<=f k
   ·have d1:decide (f k< -1048576)=false:=dF oa
    by_cases h2:f k<=1048576
    ·have d2:decide (1048576<f k)=false:=dF oa
     have HV:=aa ((cR _ _).2 ⟨h1,h2⟩)
     clear h1 h2
     go_wp2_with ((refine aZ ?hw _ _ _ rfl _ rfl k _ rfl rfl _ hix.out ?_;(case hw=>exact rW)))
     go_roundg (3-(k+1))
     case rel=>
      refine⟨k+1,oa,rfl,fun j hj=>?_,v,hB⟩
      by_cases e:j=k
      ·subst e;exact HV.out
      ·exact hall.out j oa
     case measure=>omega
    ·have d2:decide (1048576<f k)=true:=dT oa
     have HV:=aa (show fG f=false from by unfold fG;rw[im hkn oa];rfl)
     clear h1 h2
     go_wp2_with ((refine aZ ?hw _ _ _ rfl _ rfl k _ rfl rfl _ hix.out ?_;(case hw=>exact rW)))
     go_ret
     exact⟨by rw[HV.out];rfl,hB⟩
   ·have d1:decide (f k< -1048576)=true:=dT oa
    have HV:=aa (show fG f=false from by unfold fG;rw[im hkn oa];rfl)
    clear h1
    go_wp2_with ((refine aZ ?hw _ _ _ rfl _ rfl k _ rfl rfl _ hix.out ?_;(case hw=>exact rW)))
    go_ret
    exact⟨by rw[HV.out];rfl,hB⟩
  ·obtain rfl:k=3:=oa
   have hsm:=(bp f 1048576).2 hall.out
   have b0:=(cR _ _).1 (hall.out 0 oa)
   have b1:=(cR _ _).1 (hall.out 1 oa)
   have b2:=(cR _ _).1 (hall.out 2 oa)
   have q0:=(bR (P:=1048576) (R:=1048576) b0.1 b0.2 b0.1 b0.2)
   have q1:=(bR (P:=1048576) (R:=1048576) b1.1 b1.2 b1.1 b1.2)
   have q2:=(bR (P:=1048576) (R:=1048576) b2.1 b2.2 b2.1 b2.2)
   have e0:IntKind.i64.wrap (f 0*f 0)=f 0*f 0:=by rw[wI];omega
   have e1:IntKind.i64.wrap (f 1*f 1)=f 1*f 1:=by rw[wI];omega
   have e2:IntKind.i64.wrap (f 2*f 2)=f 2*f 2:=by rw[wI];omega
   have e3:IntKind.i64.wrap (f 0*f 0+f 1*f 1)=f 0*f 0+f 1*f 1:=by rw[wI];omega
   have e4:IntKind.i64.wrap (f 0*f 0+f 1*f 1+f 2*f 2)=KO f:=by rw[wI];unfold KO;omega
   have HV:=aa (show fG f=decide (KO f<=1099511627776)from by unfold fG;rw[hsm,Bool.true_and])
   have c0:wr.cell? ⟨w.heap.size,0,none⟩=some (.int .i64 (f 0)):=v.cellIs (az _ oa)
   have c1:wr.cell? ⟨w.heap.size,1,none⟩=some (.int .i64 (f 1)):=v.cellIs (az _ oa)
   have c2:wr.cell? ⟨w.heap.size,2,none⟩=some (.int .i64 (f 2)):=v.cellIs (az _ oa)
   clear hsm b0 b1 b2 q0 q1 q2 hall
   go_wp2_with (fail)
   go_ret
   exact⟨by rw[HV.out];rfl,hB⟩
theorem gt (Q T:Nat->Int) (s b:Nat) (w:World) (hg:af w b (iZ (Q,T,s)) 74):Calls Tryz.prog 27 #[.pointer (some ⟨b,0,none⟩)] w fun e w'=>e=.returned (.bool false)/\w=w':=by
 have hc:w.cell? ⟨b,7,none⟩=some (.pointer (some ⟨s,0,none⟩)):=hg.cellIs rfl
 clear hg
 go_enter Tryz.func27,Tryz.ntmps27
 go_wp2_with (fail)
 go_ret
 exact⟨rfl,rfl⟩
set_option maxHeartbeats 2000000 in
theorem Br (Q T h:Nat->Int) (f:Int) (w:World) (hQ:∀i,i<4->bu (Q i)) (hn:gj h f=false) (hv:au Q=false):Calls Tryz.prog 11 #[.agg (aj Q),.agg (ah T),.agg (aj h),.int .i64 f] w fun e w'=>e=.returned (.tuple #[.pointer none,.int .i64 2])/\Below w.heap.size w w':=by
 have VA:=Lib.hid (fun w=>cU Q w hQ)
 clear hQ
 rw[hv]at VA
 have AL:=Lib.hid (fun w=>fa T w)
 have WN:=Lib.hid (fun w=>sJ h f w hn)
 go_enter Tryz.func11,Tryz.ntmps11
 go_upto_region 1 with(fail)
 have q:af (((w.alloc (.cells (aj Q) 23)).alloc (.cells (ah T) 25)).alloc (.cells (aj h) 22)) w.heap.size (aj Q) 23:=((af.new _ _ _).alloc _).alloc _
 have t:af (((w.alloc (.cells (aj Q) 23)).alloc (.cells (ah T) 25)).alloc (.cells (aj h) 22)) (w.heap.size+1) (ah T) 25:=(af.new' (by simp)).alloc _
 have u:af (((w.alloc (.cells (aj Q) 23)).alloc (.cells (ah T) 25)).alloc (.cells (aj h) 22)) (w.heap.size+2) (aj h) 22:=af.new' (by simp)
 have hB:Below w.heap.size w (((w.alloc (.cells (aj Q) 23)).alloc (.cells (ah T) 25)).alloc (.cells (aj h) 22)):=by go_grown
 generalize(((w.alloc (.cells (aj Q) 23)).alloc (.cells (ah T) 25)).alloc (.cells (aj h) 22))=w0 at *
 go_wp2_with (first
  |(refine ac ?hw _ _ rfl _ rfl _ _ _ _ q Tryz.underlying23 rfl ?hi ?_;(case hw=>(first|rfl|(simp[Region.wanted,yielded];done)));(case hi=>(first|kernel_rfl|(rw[ak];kernel_rfl))))
  |(refine ac ?hw _ _ rfl _ rfl _ _ _ _ t Tryz.underlying25 rfl ?hi ?_;(case hw=>(first|rfl|(simp[Region.wanted,yielded];done)));(case hi=>(first|kernel_rfl|(rw[ad];kernel_rfl))))
  |(refine ac ?hw _ _ rfl _ rfl _ _ _ _ u Tryz.underlying22 rfl ?hi ?_;(case hw=>(first|rfl|(simp[Region.wanted,yielded];done)));(case hi=>(first|kernel_rfl|(rw[ak];kernel_rfl))))
  |(go_at_call 33;with_reducible refine(WN.out _).mono ?_;rintro e w1 ⟨rfl,hb⟩;replace hB:=hB.trans (hb.mono hB.size);replace q:=q.below hb q.lt;replace t:=t.below hb t.lt;replace u:=u.below hb u.lt;clear hb)
  |(go_at_call 5;with_reducible refine(VA.out _).mono ?_;rintro e w2 ⟨rfl,hb⟩;replace hB:=hB.trans (hb.mono hB.size);replace q:=q.below hb q.lt;replace t:=t.below hb t.lt;replace u:=u.below hb u.lt;clear hb)
  |(go_at_call 34;with_reducible refine(AL.out _).mono ?_;rintro e w3 ⟨rfl,hb⟩;replace hB:=hB.trans (hb.mono hB.size);replace q:=q.below hb q.lt;replace t:=t.below hb t.lt;replace u:=u.below hb u.lt;clear hb))
 go_ret2
 exact⟨rfl,hB⟩
theorem Dq (Q T h:Nat->Int) (f:Int) (w:World) (hQ:∀i,i<4->bu (Q i)) (hn:gj h f=false) (hv:au Q=true) (ha:fG T=false):Calls Tryz.prog 11 #[.agg (aj Q),.agg (ah T),.agg (aj h),.int .i64 f] w fun e w'=>e=.returned (.tuple #[.pointer none,.int .i64 2])/\Below w.heap.size w w':=by
 have VA:=aa (fun w=>cU Q w hQ)
 clear hQ
 rw[hv]at VA
 have AL:=aa (fun w=>fa T w)
 rw[ha]at AL
 have WN:=aa (fun w=>sJ h f w hn)
 go_enter Tryz.func11,Tryz.ntmps11
 go_upto_region 1 with(fail)
 have q:af (((w.alloc (.cells (aj Q) 23)).alloc (.cells (ah T) 25)).alloc (.cells (aj h) 22)) w.heap.size (aj Q) 23:=((af.new _ _ _).alloc _).alloc _
 have t:af (((w.alloc (.cells (aj Q) 23)).alloc (.cells (ah T) 25)).alloc (.cells (aj h) 22)) (w.heap.size+1) (ah T) 25:=(af.new' sd).alloc _
 have u:af (((w.alloc (.cells (aj Q) 23)).alloc (.cells (ah T) 25)).alloc (.cells (aj h) 22)) (w.heap.size+2) (aj h) 22:=af.new' sd
 have hB:Below w.heap.size w (((w.alloc (.cells (aj Q) 23)).alloc (.cells (ah T) 25)).alloc (.cells (aj h) 22)):=by go_grown
 generalize(((w.alloc (.cells (aj Q) 23)).alloc (.cells (ah T) 25)).alloc (.cells (aj h) 22))=w0 at *
 go_wp2_with (first
  |(refine ac ?hw _ _ rfl _ rfl _ _ _ _ q yb rfl ?hi ?_;(case hw=>exact rW);(case hi=>exact rI))
  |(refine ac ?hw _ _ rfl _ rfl _ _ _ _ t yc rfl ?hi ?_;(case hw=>exact rW);(case hi=>exact rI))
  |(refine ac ?hw _ _ rfl _ rfl _ _ _ _ u ya rfl ?hi ?_;(case hw=>exact rW);(case hi=>exact rI))
  |(go_at_call 33;with_reducible refine(WN.out _).mono ?_;rintro e w1 ⟨rfl,hb⟩;replace hB:=hB.trans (hb.mono hB.size);replace q:=q.below hb q.lt;replace t:=t.below hb t.lt;replace u:=u.below hb u.lt;clear hb)
  |(go_at_call 5;with_reducible refine(VA.out _).mono ?_;rintro e w2 ⟨rfl,hb⟩;replace hB:=hB.trans (hb.mono hB.size);replace q:=q.below hb q.lt;replace t:=t.below hb t.lt;replace u:=u.below hb u.lt;clear hb)
  |(go_at_call 34;with_reducible refine(AL.out _).mono ?_;rintro e w3 ⟨rfl,hb⟩;replace hB:=hB.trans (hb.mono hB.size);replace q:=q.below hb q.lt;replace t:=t.below hb t.lt;replace u:=u.below hb u.lt;clear hb))
 go_ret2
 exact⟨rfl,hB⟩
theorem CU (Q T h:Nat->Int) (f:Int) (w:World) (hQ:∀i,i<4->bu (Q i)) (hn:gj h f=false) (hv:au Q=true) (ha:fG T=true):Calls Tryz.prog 11 #[.agg (aj Q),.agg (ah T),.agg (aj h),.int .i64 f] w fun e w'=>e=.returned (.tuple #[.pointer none,.int .i64 2])/\Below w.heap.size w w':=by
 have VA:=aa (fun w=>cU Q w hQ)
 clear hQ
 rw[hv]at VA
 have AL:=aa (fun w=>fa T w)
 rw[ha]at AL
 have WN:=aa (fun w=>sJ h f w hn)
 go_enter Tryz.func11,Tryz.ntmps11
 go_upto_region 1 with(fail)
 have q:af (((w.alloc (.cells (aj Q) 23)).alloc (.cells (ah T) 25)).alloc (.cells (aj h) 22)) w.heap.size (aj Q) 23:=((af.new _ _ _).alloc _).alloc _
 have t:af (((w.alloc (.cells (aj Q) 23)).alloc (.cells (ah T) 25)).alloc (.cells (aj h) 22)) (w.heap.size+1) (ah T) 25:=(af.new' sd).alloc _
 have u:af (((w.alloc (.cells (aj Q) 23)).alloc (.cells (ah T) 25)).alloc (.cells (aj h) 22)) (w.heap.size+2) (aj h) 22:=af.new' sd
 have hB:Below w.heap.size w (((w.alloc (.cells (aj Q) 23)).alloc (.cells (ah T) 25)).alloc (.cells (aj h) 22)):=by go_grown
 generalize(((w.alloc (.cells (aj Q) 23)).alloc (.cells (ah T) 25)).alloc (.cells (aj h) 22))=w0 at *
 go_wp2_with (first
  |(refine ac ?hw _ _ rfl _ rfl _ _ _ _ q yb rfl ?hi ?_;(case hw=>exact rW);(case hi=>exact rI))
  |(refine ac ?hw _ _ rfl _ rfl _ _ _ _ t yc rfl ?hi ?_;(case hw=>exact rW);(case hi=>exact rI))
  |(refine ac ?hw _ _ rfl _ rfl _ _ _ _ u ya rfl ?hi ?_;(case hw=>exact rW);(case hi=>exact rI))
  |(go_at_call 33;with_reducible refine(WN.out _).mono ?_;rintro e w1 ⟨rfl,hb⟩;replace hB:=hB.trans (hb.mono hB.size);replace q:=q.below hb q.lt;replace t:=t.below hb t.lt;replace u:=u.below hb u.lt;clear hb)
  |(go_at_call 5;with_reducible refine(VA.out _).mono ?_;rintro e w2 ⟨rfl,hb⟩;replace hB:=hB.trans (hb.mono hB.size);replace q:=q.below hb q.lt;replace t:=t.below hb t.lt;replace u:=u.below hb u.lt;clear hb)
  |(go_at_call 34;with_reducible refine(AL.out _).mono ?_;rintro e w3 ⟨rfl,hb⟩;replace hB:=hB.trans (hb.mono hB.size);replace q:=q.below hb q.lt;replace t:=t.below hb t.lt;replace u:=u.below hb u.lt;clear hb))
 go_ret2
 exact⟨rfl,hB⟩
set_option maxHeartbeats 2000000 in
theorem By (Q T h:Nat->Int) (f:Int) (w:World) (hQ:∀i,i<4->bu (Q i)) (hn:gj h f=true) (hv:au Q=false):Calls Tryz.prog 11 #[.agg (aj Q),.agg (ah T),.agg (aj h),.int .i64 f] w fun e w'=>e=.returned (.tuple #[.pointer none,.int .i64 2])/\Below w.heap.size w w':=by
 have VA:=Lib.hid (fun w=>cU Q w hQ)
 clear hQ
 rw[hv]at VA
 have AL:=Lib.hid (fun w=>fa T w)
 have WN:=Lib.hid (fun w=>ot h f w hn)
 go_enter Tryz.func11,Tryz.ntmps11
 go_upto_region 1 with(fail)
 have q:af (((w.alloc (.cells (aj Q) 23)).alloc (.cells (ah T) 25)).alloc (.cells (aj h) 22)) w.heap.size (aj Q) 23:=((af.new _ _ _).alloc _).alloc _
 have t:af (((w.alloc (.cells (aj Q) 23)).alloc (.cells (ah T) 25)).alloc (.cells (aj h) 22)) (w.heap.size+1) (ah T) 25:=(af.new' (by simp)).alloc _
 have u:af (((w.alloc (.cells (aj Q) 23)).alloc (.cells (ah T) 25)).alloc (.cells (aj h) 22)) (w.heap.size+2) (aj h) 22:=af.new' (by simp)
 have hB:Below w.heap.size w (((w.alloc (.cells (aj Q) 23)).alloc (.cells (ah T) 25)).alloc (.cells (aj h) 22)):=by go_grown
 generalize(((w.alloc (.cells (aj Q) 23)).alloc (.cells (ah T) 25)).alloc (.cells (aj h) 22))=w0 at *
 go_wp2_with (first
  |(refine ac ?hw _ _ rfl _ rfl _ _ _ _ q Tryz.underlying23 rfl ?hi ?_;(case hw=>(first|rfl|(simp[Region.wanted,yielded];done)));(case hi=>(first|kernel_rfl|(rw[ak];kernel_rfl))))
  |(refine ac ?hw _ _ rfl _ rfl _ _ _ _ t Tryz.underlying25 rfl ?hi ?_;(case hw=>(first|rfl|(simp[Region.wanted,yielded];done)));(case hi=>(first|kernel_rfl|(rw[ad];kernel_rfl))))
  |(refine ac ?hw _ _ rfl _ rfl _ _ _ _ u Tryz.underlying22 rfl ?hi ?_;(case hw=>(first|rfl|(simp[Region.wanted,yielded];done)));(case hi=>(first|kernel_rfl|(rw[ak];kernel_rfl))))
  |(go_at_call 5;with_reducible refine(VA.out _).mono ?_;rintro e w2 ⟨rfl,hb⟩;replace hB:=hB.trans (hb.mono hB.size);replace q:=q.below hb q.lt;replace t:=t.below hb t.lt;replace u:=u.below hb u.lt;clear hb)
  |(go_at_call 34;with_reducible refine(AL.out _).mono ?_;rintro e w3 ⟨rfl,hb⟩;replace hB:=hB.trans (hb.mono hB.size);replace q:=q.below hb q.lt;replace t:=t.below hb t.lt;replace u:=u.below hb u.lt;clear hb)
  |(go_at_call 33;with_reducible refine(WN.out _).mono ?_;rintro e w1 ⟨sb,rfl,g,hle,hb⟩;replace hB:=hB.trans (hb.mono hB.size);replace q:=q.below hb q.lt;replace t:=t.below hb t.lt;replace u:=u.below hb u.lt;clear hb))
 go_ret2
 exact⟨rfl,hB⟩
theorem B_ (Q T h:Nat->Int) (f:Int) (w:World) (hQ:∀i,i<4->bu (Q i)) (hn:gj h f=true) (hv:au Q=true) (ha:fG T=false):Calls Tryz.prog 11 #[.agg (aj Q),.agg (ah T),.agg (aj h),.int .i64 f] w fun e w'=>e=.returned (.tuple #[.pointer none,.int .i64 2])/\Below w.heap.size w w':=by
 have VA:=aa (fun w=>cU Q w hQ)
 clear hQ
 rw[hv]at VA
 have AL:=aa (fun w=>fa T w)
 rw[ha]at AL
 have WN:=aa (fun w=>ot h f w hn)
 go_enter Tryz.func11,Tryz.ntmps11
 go_upto_region 1 with(fail)
 have q:af (((w.alloc (.cells (aj Q) 23)).alloc (.cells (ah T) 25)).alloc (.cells (aj h) 22)) w.heap.size (aj Q) 23:=((af.new _ _ _).alloc _).alloc _
 have t:af (((w.alloc (.cells (aj Q) 23)).alloc (.cells (ah T) 25)).alloc (.cells (aj h) 22)) (w.heap.size+1) (ah T) 25:=(af.new' sd).alloc _
 have u:af (((w.alloc (.cells (aj Q) 23)).alloc (.cells (ah T) 25)).alloc (.cells (aj h) 22)) (w.heap.size+2) (aj h) 22:=af.new' sd
 have hB:Below w.heap.size w (((w.alloc (.cells (aj Q) 23)).alloc (.cells (ah T) 25)).alloc (.cells (aj h) 22)):=by go_grown
 generalize(((w.alloc (.cells (aj Q) 23)).alloc (.cells (ah T) 25)).alloc (.cells (aj h) 22))=w0 at *
 go_wp2_with (first
  |(refine ac ?hw _ _ rfl _ rfl _ _ _ _ q yb rfl ?hi ?_;(case hw=>exact rW);(case hi=>exact rI))
  |(refine ac ?hw _ _ rfl _ rfl _ _ _ _ t yc rfl ?hi ?_;(case hw=>exact rW);(case hi=>exact rI))
  |(refine ac ?hw _ _ rfl _ rfl _ _ _ _ u ya rfl ?hi ?_;(case hw=>exact rW);(case hi=>exact rI))
  |(go_at_call 5;with_reducible refine(VA.out _).mono ?_;rintro e w2 ⟨rfl,hb⟩;replace hB:=hB.trans (hb.mono hB.size);replace q:=q.below hb q.lt;replace t:=t.below hb t.lt;replace u:=u.below hb u.lt;clear hb)
  |(go_at_call 34;with_reducible refine(AL.out _).mono ?_;rintro e w3 ⟨rfl,hb⟩;replace hB:=hB.trans (hb.mono hB.size);replace q:=q.below hb q.lt;replace t:=t.below hb t.lt;replace u:=u.below hb u.lt;clear hb)
  |(go_at_call 33;with_reducible refine(WN.out _).mono ?_;rintro e w1 ⟨sb,rfl,g,hle,hb⟩;replace hB:=hB.trans (hb.mono hB.size);replace q:=q.below hb q.lt;replace t:=t.below hb t.lt;replace u:=u.below hb u.lt;clear hb))
 go_ret2
 exact⟨rfl,hB⟩
theorem EG (Q T h:Nat->Int) (f:Int) (w:World) (hQ:∀i,i<4->bu (Q i)) (hn:gj h f=true) (hv:au Q=true) (ha:fG T=true):Calls Tryz.prog 11 #[.agg (aj Q),.agg (ah T),.agg (aj h),.int .i64 f] w fun e w'=>∃b,e=.returned (.tuple #[.pointer (some ⟨b,0,none⟩),.int .i64 0])/\gh w.heap.size b w' ⟨Q,T,h,f⟩/\Below w.heap.size w w':=by
 have VA:=aa (fun w=>cU Q w hQ)
 clear hQ
 rw[hv]at VA
 have AL:=aa (fun w=>fa T w)
 rw[ha]at AL
 have WN:=aa (fun w=>ot h f w hn)
 go_enter Tryz.func11,Tryz.ntmps11
 go_upto_region 1 with(fail)
 have q:af (((w.alloc (.cells (aj Q) 23)).alloc (.cells (ah T) 25)).alloc (.cells (aj h) 22)) w.heap.size (aj Q) 23:=((af.new _ _ _).alloc _).alloc _
 have t:af (((w.alloc (.cells (aj Q) 23)).alloc (.cells (ah T) 25)).alloc (.cells (aj h) 22)) (w.heap.size+1) (ah T) 25:=(af.new' sd).alloc _
 have u:af (((w.alloc (.cells (aj Q) 23)).alloc (.cells (ah T) 25)).alloc (.cells (aj h) 22)) (w.heap.size+2) (aj h) 22:=af.new' sd
 have hB:Below w.heap.size w (((w.alloc (.cells (aj Q) 23)).alloc (.cells (ah T) 25)).alloc (.cells (aj h) 22)):=by go_grown
 generalize(((w.alloc (.cells (aj Q) 23)).alloc (.cells (ah T) 25)).alloc (.cells (aj h) 22))=w0 at *
 have hl0:=hB.size
 go_upto_region 2 with(first
  |(refine ac ?hw _ _ rfl _ rfl _ _ _ _ q yb rfl ?hi ?_;(case hw=>exact rW);(case hi=>exact rI))
  |(refine ac ?hw _ _ rfl _ rfl _ _ _ _ t yc rfl ?hi ?_;(case hw=>exact rW);(case hi=>exact rI))
  |(refine ac ?hw _ _ rfl _ rfl _ _ _ _ u ya rfl ?hi ?_;(case hw=>exact rW);(case hi=>exact rI))
  |(go_at_call 33;with_reducible refine(WN.out _).mono ?_;rintro e w1 ⟨sb,rfl,g,hle,hb⟩;replace hB:=hB.trans (hb.mono hB.size);replace q:=q.below hb q.lt;replace t:=t.below hb t.lt;replace u:=u.below hb u.lt;clear hb;have hlo:=nk hB.size (ns _);replace hle:w.heap.size<=sb:=nk (nk hl0 (ns _)) hle))
 go_upto_region 4 with(first
  |(refine ac ?hw _ _ rfl _ rfl _ _ _ _ q yb rfl ?hi ?_;(case hw=>exact rW);(case hi=>exact rI))
  |(refine ac ?hw _ _ rfl _ rfl _ _ _ _ t yc rfl ?hi ?_;(case hw=>exact rW);(case hi=>exact rI))
  |(refine ac ?hw _ _ rfl _ rfl _ _ _ _ u ya rfl ?hi ?_;(case hw=>exact rW);(case hi=>exact rI))
  |(go_at_call 5;with_reducible refine(VA.out _).mono ?_;rintro e w2 ⟨rfl,hb⟩;replace hB:=hB.trans (hb.mono hB.size);replace q:=q.below hb q.lt;replace t:=t.below hb t.lt;replace u:=u.below hb u.lt;replace g:=g.below hb g.lt;clear hb)
  |(go_at_call 34;with_reducible refine(AL.out _).mono ?_;rintro e w3 ⟨rfl,hb⟩;replace hB:=hB.trans (hb.mono hB.size);replace q:=q.below hb q.lt;replace t:=t.below hb t.lt;replace u:=u.below hb u.lt;replace g:=g.below hb g.lt;clear hb))
 have gl:=g.lt
 unfold aj at q
 unfold ah at t
 go_wp2_with (first
  |(refine ac ?hw _ _ rfl _ rfl _ _ _ _ q yb rfl ?hi ?_;(case hw=>exact rW);(case hi=>exact rI))
  |(refine ac ?hw _ _ rfl _ rfl _ _ _ _ t yc rfl ?hi ?_;(case hw=>exact rW);(case hi=>exact rI)))
 rw[show#[Value.int .i64 (Q 0),.int .i64 (Q 1),.int .i64 (Q 2),.int .i64 (Q 3),.int .i64 (T 0),.int .i64 (T 1),.int .i64 (T 2),.pointer (some ⟨sb,0,none⟩)]=iZ (Q,T,sb)from rfl]
 go_ret2
 exact⟨w3.heap.size,rfl,⟨sb,hle,gl,af.new _ _ _,g.alloc _⟩,hB.alloc hB.size _⟩
def jT (X:cG):Bool:=gj X.h X.f&&(au X.Q&&fG X.T)
theorem Gd (X:cG) (w:World) (hQ:∀i,i<4->bu (X.Q i)) (h:jT X=false):Calls Tryz.prog 11 #[.agg (aj X.Q),.agg (ah X.T),.agg (aj X.h),.int .i64 X.f] w fun e w'=>e=.returned (.tuple #[.pointer none,.int .i64 2])/\Below w.heap.size w w':=by
 unfold jT at h
 cases hn:gj X.h X.f<;>cases hv:au X.Q<;>cases ha:fG X.T
 case true.true.true=>rw[hn,hv,ha]at h;cases h
 all_goals first|exact Br _ _ _ _ w hQ hn hv|exact By _ _ _ _ w hQ hn hv|exact Dq _ _ _ _ w hQ hn hv ha|exact B_ _ _ _ _ w hQ hn hv ha|exact CU _ _ _ _ w hQ hn hv ha
theorem CT (X:cG) (w:World) (hQ:∀i,i<4->bu (X.Q i)) (h:jT X=true):Calls Tryz.prog 11 #[.agg (aj X.Q),.agg (ah X.T),.agg (aj X.h),.int .i64 X.f] w fun e w'=>∃b,e=.returned (.tuple #[.pointer (some ⟨b,0,none⟩),.int .i64 0])/\gh w.heap.size b w' X/\Below w.heap.size w w':=by
 simp only[jT,Bool.and_eq_true]at h
 exact EG X.Q X.T X.h X.f w hQ h.1 h.2.1 h.2.2
structure n_ where
 rate:Nat->Int
 sp:Nat->Int
 f:Int
 sun:Nat->Int
 att:Nat->Int
structure dw where
 D:Nat->Int
 A:Nat->Int
 P:Nat->Int
 g:Bool
def dw.zero:dw:=⟨fun _=>0,fun _=>0,fun _=>0,false⟩
def jz (v:n_):Array Value:=#[.int .i64 (v.rate 0),.int .i64 (v.rate 1),.int .i64 (v.rate 2),.int .i64 (v.sp 0),.int .i64 (v.sp 1),.int .i64 (v.sp 2),.int .i64 (v.sp 3),.int .i64 v.f,.int .i64 (v.sun 0),.int .i64 (v.sun 1),.int .i64 (v.sun 2),.int .i64 (v.att 0),.int .i64 (v.att 1),.int .i64 (v.att 2),.int .i64 (v.att 3)]
def d9 (X:dw):Array Value:=#[.int .i64 (X.D 0),.int .i64 (X.D 1),.int .i64 (X.D 2),.int .i64 (X.A 0),.int .i64 (X.A 1),.int .i64 (X.A 2),.int .i64 (X.P 0),.int .i64 (X.P 1),.int .i64 (X.P 2),.int .i64 (X.P 3),.bool X.g,.bool true]
theorem DK (v:n_):(jz v).size=15:=rfl
theorem mi (X:dw):(d9 X).size=12:=rfl
theorem K8 (v:n_) (j:Nat) (hj:j<(ah v.rate).size):(jz v)[0+j]?=(ah v.rate)[j]?:=by
 rw[ad]at hj
 rw[az _ hj]
 exact c3 (P:=fun j=>(jz v)[0+j]?=some (.int .i64 (v.rate j))) hj rfl rfl rfl
theorem JE (v:n_) (j:Nat) (hj:j<(aj v.sp).size):(jz v)[3+j]?=(aj v.sp)[j]?:=by
 rw[ak]at hj
 rw[aD _ hj]
 exact c4 (P:=fun j=>(jz v)[3+j]?=some (.int .i64 (v.sp j))) hj rfl rfl rfl rfl
theorem Li (v:n_) (j:Nat) (hj:j<(ah v.sun).size):(jz v)[8+j]?=(ah v.sun)[j]?:=by
 rw[ad]at hj
 rw[az _ hj]
 exact c3 (P:=fun j=>(jz v)[8+j]?=some (.int .i64 (v.sun j))) hj rfl rfl rfl
theorem K7 (v:n_) (j:Nat) (hj:j<(aj v.att).size):(jz v)[11+j]?=(aj v.att)[j]?:=by
 rw[ak]at hj
 rw[aD _ hj]
 exact c4 (P:=fun j=>(jz v)[11+j]?=some (.int .i64 (v.att j))) hj rfl rfl rfl rfl
theorem Kd (v:n_) {k:Nat} (hk:k<3):(jz v)[k]?=some (.int .i64 (v.rate k)):=c3 (P:=fun j=>(jz v)[j]?=some (.int .i64 (v.rate j))) hk rfl rfl rfl
theorem KU (X:dw) (j:Nat) (hj:j<(ah X.D).size):(d9 X)[0+j]?=(ah X.D)[j]?:=by
 rw[ad]at hj
 rw[az _ hj]
 exact c3 (P:=fun j=>(d9 X)[0+j]?=some (.int .i64 (X.D j))) hj rfl rfl rfl
theorem JW (X:dw) (j:Nat) (hj:j<(aj X.P).size):(d9 X)[6+j]?=(aj X.P)[j]?:=by
 rw[ak]at hj
 rw[aD _ hj]
 exact c4 (P:=fun j=>(d9 X)[6+j]?=some (.int .i64 (X.P j))) hj rfl rfl rfl rfl
theorem JR (X:dw) {k:Nat} (hk:k<3):(d9 X)[k]?=some (.int .i64 (X.D k)):=c3 (P:=fun j=>(d9 X)[j]?=some (.int .i64 (X.D j))) hk rfl rfl rfl
theorem FB (D A P A':Nat->Int) (g:Bool):gc (d9 ⟨D,A,P,g⟩) 3 (ah A').toList=d9 ⟨D,A',P,g⟩:=by unfold ah;rfl
theorem Gb (D A P P':Nat->Int) (g:Bool):gc (d9 ⟨D,A,P,g⟩) 6 (aj P').toList=d9 ⟨D,A,P',g⟩:=by unfold aj;rfl
theorem Jq (D A P:Nat->Int) (g:Bool):(d9 ⟨D,A,P,g⟩).setIfInBounds 10 (.bool true)=d9 ⟨D,A,P,true⟩:=rfl
theorem Hq (A P:Nat->Int) (g:Bool) {new old:Nat->Int} {k:Nat} (hk:k<3) (v:Int) (hv:v=new k):(d9 ⟨cV new old k,A,P,g⟩).setIfInBounds k (.int .i64 v)=d9 ⟨cV new old (k+1),A,P,g⟩:=by
 subst hv
 unfold d9 cV
 rcases(show k=0\/k=1\/k=2 by omega)with rfl|rfl|rfl<;>simp
theorem FH (A P new old:Nat->Int) (g:Bool):d9 ⟨cV new old 3,A,P,g⟩=d9 ⟨new,A,P,g⟩:=by unfold d9 cV;simp
theorem JP {new old:Nat->Int} {k:Nat} (hk:k<3) (v:Int) (hv:v=new k):(ah (cV new old k)).setIfInBounds k (.int .i64 v)=ah (cV new old (k+1)):=by
 subst hv
 unfold ah cV
 rcases(show k=0\/k=1\/k=2 by omega)with rfl|rfl|rfl<;>simp
theorem HW (new old:Nat->Int):ah (cV new old 3)=ah new:=by unfold ah cV;simp
def pB (a b:Nat->Int):Bool:=(List.range 4).all fun j=>a j==b j
def ce (v:n_):Bool:=gj v.sp v.f&&(aE v.rate 268435456&&aE v.sun 2147483648)
def ee (X:dw) (v:n_):Bool:=X.g&&pB v.sp X.P
def pG (arr:Bool) (X:dw) (To:Nat->Int):Nat->Int:=fun i=>if arr then X.D i+aI (To i-X.D i) (-262144) 262144 else X.D i
def jv (v:n_) (D:Nat->Int):Nat->Int:=fun i=>cZ v.sp i+(v.rate i/4-D i)
def oA (v:n_) (D:Nat->Int):Nat->Int:=zx (jv v D) v.f
def mo (X:dw) (v:n_) (A To:Nat->Int):dw:=⟨pG (ee X v) X To,A,oA v (pG (ee X v) X To),true⟩
def ky (X:dw) (v:n_) (To:Nat->Int):Nat->Int:=dU v.sp v.f (oA v (pG (ee X v) X To))
theorem rX (x:Int):-262144<=aI x (-262144) 262144/\aI x (-262144) 262144<=262144:=by
 unfold aI;split<;>(try split)<;>omega
theorem zc (f g:Nat->Int) (w:World):
 (Op.equalIn 10000 22 (.agg (aj f)) (.agg (aj g))).run Tryz.prog w=.ok ((List.range 4).all fun j=>f j==g j) w:=by
 obtain⟨i,hi⟩:∃i,Tryz.prog.info? 2=some i:=Option.isSome_iff_exists.1 ke
 have hc:Tryz.prog.cellsOf 2=1:=ke
 exact fg (P:=Tryz.prog) ya hi hc Tryz.underlying2 f g (aj f) (aj g) (fun j hj=>aD _ hj) (fun j hj=>aD _ hj) 9998 w
theorem nO (f:Nat->Int) (m:Int) (w:World) (h0:0<=m) (hm:m<=4398046511104):Calls Tryz.prog 88 #[.agg (ah f),.int .i64 m] w fun e w'=>e=.returned (.bool (aE f m))/\Below w.heap.size w w':=by
 have hwm:wrap64 (-m)=-m:=by unfold wrap64;omega
 clear h0 hm
 go_enter Tryz.func88,Tryz.ntmps88
 have p0:=af.new w (ah f) 25
 go_wp2_with ((refine ac ?hw _ _ rfl _ rfl _ _ _ _ p0 yc rfl ?hi ?_;(case hw=>exact rW);(case hi=>exact rI)))
 have hB0:Below w.heap.size w (w.alloc (.cells (ah f) 25)):=by go_grown
 clear p0
 generalize w.alloc (.cells (ah f) 25)=w0 at *
 go_loopg [8] 3 (fun g iv wr=>∃k:Nat,g+k=3/\iv=.int .i64 k/\Hid (∀j,j<k->sb m (f j)=true)/\Below w.heap.size w wr)
 case atStart=>exact⟨0,rfl,rfl,fun j hj=>by omega,hB0⟩
 case round=>
  clear hB0
  obtain⟨k,hk,rfl,hall,hB⟩:=hrel
  by_cases hkn:k<3
  ·have hdk:decide ((k:Int)<3)=true:=dT oa
   have hdk':decide (k<3)=true:=dT oa
   have hw3:IntKind.i64.wrap ((k:Int)+1)=((k+1:Nat):Int):=by rw[wI];omega
   have hix:Hid (∀w,(Instr.index 25 (.agg (ah f)) (.int .i64 k)).run Tryz.prog w=.ok (.int .i64 (f k)) w):=fun w=>yp f hkn w
   by_cases h1:-m<=f k
   ·have d1:decide (f k< -m)=false:=dF oa
    by_cases h2:f k<=m
    ·have d2:decide (m<f k)=false:=dF oa
     have HV:=aa ((cR _ _).2 ⟨h1,h2⟩)
     clear h1 h2
     go_wp2_with ((refine aZ ?hw _ _ _ rfl _ rfl k _ rfl rfl _ hix.out ?_;(case hw=>exact rW)))
     go_roundg (3-(k+1))
     case rel=>
      refine⟨k+1,oa,rfl,fun j hj=>?_,hB⟩
      by_cases e:j=k
      ·subst e;exact HV.out
      ·exact hall.out j oa
     case measure=>omega
    ·have d2:decide (m<f k)=true:=dT oa
     have HV:=aa (show aE f m=false from im hkn oa)
     clear h1 h2
     go_wp2_with ((refine aZ ?hw _ _ _ rfl _ rfl k _ rfl rfl _ hix.out ?_;(case hw=>exact rW)))
     go_ret
     exact⟨by rw[HV.out];rfl,hB⟩
   ·have d1:decide (f k< -m)=true:=dT oa
    have HV:=aa (show aE f m=false from im hkn oa)
    clear h1
    go_wp2_with ((refine aZ ?hw _ _ _ rfl _ rfl k _ rfl rfl _ hix.out ?_;(case hw=>exact rW)))
    go_ret
    exact⟨by rw[HV.out];rfl,hB⟩
  ·obtain rfl:k=3:=oa
   have HV:=aa ((bp f m).2 hall.out)
   go_wp2_with (fail)
   go_ret
   exact⟨by rw[HV.out];rfl,hB⟩
theorem vq (w:World):Calls Tryz.prog 14 #[] w fun e w'=>∃b,e=.returned (.pointer (some ⟨b,0,none⟩))/\af w' b (d9 dw.zero) 89/\w.heap.size<=b/\Below w.heap.size w w':=by
 have hB:Below w.heap.size w w:=Below.refl _ _
 go_enter Tryz.func14,Tryz.ntmps14
 go_wp2_with (fail)
 rw[show#[Value.int .i64 0,.int .i64 0,.int .i64 0,.int .i64 0,.int .i64 0,.int .i64 0,.int .i64 0,.int .i64 0,.int .i64 0,.int .i64 0,.bool false,.bool true]=d9 dw.zero from rfl]
 go_ret
 exact⟨w.heap.size,rfl,af.new _ _ _,ns _,hB.alloc hB.size _⟩
theorem zS (X:dw) (b:Nat) (w:World) (hg:af w b (d9 X) 89):Calls Tryz.prog 58 #[.pointer (some ⟨b,0,none⟩)] w fun e w'=>e=.returned (.bool false)/\w=w':=by
 have hc:w.cell? ⟨b,11,none⟩=some (.bool true):=hg.cellIs rfl
 clear hg
 go_enter Tryz.func58,Tryz.ntmps58
 go_wp2_with (fail)
 go_ret
 exact⟨rfl,rfl⟩
end Go.Proofs.YtbhahonkhiiilaaGreat
