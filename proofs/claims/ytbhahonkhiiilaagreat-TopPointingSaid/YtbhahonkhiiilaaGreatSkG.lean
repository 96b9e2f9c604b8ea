/-
  The matrix of sights.
-/
import Derived.Test.YtbhahonkhiiilaaGreatSkF
set_option linter.unusedSimpArgs false
set_option linter.unusedVariables false
set_option linter.unnecessarySimpa false
set_option maxRecDepth 100000
set_option maxHeartbeats 20000000
namespace Go.Proofs.YtbhahonkhiiilaaGreat
open Go.RowKit PM Dt
def fK (S:Nat->e_) (n:Nat):Nat->Int:=fun j=>bG (kP S (fun s=>dE s (j/4) (j % 4)) n) 1 (lI S n)
theorem sn (S:Nat->e_) (n i k:Nat) (hk:k<4):fK S n (i*4+k)=bG (kP S (fun s=>dE s i k) n) 1 (lI S n):=by
 unfold fK
 rw[show(i*4+k)/4=i by omega,show(i*4+k) % 4=k by omega]
def Il (S:Nat->e_) (n:Nat):Nat->Int:=if i5 S n then fK S n else fun _=>0
def zy (S:Nat->e_) (n:Nat):Int:=if i5 S n then 0 else 2
theorem v6 (y:e_) (i k bi bk:Nat) (w:World) (h:dX y=true) (hi:i<4) (hk:k<4) (pi:af w bi #[.int .i64 i] 3) (pk:af w bk #[.int .i64 k] 3):Calls Tryz.prog 79 #[.agg (cT y),.pointer (some ⟨bi,0,none⟩),.pointer (some ⟨bk,0,none⟩)] w fun e w'=>e=.returned (.int .i64 (dE y i k))/\Below w.heap.size w w':=by
 have EN:=aa (fun w=>CB y i k w h hi hk)
 clear h hi hk
 generalize dE y i k=E at *
 go_enter Tryz.func79,Tryz.ntmps79
 go_upto_region 1 with(fail)
 have s:af (w.alloc (.cells (cT y) 111)) w.heap.size (cT y) 111:=af.new _ _ _
 have hB:Below w.heap.size w (w.alloc (.cells (cT y) 111)):=by go_grown
 generalize(w.alloc (.cells (cT y) 111))=w0 at *
 replace pi:=pi.below hB pi.lt
 replace pk:=pk.below hB pk.lt
 have c1:w0.cell? ⟨bi,0,none⟩=some (.int .i64 i):=pi.cellIs rfl
 have c2:w0.cell? ⟨bk,0,none⟩=some (.int .i64 k):=pk.cellIs rfl
 go_wp2_with (first
  |(refine ac ?hw _ _ rfl _ rfl _ _ _ _ s yg rfl ?hi ?_;(case hw=>exact rW);(case hi=>(first|kernel_rfl|(rw[ct];kernel_rfl))))
  |(go_at_call 80;with_reducible refine(EN.out _).mono ?_;rintro e w1 ⟨rfl,hb⟩;replace hB:=hB.trans (hb.mono hB.size);replace s:=s.below hb s.lt;clear hb))
 go_ret
 exact⟨rfl,hB⟩
theorem AE (S:Nat->e_) (a:Option Addr) (n c i k b:Nat) (w:World) (el:iy w a n 7 (fun k=>(cT (S k)).toList)) (hv:i5 S n=true) (hi:i<4) (hk:k<4) (hb:af w b #[.slice a n c] 58):Calls Tryz.prog 77 #[.int .i64 i,.int .i64 k,.pointer (some ⟨b,0,none⟩)] w fun e w'=>e=.returned (.int .i64 (fK S n (i*4+k)))/\Below w.heap.size w w':=by
 obtain⟨h0,h1,h2⟩:=Bk.1 hv
 have hME:Hid (∀bi bk w',Below w.heap.size w w'->af w' bi #[.int .i64 i] 3->af w' bk #[.int .i64 k] 3->Calls Tryz.prog 78 #[.slice a n c,.func (.func 79) #[] #[.pointer (some ⟨bi,0,none⟩),.pointer (some ⟨bk,0,none⟩)]] w' fun e w''=>e=.returned (.int .i64 (fK S n (i*4+k)))/\Below w'.heap.size w' w''):=fun bi bk w' hb pi pk=>by
  rw[sn S n i k hk]
  refine zP S (fun s=>dE s i k) a n c _ _ w' (el.below hb) h1 h2 (fun j hj=>?_) (fun j hj w1 hb1=>?_) (fun ar w1=>rfl)
  ·have:=Fx (h2 j hj) hi hk
   show _<=dE (S j) i k/\dE (S j) i k<=_
   omega
  ·exact v6 (S j) i k bi bk w1 (h2 j hj) hi hk (pi.below hb1 pi.lt) (pk.below hb1 pk.lt)
 clear h0 h1 h2 hv hi hk el
 generalize fK S n (i*4+k)=M at *
 go_enter Tryz.func77,Tryz.ntmps77
 go_upto_region 1 with(fail)
 have pi:af ((w.alloc (.cells #[.int .i64 i] 3)).alloc (.cells #[.int .i64 k] 3)) w.heap.size #[.int .i64 i] 3:=(af.new _ _ _).alloc _
 have pk:af ((w.alloc (.cells #[.int .i64 i] 3)).alloc (.cells #[.int .i64 k] 3)) (w.heap.size+1) #[.int .i64 k] 3:=af.new' sd
 have hB:Below w.heap.size w ((w.alloc (.cells #[.int .i64 i] 3)).alloc (.cells #[.int .i64 k] 3)):=by go_grown
 generalize((w.alloc (.cells #[.int .i64 i] 3)).alloc (.cells #[.int .i64 k] 3))=w0 at *
 replace hb:=hb.below hB hb.lt
 have c0:w0.cell? ⟨b,0,none⟩=some (.slice a n c):=hb.cellIs rfl
 go_wp2_with (go_at_call 78;with_reducible refine(hME.out _ _ _ hB pi pk).mono ?_;rintro e w3 ⟨rfl,hc⟩;replace hB:=hB.trans (hc.mono hB.size);clear hc)
 go_ret
 exact⟨rfl,hB⟩
theorem uz (S:Nat->e_) (a:Option Addr) (n c:Nat) (w:World) (el:iy w a n 7 (fun k=>(cT (S k)).toList)) (hn:n<=1000):Calls Tryz.prog 44 #[.slice a n c] w fun e w'=>e=.returned (.tuple #[.agg (cW (Il S n)),.int .i64 (zy S n)])/\Below w.heap.size w w':=by
 have VA:=aa (fun w el=>pL S a n c w el hn)
 replace el:=aa el
 have hFI:Hid (i5 S n=true->∀b w',Below w.heap.size w w'->af w' b #[.slice a n c] 58->Calls Tryz.prog 45 #[.func (.func 77) #[] #[.pointer (some ⟨b,0,none⟩)]] w' fun e w''=>e=.returned (.agg (cW (fK S n)))/\Below w'.heap.size w' w''):=fun hv b w' hb pb=>by
  refine kq (fK S n) _ _ w' (fun i k hi hk w1 h1=>?_) (fun ar w1=>rfl)
  exact AE S a n c i k b w1 ((el.out.below hb).below (h1.mono (ns _))) hv hi hk (pb.below h1 pb.lt)
 unfold Il zy
 generalize fK S n=M at *
 obtain⟨b1,h1⟩:∃b,i5 S n=b:=⟨_,rfl⟩
 rw[h1]at VA hFI|-
 clear h1 hn
 go_enter Tryz.func44,Tryz.ntmps44
 go_upto_region 1 with(fail)
 simp only[kJ]
 have l:af ((w.alloc (.cells #[.slice a n c] 58)).alloc (.cells (cW fun _=>0) 98)) w.heap.size #[.slice a n c] 58:=(af.new _ _ _).alloc _
 have r:af ((w.alloc (.cells #[.slice a n c] 58)).alloc (.cells (cW fun _=>0) 98)) (w.heap.size+1) (cW fun _=>0) 98:=af.new' sd
 have hB:Below w.heap.size w ((w.alloc (.cells #[.slice a n c] 58)).alloc (.cells (cW fun _=>0) 98)):=by go_grown
 generalize((w.alloc (.cells #[.slice a n c] 58)).alloc (.cells (cW fun _=>0) 98))=w0 at *
 have c0:w0.cell? ⟨w.heap.size,0,none⟩=some (.slice a n c):=l.cellIs rfl
 cases b1
 ·skip
  go_wp2_with (first|(go_at_call 75;with_reducible refine(VA.out _ (el.out.below hB)).mono ?_;rintro e w1 ⟨rfl,hb⟩;replace hB:=hB.trans (hb.mono hB.size);replace l:=l.below hb l.lt;replace r:=r.below hb r.lt;clear hb)|(rw[kJ];refine ag rfl _ _ _ rfl _ rfl _ rfl _ _ r rI (by first|rfl|simp only[bZ]) (by first|exact jp _|rfl) ?_))
  refine bodyPost_ret (aq rfl _ _ _ _ _ _ _ rfl (r.row (cW fun _=>0)) Tryz.underlying98 rfl rI) rfl ?_
  refine⟨?_,Below.setRow hB oa _⟩
  rfl
 go_wp2_with (first|(go_at_call 75;with_reducible refine(VA.out _ (el.out.below hB)).mono ?_;rintro e w1 ⟨rfl,hb⟩;replace hB:=hB.trans (hb.mono hB.size);replace l:=l.below hb l.lt;replace r:=r.below hb r.lt;clear hb)|(go_at_call 45;with_reducible refine((hFI.out (by trivial)) _ _ hB l).mono ?_;rintro e w3 ⟨rfl,hb⟩;replace hB:=hB.trans (hb.mono hB.size);replace l:=l.below hb l.lt;replace r:=r.below hb r.lt;clear hb)|(refine ag rfl _ _ _ rfl _ rfl _ rfl _ _ r rI (by first|rfl|simp only[bZ]) (by first|exact jp _|rfl) ?_))
 refine bodyPost_ret (aq rfl _ _ _ _ _ _ _ rfl (r.row (cW M)) Tryz.underlying98 rfl rI) rfl ?_
 refine⟨?_,Below.setRow hB oa _⟩
 rfl
def r6 (S:Nat->e_) (i:Nat) (acc:Int):Nat->Int
 |0=>acc
 |k+1=>if k=i then r6 S i acc k else mx (r6 S i acc k) (gW (dM (S i).a (S k).a))
def oO (S:Nat->e_) (n:Nat):Nat->Int
 |0=>0
 |i+1=>r6 S i (oO S n i) n
def IM (S:Nat->e_) (n:Nat):Int:=if i5 S n then oO S n n else 0
set_option maxRecDepth 100000 in
theorem vx (S:Nat->e_) (a:Option Addr) (n c:Nat) (w:World) (el:iy w a n 7 (fun k=>(cT (S k)).toList)) (hn:n<=1000):Calls Tryz.prog 43 #[.slice a n c] w fun e w'=>e=.returned (.tuple #[.int .i64 (IM S n),.int .i64 (zy S n)])/\Below w.heap.size w w':=by
 have VA:=aa (fun w el=>pL S a n c w el hn)
 replace el:=aa el
 have hn2:(n:Int)<=1000:=oa
 unfold IM zy
 obtain⟨b1,h1⟩:∃b,i5 S n=b:=⟨_,rfl⟩
 rw[h1]at VA|-
 clear h1 hn
 cases b1
 ·skip
  have hB:Below w.heap.size w w:=Below.refl _ _
  go_enter Tryz.func43,Tryz.ntmps43
  go_wp2_with ((go_at_call 75;with_reducible refine(VA.out _ (el.out.below hB)).mono ?_;rintro e w1 ⟨rfl,hb⟩;replace hB:=hB.trans (hb.mono hB.size);clear hb))
  go_ret2
  exact⟨by first|rfl|simp,hB⟩
 have hB:Below w.heap.size w w:=Below.refl _ _
 go_enter Tryz.func43,Tryz.ntmps43
 go_wp2_with ((go_at_call 75;with_reducible refine(VA.out _ (el.out.below hB)).mono ?_;rintro e w1 ⟨rfl,hb⟩;replace hB:=hB.trans (hb.mono hB.size);clear hb))
 clear VA
 go_loopg [18,4] n (fun g_ iv j4 wr=>∃K:Nat,g_+K=n/\iv=.int .i64 K/\j4=.int .i64 (oO S n K)/\Below w.heap.size w wr)
 case atStart=>exact⟨0,oa,rfl,rfl,hB⟩
 case round=>
  clear hB
  obtain⟨K,hK,rfl,rfl,hB⟩:=hrel
  by_cases hKn:K<n
  ·have hdK:decide ((K:Int)<n)=true:=dT oa
   have hdK':decide (K<n)=true:=dT hKn
   have hk3:(K:Int)<n:=oa
   have hk0:(0:Int)<=K:=oa
   have hwK:IntKind.i64.wrap ((K:Int)+1)=((K+1:Nat):Int):=by rw[wI];omega
   obtain⟨eb,eo,rfl,hEl,hE⟩:=el.out K hKn
   replace hE:w.rangeAt eb (eo+K*7) ((cT (S K)).toList):=hE
   obtain⟨y,hy⟩:∃y,S K=y:=⟨_,rfl⟩
   rw[hy]at hE
   replace hy:=aa hy
   obtain⟨A0,hA0⟩:∃A0,oO S n K=A0:=⟨_,rfl⟩
   rw[hA0]
   replace hA0:=aa hA0
   go_upto_region 6 with(fail)
   have hW0:w.heap.size<=wr.heap.size:=by simpa using hB.size
   apply ay 6 [0,1,3,7,15,31] [3] [_,_,_,(fun p=>.pointer (some ⟨p 3,0,none⟩)),_,(fun _=>undef)] (fun p L w'=>wr.heap.size<=w'.heap.size/\Below w.heap.size w w'/\(L 3=true->wr.heap.size<=p 3/\af w' (p 3) (bif L 5 then(cT y)else(cT e_.zero)) 111)) _ [(0,20),(1,21),(2,22),(3,6),(4,5)] [0,1,2,3,4,5]
   case hn|hB|hds|hA=>exact rA
   case h0=>exact rH
   case hmore=>exact rM
   case hs=>
    intro more
    iterate 2 (refine aH ?_)
    refine cm ?_ ?_
    ·rintro p L w1 ⟨hsz,hB,h_s⟩ hk
     have hr:=fM hE hB hEl
     exact gm _ _ rfl _ _ rfl _ (eo+K*7) 0 hr (by first|rfl|omega) (cT y) (FQ y) _ yg rfl (by rw[ct];kernel_rfl) rfl
    refine aw.cons ?_ ?_
    ·refine aP 3 rfl (fun p=>rfl) rfl (cT e_.zero) 111 (fun p=>rfl) ?_ ?_
     ·intro p w1
      go_simp
      first|rfl|rw[l_]
     rintro p L w1 ⟨hsz,hB,h_s⟩ hk
     have L5:L 5=false:=hk.2.2 5 rfl
     refine⟨nk hsz sd,hB.alloc (nk hW0 hsz) _,fun _=>⟨hsz,?_⟩⟩
     rw[show cD L 3 5=false from L5]
     exact af.new _ _ _
    refine aH ?_
    refine aw.cons ?_ ?_
    ·refine aA 5 rfl (fun p=>rfl) (fun p=>rfl) _ _ _ rfl (fun p=>p 3) 0 (fun p=>rfl) (fun p=>(cT y)) (fun p=>rfl) (fun p=>(cT e_.zero)) (fun p=>(cT y)) 111 (fun p=>sZ _ _) (fun p=>by first|(rw[ct,ct];decide)|simp[ct,ct]) (fun p=>by rw[ct];kernel_rfl) (fun p=>lP _) ?_ ?_
     ·rintro p L w1 ⟨hsz,hB,h_s⟩ hk
      exact cg (h_s (hk.2.1 3 rfl)).2 hk.1
     ·rintro p L w1 ⟨hsz,hB,h_s⟩ hk
      have hp:=h_s (hk.2.1 3 rfl)
      refine⟨(by simpa using hsz),Below.setRow hB (nk hW0 hp.1) _,fun _=>⟨hp.1,?_⟩⟩
      rw[show cD L 5 5=true from rfl]
      exact hp.2.row _
    exact aw.nil
   case hV0=>exact rV
   case he=>
   clear hB
   rintro p wrr ⟨hsz,hB,h_s⟩
   obtain⟨le_s,s⟩:=h_s rfl
   clear h_s
   replace s:af wrr (p 3) (cT y) 111:=s
   have ge_s:w.heap.size<=p 3:=nk hW0 le_s
   generalize p 3=s_b at *
   clear hsz hW0 hE
   go_wp2_with (fail)
   go_loopg [25,4] n (fun g_ iv j4 wr=>∃M:Nat,g_+M=n/\iv=.int .i64 M/\j4=.int .i64 (r6 S K A0 M)/\af wr s_b (cT y) 111/\Below w.heap.size w wr)
   case atStart=>exact⟨0,oa,rfl,rfl,s,hB⟩
   case round=>
    clear s hB
    obtain⟨M,hM,rfl,rfl,s,hB⟩:=hrel
    by_cases hMn:M<n
    ·have hdM:decide ((M:Int)<n)=true:=dT oa
     have hdM':decide (M<n)=true:=dT hMn
     have hm3:(M:Int)<n:=oa
     have hm0:(0:Int)<=M:=oa
     have hwM:IntKind.i64.wrap ((M:Int)+1)=((M+1:Nat):Int):=by rw[wI];omega
     obtain⟨eb2,eo2,heq,hEl2,hE2⟩:=el.out M hMn
     obtain⟨rfl,rfl⟩:eb=eb2/\eo=eo2:=by simpa[Addr.mk.injEq]using heq
     clear heq
     replace hE2:w.rangeAt eb (eo+M*7) ((cT (S M)).toList):=hE2
     obtain⟨z,hz⟩:∃z,S M=z:=⟨_,rfl⟩
     rw[hz]at hE2
     have hst:r6 S K A0 (M+1)=if M=K then r6 S K A0 M else mx (r6 S K A0 M) (gW (dM (S K).a (S M).a)):=rfl
     rw[hz,hy.out]at hst
     obtain⟨A1,hA1⟩:∃A1,r6 S K A0 M=A1:=⟨_,rfl⟩
     rw[hA1]at hst|-
     replace hA1:=aa hA1
     replace hz:=aa hz
     have ne0:s_b≠0\/True:=.inr trivial
     go_upto_region 9 with(fail)
     have lt_s:=s.lt
     have hW0:w.heap.size<=wr.heap.size:=by simpa using hB.size
     apply ay 6 [0,1,3,7,15,31] [3] [_,_,_,(fun p=>.pointer (some ⟨p 3,0,none⟩)),_,(fun _=>undef)] (fun p L w'=>wr.heap.size<=w'.heap.size/\Below w.heap.size w w'/\af w' s_b (cT y) 111/\(L 3=true->wr.heap.size<=p 3/\af w' (p 3) (bif L 5 then(cT z)else(cT e_.zero)) 111)) _ [(0,27),(1,28),(2,29),(3,8),(4,7)] [0,1,2,3,4,5]
     case hn|hB|hds|hA=>exact rA
     case h0=>exact rH
     case hmore=>exact rM
     case hs=>
      intro more
      iterate 2 (refine aH ?_)
      refine cm ?_ ?_
      ·rintro p L w1 ⟨hsz,hB,s,h_u⟩ hk
       have hr:=fM hE2 hB hEl2
       exact gm _ _ rfl _ _ rfl _ (eo+M*7) 0 hr (by first|rfl|omega) (cT z) (FQ z) _ yg rfl (by rw[ct];kernel_rfl) rfl
      refine aw.cons ?_ ?_
      ·refine aP 3 rfl (fun p=>rfl) rfl (cT e_.zero) 111 (fun p=>rfl) ?_ ?_
       ·intro p w1
        go_simp
        first|rfl|rw[l_]
       rintro p L w1 ⟨hsz,hB,s,h_u⟩ hk
       have L5:L 5=false:=hk.2.2 5 rfl
       refine⟨nk hsz sd,hB.alloc (nk hW0 hsz) _,s.alloc _,fun _=>⟨hsz,?_⟩⟩
       rw[show cD L 3 5=false from L5]
       exact af.new _ _ _
      refine aH ?_
      refine aw.cons ?_ ?_
      ·refine aA 5 rfl (fun p=>rfl) (fun p=>rfl) _ _ _ rfl (fun p=>p 3) 0 (fun p=>rfl) (fun p=>(cT z)) (fun p=>rfl) (fun p=>(cT e_.zero)) (fun p=>(cT z)) 111 (fun p=>sZ _ _) (fun p=>by first|(rw[ct,ct];decide)|simp[ct,ct]) (fun p=>by rw[ct];kernel_rfl) (fun p=>lP _) ?_ ?_
       ·rintro p L w1 ⟨hsz,hB,s,h_u⟩ hk
        exact cg (h_u (hk.2.1 3 rfl)).2 hk.1
       ·rintro p L w1 ⟨hsz,hB,s,h_u⟩ hk
        have hp:=h_u (hk.2.1 3 rfl)
        refine⟨(by simpa using hsz),Below.setRow hB (nk hW0 hp.1) _,s.rowOther (nL lt_s hp.1) _,fun _=>⟨hp.1,?_⟩⟩
        rw[show cD L 5 5=true from rfl]
        exact hp.2.row _
      exact aw.nil
     case hV0=>exact rV
     case he=>
     clear hB s
     rintro p wrr ⟨hsz,hB,s,h_u⟩
     obtain⟨le_u,u⟩:=h_u rfl
     clear h_u
     replace u:af wrr (p 3) (cT z) 111:=u
     have ne_s_u:s_b≠p 3:=nN (nq lt_s le_u)
     have ge_u:w.heap.size<=p 3:=nk hW0 le_u
     generalize p 3=u_b at *
     clear lt_s hsz hW0 hE2
     by_cases hMK:M=K
     ·have hq:decide ((M:Int)=K)=true:=dT oa
      have hq2:((M:Int)==K)=true:=by simp[hMK]
      rw[if_pos hMK]at hst
      replace hst:=aa hst
      replace hMK:=aa hMK
      go_wp2_with (fail)
      go_roundg (n-(M+1))
      case rel=>exact⟨M+1,oa,rfl,by rw[hst.out],s,hB⟩
      case measure=>omega
     have hq:decide ((M:Int)=K)=false:=dF oa
     have hq2:((M:Int)==K)=false:=by simp;omega
     rw[if_neg hMK]at hst
     have CR:=aa (fun w=>lC y.a z.a w)
     have NO:=aa (fun w=>mH (dM y.a z.a) w)
     generalize dM y.a z.a=C at *
     generalize lL y.a z.a=CE at *
     generalize gW C=N at *
     generalize kW C=NE at *
     have hmx:Hid ([N].foldl mx A1=mx A1 N):=rfl
     rw[<-hst]at hmx
     replace hst:=aa hst
     replace hMK:=aa hMK
     go_upto_region 11 with(fail)
     have lt_s:=s.lt
     have lt_u:=u.lt
     have hW0:w.heap.size<=wrr.heap.size:=by simpa using hB.size
     apply ay 11 [0,1,3,7,15,31,63,127,255,511,1023] [8] [_,_,_,_,_,_,_,_,(fun p=>.pointer (some ⟨p 8,0,none⟩)),(fun _=>undef),_] (fun p L w'=>wrr.heap.size<=w'.heap.size/\Below w.heap.size w w'/\af w' s_b (cT y) 111/\af w' u_b (cT z) 111/\(L 8=true->wrr.heap.size<=p 8/\af w' (p 8) (bif L 9 then(ah C)else(ah fun _=>0)) 25)) _ [(0,34),(1,35),(2,36),(3,37),(4,38),(5,33),(6,39),(7,40),(8,9),(10,10)] [0,1,2,3,4,5,6,7,8,9,10]
     case hn|hB|hds|hA=>exact rA
     case h0=>exact rH
     case hmore=>exact rM
     case hs=>
      intro more
      refine aH ?_
      refine cm ?_ ?_
      ·rintro p L w1 ⟨hsz,hB,s,u,h_v⟩ hk
       exact aO _ _ rfl _ 0 rfl _ _ s (ah y.a) (jG y) _ yc rfl rI rfl
      refine aH ?_
      refine cm ?_ ?_
      ·rintro p L w1 ⟨hsz,hB,s,u,h_v⟩ hk
       exact aO _ _ rfl _ 0 rfl _ _ u (ah z.a) (jG z) _ yc rfl rI rfl
      refine bS 4 rfl (fun p=>rfl) (fun _ _ _ h=>h) more ?_ ?_
      ·rintro p L w1 ⟨hsz,hB,s,u,h_v⟩ hk
       go_simp
       exact(CR.out _).mono rC
      iterate 3 (refine aH ?_)
      refine aw.cons ?_ ?_
      ·refine aP 8 rfl (fun p=>rfl) rfl (ah fun _=>0) 25 (fun p=>rfl) ?_ ?_
       ·exact rZ
       rintro p L w1 ⟨hsz,hB,s,u,h_v⟩ hk
       have L9:L 9=false:=hk.2.2 9 rfl
       refine⟨nk hsz sd,hB.alloc (nk hW0 hsz) _,s.alloc _,u.alloc _,fun _=>⟨hsz,?_⟩⟩
       rw[show cD L 8 9=false from L9]
       exact af.new _ _ _
      refine aw.cons ?_ ?_
      ·refine aA 9 rfl (fun p=>rfl) (fun p=>rfl) _ _ _ rfl (fun p=>p 8) 0 (fun p=>rfl) (fun p=>(ah C)) (fun p=>rfl) (fun p=>(ah fun _=>0)) (fun p=>(ah C)) 25 (fun p=>sR _ _) (fun p=>by first|(rw[ad,ad];decide)|simp[ad,ad]) (fun p=>by rw[ad];kernel_rfl) (fun p=>aG _) ?_ ?_
       ·rintro p L w1 ⟨hsz,hB,s,u,h_v⟩ hk
        exact cg (h_v (hk.2.1 8 rfl)).2 hk.1
       ·rintro p L w1 ⟨hsz,hB,s,u,h_v⟩ hk
        have hp:=h_v (hk.2.1 8 rfl)
        refine⟨(by simpa using hsz),Below.setRow hB (nk hW0 hp.1) _,s.rowOther (nL lt_s hp.1) _,u.rowOther (nL lt_u hp.1) _,fun _=>⟨hp.1,?_⟩⟩
        rw[show cD L 9 9=true from rfl]
        exact hp.2.row _
      refine aH ?_
      exact aw.nil
     case hV0=>exact rV
     case he=>
     clear hB s u
     rintro p wrrr ⟨hsz,hB,s,u,h_v⟩
     obtain⟨le_v,v⟩:=h_v rfl
     clear h_v
     replace v:af wrrr (p 8) (ah C) 25:=v
     have ne_s_v:s_b≠p 8:=nN (nq lt_s le_v)
     have ne_u_v:u_b≠p 8:=nN (nq lt_u le_v)
     have ge_v:w.heap.size<=p 8:=nk hW0 le_v
     generalize p 8=v_b at *
     clear lt_s lt_u hsz hW0 CR
     go_upto_region 12 with(fail)
     have lt_s:=s.lt
     have lt_u:=u.lt
     have lt_v:=v.lt
     have hW0:w.heap.size<=wrrr.heap.size:=by simpa using hB.size
     apply ay 7 [0,1,3,7,15,31,63] [] [_,_,_,_,_,_,_] (fun p L w'=>wrrr.heap.size<=w'.heap.size/\Below w.heap.size w w'/\af w' s_b (cT y) 111/\af w' u_b (cT z) 111/\af w' v_b (ah C) 25) _ [(0,42),(1,43),(2,41),(3,44),(4,45),(5,11),(6,12)] [0,1,2,3,4,5,6]
     case hn|hB|hds|hA=>exact rA
     case h0=>exact rH
     case hmore=>exact rM
     case hs=>
      intro more
      refine cm ?_ ?_
      ·rintro p L w1 ⟨hsz,hB,s,u,v⟩ hk
       first|exact br _ _ rfl _ rfl _ _ v _ yc rfl rI rfl|(have hc:=v.cellIs (az _ (show 0<3 by omega));go_simp;exact⟨rfl,rfl⟩)
      refine bS 1 rfl (fun p=>rfl) (fun _ _ _ h=>h) more ?_ ?_
      ·rintro p L w1 ⟨hsz,hB,s,u,v⟩ hk
       go_simp
       exact(NO.out _).mono rC
      iterate 5 (refine aH ?_)
      exact aw.nil
     case hV0=>exact fun p q=>aw.nil
     case he=>
     clear hB s u v
     rintro p wrrrr ⟨hsz,hB,s,u,v⟩
     clear lt_s lt_u lt_v hsz hW0 NO
     go_wp2_with (first
      |(refine fH rfl rfl _ _ _ hmx.out rfl ?_))
     go_roundg (n-(M+1))
     case rel=>exact⟨M+1,oa,rfl,rfl,s,hB⟩
     case measure=>omega
    ·obtain rfl:M=n:=oa
     have hdK2:decide ((M:Int)<M)=false:=dF oa
     have hdK2':decide (M<M)=false:=dF oa
     go_wp2_with (fail)
     go_roundg (M-(K+1))
     case rel=>exact⟨K+1,oa,rfl,by rw[<-hA0.out];rfl,hB⟩
     case measure=>omega
  ·obtain rfl:K=n:=oa
   have hdK2:decide ((K:Int)<K)=false:=dF oa
   have hdK2':decide (K<K)=false:=dF oa
   go_wp2_with (fail)
   go_ret2
   exact⟨by first|rfl|simp,hB⟩
theorem j3 (a:Int):IntKind.i64.wrap a=wrap64 a:=by rw[wI];unfold wrap64;omega
theorem pF (a b c:Int):bu (bG a b c):=by
 unfold bG
 split
 ·exact⟨oa,oa⟩
 ·unfold dG jA
  split
  ·rename_i h;simp only[Bool.and_eq_true,decide_eq_true_eq]at h;exact h
  ·exact⟨oa,oa⟩
theorem IZ (xs ys:List Int):bu (gK xs ys):=by
 unfold gK
 split
 ·exact⟨oa,oa⟩
 ·unfold dG jA
  split
  ·rename_i h;simp only[Bool.and_eq_true,decide_eq_true_eq]at h;exact h
  ·exact⟨oa,oa⟩
theorem vl (a:Int):bu (wrap64 a):=by unfold wrap64 bu;omega
def fU (m:Nat->Int):Nat->Int:=fun j=>bG (if j/4=j % 4 then wrap64 (m j+1073741824)else m j) 1 2
def eO (s:Nat->Int):Nat->Int:=fun j=>gK [s (j/4*4),s (j/4*4+1),s (j/4*4+2),s (j/4*4+3)] [s (j % 4),s (4+j % 4),s (8+j % 4),s (12+j % 4)]
def n7 (s:Nat->Int):Int:=wrap64 (wrap64 (wrap64 (s 0+s 5)+s 10)+s 15)
def pY (p:Nat->Int) (t:Int):Nat->Int:=fun j=>bG (p j) 1073741824 t
def kM (s:Nat->Int):Nat->Int:=pY (eO s) (n7 (eO s))
def je (s:Nat->Int):Nat->(Nat->Int)
 |0=>s
 |k+1=>kM (je s k)
def l9 (s:Nat->Int):Nat->Nat
 |0=>0
 |k+1=>if s (l9 s k*5)<s (k*5)then k else l9 s k
theorem wg (s:Nat->Int) (k:Nat) (h:k<=4):l9 s k<4:=by
 induction k with
 |zero=>exact Nat.zero_lt_succ _
 | succ k ih=>
   unfold l9
   split
   ·omega
   ·exact ih oa
def d_ (s:Nat->Int) (b:Nat):Nat->Int:=fun i=>match i with
 |0=>s b
 |1=>s (4+b)
 |2=>s (8+b)
 |_=>s (12+b)
def mI (q:Nat->Int):Nat->Int:=fun i=>wrap64 (-q i)
def sG (q:Nat->Int):Nat->Int:=if q 0<0 then mI q else q
def qB (s:Nat->Int):Nat->Int:=sG (df (d_ s (l9 s 4)))
def D_ (S:Nat->e_) (n:Nat):Bool:=i5 S n&&decide (536870912<=oO S n n)
def s7 (S:Nat->e_) (n:Nat):Nat->Int:=if D_ S n then qB (je (fU (fK S n)) 12)else fun _=>0
def DV (S:Nat->e_) (n:Nat):Int:=if i5 S n then(if 536870912<=oO S n n then 0 else 4)else 2
theorem xK (m:Nat->Int) (i k:Nat) (hk:k<4):fU m (i*4+k)=bG (if i=k then wrap64 (m (i*4+k)+1073741824)else m (i*4+k)) 1 2:=by
 unfold fU
 rw[show(i*4+k)/4=i by omega,show(i*4+k) % 4=k by omega]
theorem I9 (s:Nat->Int) (i k:Nat) (hk:k<4):eO s (i*4+k)=gK [s (i*4),s (i*4+1),s (i*4+2),s (i*4+3)] [s k,s (4+k),s (8+k),s (12+k)]:=by
 unfold eO
 rw[show(i*4+k)/4=i by omega,show(i*4+k) % 4=k by omega]
theorem Iq {w:World} {b:Nat} {x0 x1 x2 x3:Int} {t:TypeId} (h:af w b #[.int .i64 x0,.int .i64 x1,.int .i64 x2,.int .i64 x3] t):iL w (.slice (some ⟨b,0,none⟩) 4 4) [x0,x1,x2,x3]:=
 Or.inr ⟨by simp,b,0,4,rfl,h.lt,fun k hk=>by
  rcases k with _|_|_|_|k
  ·exact h.cellIs rfl
  ·exact h.cellIs rfl
  ·exact h.cellIs rfl
  ·exact h.cellIs rfl
  ·simp at hk;omega⟩
theorem Hh {w:World} {b:Nat} {s:Nat->Int} {t:TypeId} (h:af w b (cW s) t) {i:Nat} (hi:i<4):iL w (.slice (some ⟨b,i*4,none⟩) 4 4) [s (i*4),s (i*4+1),s (i*4+2),s (i*4+3)]:=
 Or.inr ⟨by simp,b,i*4,4,rfl,h.lt,fun k hk=>by
  rcases k with _|_|_|_|k
  ·exact h.cellIs (cI s oa)
  ·exact h.cellIs (cI s oa)
  ·exact h.cellIs (cI s oa)
  ·exact h.cellIs (cI s oa)
  ·simp at hk;omega⟩
theorem xR {a b c d:Int} (ha:bu a) (hb:bu b) (hc:bu c) (hd:bu d):∀k,k< [a,b,c,d].length->bu ([a,b,c,d].getD k 0):=by
 intro k hk
 have hk:k<4:=hk
 rcases(show k=0\/k=1\/k=2\/k=3 by omega)with rfl|rfl|rfl|rfl<;>assumption
theorem Dz (s:Nat->Int) (i k x y:Nat) (w:World) (t t2:TypeId) (hs:∀j,j<16->bu (s j)) (hi:i<4) (hk:k<4) (p:af w x (cW s) t) (q:af w y #[.int .i64 (s k),.int .i64 (s (4+k)),.int .i64 (s (8+k)),.int .i64 (s (12+k))] t2):
 Calls Tryz.prog 49 #[.slice (some ⟨x,i*4,none⟩) 4 4,.slice (some ⟨y,0,none⟩) 4 4] w fun e w'=>e=.returned (.tuple #[.int .i64 (eO s (i*4+k)),.int .i64 (jY [s (i*4),s (i*4+1),s (i*4+2),s (i*4+3)] [s k,s (4+k),s (8+k),s (12+k)])])/\Below w.heap.size w w':=by
 rw[I9 s i k hk]
 exact ic _ _ _ _ w (Hh p hi) (Iq q) (xR (hs _ oa) (hs _ oa) (hs _ oa) (hs _ oa)) (xR (hs _ oa) (hs _ oa) (hs _ oa) (hs _ oa))
theorem El (m:Nat->Int) (i k b:Nat) (w:World) (p:af w b (cW m) 98) (hm:∀j,j<16->bu (m j)) (hi:i<4) (hk:k<4):Calls Tryz.prog 46 #[.int .i64 i,.int .i64 k,.pointer (some ⟨b,0,none⟩)] w fun e w'=>e=.returned (.int .i64 (fU m (i*4+k)))/\Below w.heap.size w w':=by
 rw[xK m i k hk]
 have hc:w.cell? ⟨b,i*4+k,none⟩=some (.int .i64 (m (i*4+k))):=p.cellIs (cI m oa)
 have h0:=hm (i*4+k) oa
 generalize m (i*4+k)=x at *
 have hdi:decide ((i:Int)<4)=true:=dT oa
 have hdi':decide (i<4)=true:=dT hi
 have hi3:(i:Int)<4:=oa
 have hdk:decide ((k:Int)<4)=true:=dT oa
 have hdk':decide (k<4)=true:=dT hk
 have hk3:(k:Int)<4:=oa
 have hB:Below w.heap.size w w:=Below.refl _ _
 clear p hm
 by_cases e:i=k
 ·have e1:decide ((i:Int)=k)=true:=dT oa
  have e2:((i:Int)==k)=true:=by simp[e]
  have e3:IntKind.i64.wrap (x+1073741824)=wrap64 (x+1073741824):=by rw[j3]
  rw[if_pos e]
  have RA:=aa (fun w=>iw (wrap64 (x+1073741824)) 1 2 w (vl _) ⟨oa,oa⟩ ⟨oa,oa⟩)
  replace e:=aa e
  clear h0
  go_enter Tryz.func46,Tryz.ntmps46
  go_wp2_with (first
   |(go_at_call 47;with_reducible refine(RA.out _).mono ?_;rintro e w1 ⟨rfl,hb⟩;replace hB:=hB.trans (hb.mono hB.size);clear hb))
  go_ret
  exact⟨rfl,hB⟩
 have e1:decide ((i:Int)=k)=false:=dF oa
 have e2:((i:Int)==k)=false:=by simp;omega
 rw[if_neg e]
 have RA:=aa (fun w=>iw x 1 2 w h0 ⟨oa,oa⟩ ⟨oa,oa⟩)
 replace e:=aa e
 clear h0
 go_enter Tryz.func46,Tryz.ntmps46
 go_wp2_with (first
  |(go_at_call 47;with_reducible refine(RA.out _).mono ?_;rintro e w1 ⟨rfl,hb⟩;replace hB:=hB.trans (hb.mono hB.size);clear hb))
 go_ret
 exact⟨rfl,hB⟩
theorem Dp (m:Nat->Int) (i k b:Nat) (w:World) (tb:af w b (cW m) 101) (hm:∀j,j<16->bu (m j)) (hi:i<4) (hk:k<4):Calls Tryz.prog 48 #[.int .i64 i,.int .i64 k,.pointer (some ⟨b,0,none⟩)] w fun e w'=>e=.returned (.int .i64 (eO m (i*4+k)))/\Below w.heap.size w w':=by
 have DT:=aa (fun x y w t t2 p q=>Dz m i k x y w t t2 hm hi hk p q)
 generalize jY [m (i*4),m (i*4+1),m (i*4+2),m (i*4+3)] [m k,m (4+k),m (8+k),m (12+k)]=DE at *
 generalize eO m (i*4+k)=P at *
 have hdi:decide ((i:Int)<4)=true:=dT oa
 have hdi':decide (i<4)=true:=dT hi
 have hi3:(i:Int)<4:=oa
 have hdk:decide ((k:Int)<4)=true:=dT oa
 have hdk':decide (k<4)=true:=dT hk
 have hk3:(k:Int)<4:=oa
 have hB:Below w.heap.size w w:=Below.refl _ _
 have ltb:=tb.lt
 clear hm
 go_enter Tryz.func48,Tryz.ntmps48
 go_upto_region 1 with(fail)
 have lt_tb:=tb.lt
 have hW0:w.heap.size<=w.heap.size:=by simpa using hB.size
 apply a_ 26 [0,1,3,0,0,24,56,0,0,384,896,0,0,6144,14336,0,0,98304,229376,524280,1048575,2097151,4194303,4194303,8388607,33554431] [19] [_,_,_,_,_,_,_,_,_,_,_,_,_,_,_,_,_,_,_,(fun p=>(fun b=>.slice (some ⟨b,0,none⟩) 4 4) (p 19)),_,_,_,_,_,_] (fun p L w'=>w.heap.size<=w'.heap.size/\Below w.heap.size w w'/\af w' b (cW m) 101/\(L 19=true->w.heap.size<=p 19/\af w' (p 19) #[.int .i64 (m k),.int .i64 (m (4+k)),.int .i64 (m (8+k)),.int .i64 (m (12+k))] 2)) _ [(0,9),(1,10),(2,11),(3,12),(4,13),(5,14),(6,15),(7,16),(8,17),(9,18),(10,19),(11,20),(12,21),(13,22),(14,23),(15,24),(16,25),(17,26),(18,27),(19,28),(20,29),(21,8),(22,30),(23,31),(24,6),(25,7)] [0,1,2,3,4,5,6,7,8,9,10,11,12,13,14,15,16,17,18,19,20,21,22,23,24,25]
 case hn|hm|hB|hds|hA=>exact rA
 case h0=>exact rH
 case hmore=>exact rM
 case hs=>
  intro more
  iterate 6 (refine aH ?_)
  refine cm ?_ ?_
  ·rintro p L w1 ⟨hsz,hB,tb,h_cl⟩ hk
   have hc:w1.cell? ⟨b,k,none⟩=some (.int .i64 (m k)):=tb.cellIs (cI m oa)
   go_simp
   exact⟨rfl,rfl⟩
  iterate 3 (refine aH ?_)
  refine cm ?_ ?_
  ·rintro p L w1 ⟨hsz,hB,tb,h_cl⟩ hk
   have hc:w1.cell? ⟨b,4+k,none⟩=some (.int .i64 (m (4+k))):=tb.cellIs (cI m oa)
   go_simp
   exact⟨rfl,rfl⟩
  iterate 3 (refine aH ?_)
  refine cm ?_ ?_
  ·rintro p L w1 ⟨hsz,hB,tb,h_cl⟩ hk
   have hc:w1.cell? ⟨b,8+k,none⟩=some (.int .i64 (m (8+k))):=tb.cellIs (cI m oa)
   go_simp
   exact⟨rfl,rfl⟩
  iterate 3 (refine aH ?_)
  refine cm ?_ ?_
  ·rintro p L w1 ⟨hsz,hB,tb,h_cl⟩ hk
   have hc:w1.cell? ⟨b,12+k,none⟩=some (.int .i64 (m (12+k))):=tb.cellIs (cI m oa)
   go_simp
   exact⟨rfl,rfl⟩
  refine aw.cons ?_ ?_
  ·refine fT 19 rfl (fun p=>rfl) rfl (fun b=>.slice (some ⟨b,0,none⟩) 4 4) (fun p=>#[.int .i64 (m k),.int .i64 (m (4+k)),.int .i64 (m (8+k)),.int .i64 (m (12+k))]) 2 (fun p=>rfl) ?_ ?_
   ·intro p w1
    try simp only[ah,aj]
    go_simp
    try rfl
   rintro p L w1 ⟨hsz,hB,tb,h_cl⟩ hk
   refine⟨nk hsz sd,hB.alloc (nk hW0 hsz) _,tb.alloc _,fun _=>⟨hsz,?_⟩⟩
   exact af.new _ _ _
  refine bS 20 rfl (fun p=>rfl) (fun _ _ _ h=>h) more ?_ ?_
  ·rintro p L w1 ⟨hsz,hB,tb,h_cl⟩ hk
   have hh_cl:=(h_cl (hk.2.1 19 rfl)).2
   go_simp
   exact(DT.out _ _ _ _ _ tb hh_cl).mono rC
  iterate 5 (refine aH ?_)
  exact aw.nil
 case hV0=>exact rV
 case he=>
 clear hB tb
 rintro p wr ⟨hsz,hB,tb,h_cl⟩
 obtain⟨le_cl,cl⟩:=h_cl rfl
 clear h_cl
 replace cl:af wr (p 19) #[.int .i64 (m k),.int .i64 (m (4+k)),.int .i64 (m (8+k)),.int .i64 (m (12+k))] 2:=cl
 have ne_tb_cl:b≠p 19:=nN (nq lt_tb le_cl)
 have ge_cl:w.heap.size<=p 19:=nk hW0 le_cl
 generalize p 19=cl_b at *
 clear lt_tb hsz hW0 DT
 go_wp2_with (fail)
 go_ret
 exact⟨rfl,hB⟩
theorem BW (m:Nat->Int) (t:Int) (i k b c:Nat) (w:World) (tb:af w b (cW m) 101) (tc:af w c #[.int .i64 t] 2) (hm:∀j,j<16->bu (m j)) (ht:bu t) (hi:i<4) (hk:k<4):Calls Tryz.prog 51 #[.int .i64 i,.int .i64 k,.pointer (some ⟨b,0,none⟩),.pointer (some ⟨c,0,none⟩)] w fun e w'=>e=.returned (.int .i64 (pY m t (i*4+k)))/\Below w.heap.size w w':=by
 have RA:=aa (fun w=>iw (m (i*4+k)) 1073741824 t w (hm _ oa) ⟨oa,oa⟩ ht)
 rw[show bG (m (i*4+k)) 1073741824 t=pY m t (i*4+k)from rfl]at RA
 generalize pY m t (i*4+k)=P at *
 generalize lx (m (i*4+k)) 1073741824 t=PE at *
 have hdi:decide ((i:Int)<4)=true:=dT oa
 have hdi':decide (i<4)=true:=dT hi
 have hi3:(i:Int)<4:=oa
 have hdk:decide ((k:Int)<4)=true:=dT oa
 have hdk':decide (k<4)=true:=dT hk
 have hk3:(k:Int)<4:=oa
 have hB:Below w.heap.size w w:=Below.refl _ _
 clear hm ht
 go_enter Tryz.func51,Tryz.ntmps51
 go_upto_region 1 with(fail)
 have lt_tb:=tb.lt
 have lt_tc:=tc.lt
 have hW0:w.heap.size<=w.heap.size:=by simpa using hB.size
 apply a_ 12 [0,0,1,7,15,0,63,127,255,255,511,2047] [] [_,_,_,_,_,_,_,_,_,_,_,_] (fun p L w'=>w.heap.size<=w'.heap.size/\Below w.heap.size w w'/\af w' b (cW m) 101/\af w' c #[.int .i64 t] 2) _ [(0,10),(1,11),(2,12),(3,13),(4,14),(5,15),(6,16),(7,9),(8,17),(9,18),(10,7),(11,8)] [0,1,2,3,4,5,6,7,8,9,10,11]
 case hn|hm|hB|hds|hA=>exact rA
 case h0=>exact rH
 case hmore=>exact rM
 case hs=>
  intro more
  iterate 4 (refine aH ?_)
  refine cm ?_ ?_
  ·rintro p L w1 ⟨hsz,hB,tb,tc⟩ hk
   have hc:w1.cell? ⟨b,i*4+k,none⟩=some (.int .i64 (m (i*4+k))):=tb.cellIs (cI m oa)
   go_simp
   exact⟨rfl,rfl⟩
  refine cm ?_ ?_
  ·rintro p L w1 ⟨hsz,hB,tb,tc⟩ hk
   have hc:w1.cell? ⟨c,0,none⟩=some (.int .i64 t):=tc.cellIs rfl
   go_simp
   exact⟨rfl,rfl⟩
  refine bS 6 rfl (fun p=>rfl) (fun _ _ _ h=>h) more ?_ ?_
  ·rintro p L w1 ⟨hsz,hB,tb,tc⟩ hk
   go_simp
   exact(RA.out _).mono rC
  iterate 5 (refine aH ?_)
  exact aw.nil
 case hV0=>exact fun p q=>aw.nil
 case he=>
 clear hB tb tc
 rintro p wr ⟨hsz,hB,tb,tc⟩
 clear lt_tb lt_tc hsz hW0 RA
 go_wp2_with (fail)
 go_ret
 exact⟨rfl,hB⟩
theorem wW (m:Nat->Int) (w:World):Calls Tryz.prog 50 #[.agg (cW m)] w fun e w'=>e=.returned (.int .i64 (n7 m))/\Below w.heap.size w w':=by
 have e1:IntKind.i64.wrap (IntKind.i64.wrap (IntKind.i64.wrap (m 0+m 5)+m 10)+m 15)=n7 m:=by rw[j3,j3,j3];rfl
 go_enter Tryz.func50,Tryz.ntmps50
 go_upto_region 1 with(fail)
 have b:af (w.alloc (.cells (cW m) 101)) w.heap.size (cW m) 101:=af.new _ _ _
 have hB:Below w.heap.size w (w.alloc (.cells (cW m) 101)):=by go_grown
 generalize(w.alloc (.cells (cW m) 101))=w0 at *
 have c0:w0.cell? ⟨w.heap.size,0,none⟩=some (.int .i64 (m 0)):=b.cellIs (cI m oa)
 have c5:w0.cell? ⟨w.heap.size,5,none⟩=some (.int .i64 (m 5)):=b.cellIs (cI m oa)
 have c10:w0.cell? ⟨w.heap.size,10,none⟩=some (.int .i64 (m 10)):=b.cellIs (cI m oa)
 have c15:w0.cell? ⟨w.heap.size,15,none⟩=some (.int .i64 (m 15)):=b.cellIs (cI m oa)
 go_wp2_with (fail)
 go_ret
 exact⟨rfl,hB⟩
end Go.Proofs.YtbhahonkhiiilaaGreat
