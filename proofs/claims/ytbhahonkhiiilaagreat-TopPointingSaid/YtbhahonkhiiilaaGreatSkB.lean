/-
  Whether sights are valid, by the specification; means of the program, for any function.
-/
import Derived.Test.YtbhahonkhiiilaaGreatSkA
set_option linter.unusedSimpArgs false
set_option linter.unusedVariables false
set_option maxHeartbeats 20000000
namespace Go.Proofs.YtbhahonkhiiilaaGreat
open Go.RowKit PM Dt
def lI (S:Nat->e_):Nat->Int
 |0=>0
 |n+1=>lI S n+(S n).m
def kP (S:Nat->e_) (f:e_->Int):Nat->Int
 |0=>0
 |n+1=>kP S f n+(S n).m*f (S n)
theorem Fh {S:Nat->e_} {n:Nat} (h:∀k,k<n->dX (S k)=true):(n:Int)<=lI S n/\lI S n<=65535*n:=by
 induction n with
 |zero=>exact⟨iR _,iR _⟩
 | succ n ih=>
   have i1:=ih fun k hk=>h k oa
   have i2:=h n oa
   simp only[dX,Bool.and_eq_true,decide_eq_true_eq]at i2
   unfold lI
   omega
theorem Dk {m x:Int} (h0:1<=m) (h1:m<=65535) (h2:-4398046511104<=x) (h3:x<=4398046511104):-288230376151711744<=m*x/\m*x<=288230376151711744:=by
 constructor
 ·have:m*4398046511104≥m* (-x):=mL oa oa
  rw[Int.mul_neg]at this;omega
 ·have:m*x<=m*4398046511104:=mL h3 oa
  omega
theorem EI {S:Nat->e_} {f:e_->Int} {n:Nat} (hn:n<=16) (h:∀k,k<n->dX (S k)=true) (hf:∀k,k<n->-4398046511104<=f (S k)/\f (S k)<=4398046511104):-288230376151711744*n<=kP S f n/\kP S f n<=288230376151711744*n:=by
 induction n with
 |zero=>exact⟨iR _,iR _⟩
 | succ n ih=>
   have i1:=ih oa (fun k hk=>h k oa) (fun k hk=>hf k oa)
   have i2:=h n oa
   simp only[dX,Bool.and_eq_true,decide_eq_true_eq]at i2
   have i3:=Dk i2.2.2.1 i2.2.2.2 (hf n oa).1 (hf n oa).2
   unfold kP
   omega
set_option maxRecDepth 100000 in
theorem zP (S:Nat->e_) (f:e_->Int) (a:Option Addr) (n c N:Nat) (cs:Array Value) (w:World) (el:iy w a n 7 (fun k=>(cT (S k)).toList)) (h16:n<=16) (hok:∀k,k<n->dX (S k)=true) (hf:∀k,k<n->-4398046511104<=f (S k)/\f (S k)<=4398046511104) (CF:∀k,k<n->∀w1,Below w.heap.size w w1->Calls Tryz.prog N (#[.agg (cT (S k))]++cs) w1 fun e w'=>e=.returned (.int .i64 (f (S k)))/\Below w1.heap.size w1 w') (HN:∀ar w1,Sem.run Tryz.prog (callFunc N ar) w1=.ok (.enter N ar) w1):Calls Tryz.prog 78 #[.slice a n c,.func (.func N) #[] cs] w fun e w'=>e=.returned (.int .i64 (bG (kP S f n) 1 (lI S n)))/\Below w.heap.size w w':=by
 replace el:=aa el
 have hn2:(n:Int)<=16:=oa
 have hWB:=aa (fun k (hk:k<=n)=>Fh (S:=S) (n:=k) (fun j hj=>hok j oa))
 have hFB:=aa (fun k (hk:k<=n)=>EI (S:=S) (f:=f) (n:=k) oa (fun j hj=>hok j oa) (fun j hj=>⟨by have:=hf j oa;omega,by have:=hf j oa;omega⟩))
 have hMB:=aa (fun k (hk:k<n)=>(by
  have i2:=hok k hk
  simp only[dX,Bool.and_eq_true,decide_eq_true_eq]at i2
  exact Dk i2.2.2.1 i2.2.2.2 (by have:=hf k hk;omega) (by have:=hf k hk;omega):-288230376151711744<=(S k).m*f (S k)/\(S k).m*f (S k)<=288230376151711744))
 have hOM:=aa (fun k (hk:k<n)=>(by
  have i2:=hok k hk
  simp only[dX,Bool.and_eq_true,decide_eq_true_eq]at i2
  exact i2.2.2:1<=(S k).m/\(S k).m<=65535))
 replace CF:=aa CF
 replace HN:=aa HN
 clear hok hf h16
 have hB:Below w.heap.size w w:=Below.refl _ _
 go_enter Tryz.func78,Tryz.ntmps78
 go_wp2_with (fail)
 go_loopg [13,5,6] n (fun g_ iv j5 j6 wr=>∃K:Nat,g_+K=n/\iv=.int .i64 K/\j5=.int .i64 (kP S f K)/\j6=.int .i64 (lI S K)/\Below w.heap.size w wr)
 case atStart=>exact⟨0,oa,rfl,rfl,rfl,hB⟩
 case round=>
  clear hB
  obtain⟨K,hK,rfl,rfl,rfl,hB⟩:=hrel
  by_cases hKn:K<n
  ·have hdK:decide ((K:Int)<n)=true:=dT oa
   have hdK':decide (K<n)=true:=dT hKn
   have hk3:(K:Int)<n:=oa
   have hk0:(0:Int)<=K:=oa
   have hwK:IntKind.i64.wrap ((K:Int)+1)=((K+1:Nat):Int):=by rw[wI];omega
   obtain⟨eb,eo,rfl,hEl,hE⟩:=el.out K hKn
   replace hE:w.rangeAt eb (eo+K*7) ((cT (S K)).toList):=hE
   have b1:=hWB.out (K+1) hKn
   have b2:=hFB.out (K+1) hKn
   have b3:=hMB.out K hKn
   have b4:=hWB.out K oa
   have b5:=hOM.out K hKn
   have CC:=aa (CF.out K hKn)
   have u1:kP S f (K+1)=kP S f K+(S K).m*f (S K):=rfl
   have u2:lI S (K+1)=lI S K+(S K).m:=rfl
   obtain⟨y,hy⟩:∃y,S K=y:=⟨_,rfl⟩
   rw[hy]at hE b3 b5 CC u1 u2
   obtain⟨z,hz⟩:∃z,f y=z:=⟨_,rfl⟩
   rw[hz]at b3 CC u1
   obtain⟨F1,hF1⟩:∃F1,kP S f (K+1)=F1:=⟨_,rfl⟩
   obtain⟨W1,hW1⟩:∃W1,lI S (K+1)=W1:=⟨_,rfl⟩
   rw[hF1]at b2 u1
   rw[hW1]at b1 u2
   generalize kP S f K=F0 at *
   generalize lI S K=W0 at *
   replace hF1:=aa hF1
   replace hW1:=aa hW1
   have e1:IntKind.i64.wrap (y.m*z)=y.m*z:=by rw[wI];generalize y.m*z=t at *;omega
   have e2:IntKind.i64.wrap (F0+y.m*z)=F1:=by rw[u1,wI];generalize y.m*z=t at *;omega
   have e3:IntKind.i64.wrap (W0+y.m)=W1:=by rw[u2,wI];omega
   replace u1:=aa u1
   replace u2:=aa u2
   clear b1 b2 b3 b4 b5 hy hz
   go_upto_region 4 with(fail)
   have hW0:w.heap.size<=wr.heap.size:=by simpa using hB.size
   apply ay 4 [0,1,3,7] [2] [_,_,(fun p=>.pointer (some ⟨p 2,0,none⟩)),(fun _=>undef)] (fun p L w'=>wr.heap.size<=w'.heap.size/\Below w.heap.size w w'/\(L 2=true->wr.heap.size<=p 2/\af w' (p 2) (bif L 3 then(cT y)else(cT e_.zero)) 111)) _ [(0,15),(1,16),(2,8)] [0,1,2,3]
   case hn|hB|hds|hA=>exact rA
   case h0=>exact rH
   case hmore=>exact rM
   case hs=>
    intro more
    refine aH ?_
    refine cm ?_ ?_
    ·rintro p L w1 ⟨hsz,hB,h_s⟩ hk
     have hr:=fM hE hB hEl
     exact gm _ _ rfl _ _ rfl _ (eo+K*7) 0 hr (by first|rfl|omega) (cT y) (FQ y) _ yg rfl (by rw[ct];kernel_rfl) rfl
    refine aw.cons ?_ ?_
    ·refine aP 2 rfl (fun p=>rfl) rfl (cT e_.zero) 111 (fun p=>rfl) ?_ ?_
     ·intro p w1
      go_simp
      first|rfl|rw[l_]
     rintro p L w1 ⟨hsz,hB,h_s⟩ hk
     have L3:L 3=false:=hk.2.2 3 rfl
     refine⟨nk hsz sd,hB.alloc (nk hW0 hsz) _,fun _=>⟨hsz,?_⟩⟩
     rw[show cD L 2 3=false from L3]
     exact af.new _ _ _
    refine aw.cons ?_ ?_
    ·refine aA 3 rfl (fun p=>rfl) (fun p=>rfl) _ _ _ rfl (fun p=>p 2) 0 (fun p=>rfl) (fun p=>(cT y)) (fun p=>rfl) (fun p=>(cT e_.zero)) (fun p=>(cT y)) 111 (fun p=>sZ _ _) (fun p=>by first|(rw[ct,ct];decide)|simp[ct,ct]) (fun p=>by rw[ct];kernel_rfl) (fun p=>lP _) ?_ ?_
     ·rintro p L w1 ⟨hsz,hB,h_s⟩ hk
      exact cg (h_s (hk.2.1 2 rfl)).2 hk.1
     ·rintro p L w1 ⟨hsz,hB,h_s⟩ hk
      have hp:=h_s (hk.2.1 2 rfl)
      refine⟨(by simpa using hsz),Below.setRow hB (nk hW0 hp.1) _,fun _=>⟨hp.1,?_⟩⟩
      rw[show cD L 3 3=true from rfl]
      exact hp.2.row _
    exact aw.nil
   case hV0=>exact rV
   case he=>
   clear hB
   rintro p wrr ⟨hsz,hB,h_s⟩
   obtain⟨le_s,s⟩:=h_s rfl
   clear h_s
   replace s:af wrr (p 2) (cT y) 111:=s
   have ge_s:w.heap.size<=p 2:=nk hW0 le_s
   generalize p 2=s_b at *
   clear hsz hW0 hE
   go_upto_region 5 with(fail)
   refine dx 8 ke ke ?_
   replace s:=s.drew
   replace hB:Below w.heap.size w wrr.drew:=hB.drew
   generalize wrr.drew=wrrd at *
   apply ao 0;(case ho'=>exact rfl);(case hg=>exact rfl);(case hB=>kernel_rfl);(case h=>(intro w1 h1;go_simp;exact⟨rfl,Below.refl _ _⟩))
   simp only[Act.put,aL,aM,aN]
   apply ao 1;(case ho'=>exact rfl);(case hg=>exact rfl);(case hB=>kernel_rfl);(case h=>(intro w1 h1;go_simp;exact⟨rfl,Below.refl _ _⟩))
   simp only[Act.put,aL,aM,aN]
   apply ao 2;(case ho'=>exact rfl);(case hg=>exact rfl);(case hB=>kernel_rfl);(case h=>(intro w1 h1;have hc:w1.cell? ⟨s_b,6,none⟩=some (.int .i64 y.m):=(s.below h1 s.lt).cellIs rfl;go_simp;exact⟨rfl,Below.refl _ _⟩))
   simp only[Act.put,aL,aM,aN]
   apply ao 3;(case ho'=>exact rfl);(case hg=>exact rfl);(case hB=>kernel_rfl);(case h=>(intro w1 h1;go_simp;exact⟨rfl,Below.refl _ _⟩))
   simp only[Act.put,aL,aM,aN]
   apply ao 4;(case ho'=>exact rfl);(case hg=>exact rfl);(case hB=>kernel_rfl);(case h=>(intro w1 h1;exact mh _ _ rfl _ rfl _ _ _ (s.below h1 s.lt) yg rfl (by first|kernel_rfl|(rw[ct];kernel_rfl)) rfl))
   simp only[Act.put,aL,aM,aN]
   apply ao 5;(case ho'=>exact rfl);(case hg=>exact rfl);(case hB=>kernel_rfl);(case h=>(intro w1 h1;go_simp;rw[HN.out];simp only[gU];refine(CC.out _ (hB.trans (h1.mono hB.size))).mono ?_;rintro e w2 ⟨rfl,h2⟩;exact⟨rfl,h2⟩))
   simp only[Act.put,aL,aM,aN]
   apply ao 6;(case ho'=>exact rfl);(case hg=>exact rfl);(case hB=>kernel_rfl);(case h=>(intro w1 h1;go_simp;exact⟨rfl,Below.refl _ _⟩))
   simp only[Act.put,aL,aM,aN]
   apply ao 7;(case ho'=>exact rfl);(case hg=>exact rfl);(case hB=>kernel_rfl);(case h=>(intro w1 h1;go_simp;exact⟨rfl,Below.refl _ _⟩))
   simp only[Act.put,aL,aM,aN]
   refine d8 ke (fun we140 ht=>?_)
   simp only[List.drop_succ_cons,List.drop_zero]
   replace hB:=hB.trans (ht.mono hB.size)
   replace s:=s.below ht s.lt
   clear ht CC
   have hc6:we140.cell? ⟨s_b,6,none⟩=some (.int .i64 y.m):=s.cellIs rfl
   go_wp2_with (fail)
   go_roundg (n-(K+1))
   case rel=>exact⟨K+1,oa,rfl,by rw[hF1.out],by rw[hW1.out],hB⟩
   case measure=>omega
  ·obtain rfl:K=n:=oa
   have hdK:decide ((K:Int)<K)=false:=dF oa
   have hdK':decide (K<K)=false:=dF oa
   have b1:=hWB.out K (ns _)
   have b2:=hFB.out K (ns _)
   have RA:=aa (fun w=>iw (kP S f K) 1 (lI S K) w ⟨oa,oa⟩ ⟨oa,oa⟩ ⟨oa,oa⟩)
   clear b1 b2
   go_wp2_with (first
    |(go_at_call 47;with_reducible refine(RA.out _).mono ?_;rintro e w9 ⟨rfl,hb⟩;replace hB:=hB.trans (hb.mono hB.size);clear hb))
   go_ret
   exact⟨rfl,hB⟩
def cW (g:Nat->Int):Array Value:=((List.range 16).map fun i=>Value.int .i64 (g i)).toArray
theorem bZ (g:Nat->Int):(cW g).size=16:=by simp[cW]
theorem jp (g:Nat->Int):(cW g).all (·.oneCell')=true:=by simp[cW,Value.oneCell']
theorem cI (g:Nat->Int) {i:Nat} (h:i<16):(cW g)[i]?=some (.int .i64 (g i)):=by simp[cW,List.getElem?_range h]
theorem rj {f g:Nat->Int} (h:∀i,i<16->f i=g i):cW f=cW g:=by
 unfold cW
 rw[List.map_congr_left]
 intro i hi
 rw[h i (List.mem_range.1 hi)]
theorem kJ:#[Value.int .i64 0,.int .i64 0,.int .i64 0,.int .i64 0,.int .i64 0,.int .i64 0,.int .i64 0,.int .i64 0,.int .i64 0,.int .i64 0,.int .i64 0,.int .i64 0,.int .i64 0,.int .i64 0,.int .i64 0,.int .i64 0]=cW (fun _=>0):=rfl
theorem sD (f g:Nat->Int):gc (cW f) 0 (cW g).toList=cW g:=rl (by rw[bZ,bZ])
theorem EP {f g:Nat->Int} {i:Nat} {v:Int} (h:i<16) (hx:v=g i) (hg:∀j,j<16->j≠i->f j=g j):(cW f).setIfInBounds i (.int .i64 v)=cW g:=by
 apply Array.ext_getElem?
 intro j
 rw[Array.getElem?_setIfInBounds]
 by_cases hj:j<16
 ·rw[cI g hj,cI f hj]
  split
  ·rename_i e;subst e;rw[if_pos (by rw[bZ];exact h),hx]
  ·rename_i e;rw[hg j hj (Ne.symm e)]
 ·have n1:(cW f)[j]?=none:=Array.getElem?_eq_none (by rw[bZ];omega)
  have n2:(cW g)[j]?=none:=Array.getElem?_eq_none (by rw[bZ];omega)
  rw[n1,n2,if_neg oa]
def iG (x:Nat->Int) (n:Nat):Nat->Int:=fun j=>if j<n then x j else 0
theorem z7 (x:Nat->Int) {n:Nat} (h:n<16):(cW (iG x n)).setIfInBounds n (.int .i64 (x n))=cW (iG x (n+1)):=
 EP h (by simp[iG]) fun j hj hne=>by simp only[iG];split<;>split<;>first|rfl|omega
theorem zr (x:Nat->Int):cW (iG x 16)=cW x:=rj fun i hi=>by simp[iG,hi]
theorem vY (x:Nat->Int):cW (fun _=>0)=cW (iG x 0):=rj fun i hi=>by simp[iG]
set_option maxRecDepth 100000 in
theorem kq (X:Nat->Int) (N:Nat) (cs:Array Value) (w:World) (CF:∀i k:Nat,i<4->k<4->∀w1,Below w.heap.size w w1->Calls Tryz.prog N (#[.int .i64 i,.int .i64 k]++cs) w1 fun e w'=>e=.returned (.int .i64 (X (i*4+k)))/\Below w1.heap.size w1 w') (HN:∀ar w1,Sem.run Tryz.prog (callFunc N ar) w1=.ok (.enter N ar) w1):Calls Tryz.prog 45 #[.func (.func N) #[] cs] w fun e w'=>e=.returned (.agg (cW X))/\Below w.heap.size w w':=by
 replace CF:=aa CF
 replace HN:=aa HN
 go_enter Tryz.func45,Tryz.ntmps45
 go_upto_region 2 with(fail)
 simp only[kJ]
 have r:af ((w.alloc (.cells (cW fun _=>0) 101)).alloc (.cells (cW fun _=>0) 101)) w.heap.size (cW fun _=>0) 101:=(af.new _ _ _).alloc _
 have m:af ((w.alloc (.cells (cW fun _=>0) 101)).alloc (.cells (cW fun _=>0) 101)) (w.heap.size+1) (cW fun _=>0) 101:=af.new' sd
 have hB:Below w.heap.size w ((w.alloc (.cells (cW fun _=>0) 101)).alloc (.cells (cW fun _=>0) 101)):=by go_grown
 generalize((w.alloc (.cells (cW fun _=>0) 101)).alloc (.cells (cW fun _=>0) 101))=w0 at *
 have hne:w.heap.size≠w.heap.size+1:=oa
 go_wp2_with (fail)
 go_loopg [6] 4 (fun g_ iv wr=>∃i:Nat,g_+i=4/\iv=.int .i64 i/\af wr w.heap.size (cW fun _=>0) 101/\af wr (w.heap.size+1) (cW (iG X (i*4))) 101/\Below w.heap.size w wr)
 case atStart=>exact⟨0,rfl,rfl,r,by rw[vY X]at m;exact m,hB⟩
 case round=>
  clear r m hB
  obtain⟨i,hi,rfl,r,m,hB⟩:=hrel
  by_cases hin:i<4
  ·have hdi:decide ((i:Int)<4)=true:=dT oa
   have hdi':decide (i<4)=true:=dT hin
   have hi3:(i:Int)<4:=oa
   have hwi:IntKind.i64.wrap ((i:Int)+1)=((i+1:Nat):Int):=by rw[wI];omega
   go_wp2_with (fail)
   go_loopg [9] 4 (fun g_ iv wr=>∃k:Nat,g_+k=4/\iv=.int .i64 k/\af wr w.heap.size (cW fun _=>0) 101/\af wr (w.heap.size+1) (cW (iG X (i*4+k))) 101/\Below w.heap.size w wr)
   case atStart=>exact⟨0,rfl,rfl,r,m,hB⟩
   case round=>
    clear r m hB
    obtain⟨k,hk,rfl,r,m,hB⟩:=hrel
    by_cases hkn:k<4
    ·have hdk:decide ((k:Int)<4)=true:=dT oa
     have hdk':decide (k<4)=true:=dT hkn
     have hk3:(k:Int)<4:=oa
     have hwk:IntKind.i64.wrap ((k:Int)+1)=((k+1:Nat):Int):=by rw[wI];omega
     have CC:=aa (CF.out i k hin hkn)
     have ne_r_m:w.heap.size≠w.heap.size+1:=oa
     go_upto_region 8 with(fail)
     have lt_r:=r.lt
     have lt_m:=m.lt
     have hW0:w.heap.size<=wr.heap.size:=by simpa using hB.size
     apply a_ 9 [0,0,0,0,0,28,1,127,255] [] [_,_,_,_,_,_,_,_,(fun _=>undef)] (fun p L w'=>wr.heap.size<=w'.heap.size/\Below w.heap.size w w'/\af w' w.heap.size (cW (fun _=>0)) 101/\af w' (w.heap.size+1) (bif L 8 then(cW (iG X (i*4+k+1)))else(cW (iG X (i*4+k)))) 101) _ [(0,12),(1,13),(2,14),(3,15),(4,16),(5,17),(6,18),(7,19)] [0,1,2,3,4,5,6,7,8]
     case hn|hm|hB|hds|hA=>exact rA
     case h0=>exact rH
     case hmore=>exact rM
     case hs=>
      intro more
      iterate 5 (refine aH ?_)
      refine bS 5 rfl (fun p=>rfl) (fun _ _ _ h=>h) more ?_ ?_
      ·rintro p L w1 ⟨hsz,hB,r,m⟩ hk
       go_simp
       rw[HN.out]
       simp only[gU]
       exact(CC.out _ hB).mono rC
      iterate 2 (refine aH ?_)
      refine aw.cons ?_ ?_
      ·refine fJ 8 rfl (fun p=>rfl) (fun p=>rfl) (fun _=>(w.heap.size+1)) (i*4+k) (fun p=>.int .i64 (X (i*4+k))) (fun p=>(cW (iG X (i*4+k)))) (fun p=>(cW (iG X (i*4+k+1)))) 101 (fun p=>z7 X oa) ?_ ?_ ?_
       ·rintro p L w1 ⟨hsz,hB,r,m⟩ hk
        exact cg m hk.1
       ·intro p w1 hb
        have fz:w1.frozen? ⟨(w.heap.size+1),i*4+k,none⟩=false:=hb.free _
        have cz:∃u,w1.cell? ⟨(w.heap.size+1),i*4+k,none⟩=some u:=⟨_,hb.cellIs (cI _ oa)⟩
        obtain⟨u,cz⟩:=cz
        go_simp
        try exact⟨_,rfl,by first|exact .inl rfl|exact .inr rfl⟩
       ·rintro p L w1 ⟨hsz,hB,r,m⟩ hk
        refine⟨(by simpa using hsz),Below.setRow hB (by first|exact nk hW0 hp.1|exact ge_m|omega|(have:=hB.size;simp at this|-;omega)) _,r.rowOther ne_r_m _,?_⟩
        rw[show cD L 8 8=true from rfl]
        exact m.row _
      exact aw.nil
     case hV0=>exact fun p q=>aw.nil
     case he=>
     clear hB r m
     rintro p wrr ⟨hsz,hB,r,m⟩
     replace m:af wrr (w.heap.size+1) (cW (iG X (i*4+k+1))) 101:=m
     clear lt_r lt_m hsz hW0 CC
     go_wp2_with (fail)
     go_roundg (4-(k+1))
     case rel=>exact⟨k+1,oa,rfl,r,m,hB⟩
     case measure=>omega
    ·obtain rfl:k=4:=oa
     go_wp2_with (fail)
     go_roundg (4-(i+1))
     case rel=>exact⟨i+1,oa,rfl,r,by rw[show(i+1)*4=i*4+4 by omega];exact m,hB⟩
     case measure=>omega
  ·obtain rfl:i=4:=oa
   replace m:af wr (w.heap.size+1) (cW X) 101:=by rw[<-zr X];exact m
   go_wp2_with (first|(refine ac ?hw _ _ rfl _ rfl _ _ _ _ m Tryz.underlying101 rfl ?hi ?_;(case hw=>exact rW);(case hi=>exact rI))|(refine ag rfl _ _ _ rfl _ rfl _ rfl _ _ r rI (by first|rfl|simp only[bZ]) (by first|exact jp _|rfl) ?_))
   refine bodyPost_ret (results_cell_row rfl _ _ _ _ _ _ _ rfl (r.row (cW X)) Tryz.underlying101 rfl rI) rfl ?_;refine⟨rfl,Below.setRow hB oa _⟩
end Go.Proofs.YtbhahonkhiiilaaGreat
