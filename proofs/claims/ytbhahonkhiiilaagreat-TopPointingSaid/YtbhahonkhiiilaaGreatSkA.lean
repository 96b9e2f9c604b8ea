/-
  Sights: directions, and whether sights are valid.
-/
import Derived.Test.YtbhahonkhiiilaaGreatMac
set_option linter.unusedSimpArgs false
set_option linter.unusedVariables false
set_option maxRecDepth 100000
set_option maxHeartbeats 20000000
namespace Go.Proofs.YtbhahonkhiiilaaGreat
open Go.RowKit PM Dt
theorem gm {P:Program} {op:Oper} {a:Act} {w:World} (ty:TypeId) (x:Operand) (ho:op.op=.load ty x) (b o:Nat) (hx:a.eval x=.pointer (some ⟨b,o,none⟩))
 (C:List Value) (oo j0:Nat) (hr:w.rangeAt b oo C) (hoo:o=oo+j0) (cs:Array Value) (hc:∀j,j<cs.size->C[j0+j]?=cs[j]?) (d:TypeDesc)
 (hu:P.underlying ty=some d) (hd:d.isRow=true) (hi:(P.info? ty).map (·.size)=some cs.size) {v:Value} (hv:v=.agg cs):m8 v w ((execOp a.eval op).run P w):=by
 have hr2:w.rangeAt b o cs.toList:=fun j u hj=>by
  have h1:j<cs.toList.length:=(List.getElem?_eq_some_iff.1 hj).1
  have h2:cs[j]?=some u:=by simpa using hj
  have h3:=hr (j0+j) u ((hc j (by simpa using h1)).trans h2)
  rw[hoo,Nat.add_assoc]
  exact h3
 unfold execOp
 simp only[ho,hx,Instr.loadAt,Instr.sureAddr,Sem.run_bind,Sem.run_pure,Result.andThen_ok,run_loadVar_mid w b o ty cs.toList d hr2 hu hd (by simpa using hi)]
 exact⟨by rw[hv],rfl⟩
theorem fM {B:Nat} {w w':World} {b o:Nat} {C:List Value} (h:w.rangeAt b o C) (hb:Below B w w') (hl:b<B):w'.rangeAt b o C:=fun j u hj=>by
 rw[hb.cell (p:=⟨b,o+j,none⟩) hl];exact h j u hj
theorem Ln {n:Nat} {P:Nat->Prop} (h:n<3) (h0:P 0) (h1:P 1) (h2:P 2):P n:=by
 match n,h with
 |0,_=>exact h0
 |1,_=>exact h1
 |2,_=>exact h2
structure e_ where
 a:Nat->Int
 b:Nat->Int
 m:Int
def e_.zero:e_:=⟨fun _=>0,fun _=>0,0⟩
def cT (s:e_):Array Value:=#[.int .i64 (s.a 0),.int .i64 (s.a 1),.int .i64 (s.a 2),.int .i64 (s.b 0),.int .i64 (s.b 1),.int .i64 (s.b 2),.int .i64 s.m]
theorem ct (s:e_):(cT s).size=7:=rfl
theorem lP (s:e_):(cT s).all (·.oneCell')=true:=by simp[cT,Value.oneCell']
theorem l_:(#[.int .i64 0,.int .i64 0,.int .i64 0,.int .i64 0,.int .i64 0,.int .i64 0,.int .i64 0]:Array Value)=cT e_.zero:=rfl
theorem sZ (s u:e_):gc (cT s) 0 (cT u).toList=cT u:=rl rfl
theorem jG (s:e_) (j:Nat) (hj:j<(ah s.a).size):(cT s)[0+j]?=(ah s.a)[j]?:=by
 rw[ad]at hj
 rw[az _ hj]
 exact Ln (P:=fun j=>(cT s)[0+j]?=some (.int .i64 (s.a j))) hj rfl rfl rfl
theorem lw (s:e_) (j:Nat) (hj:j<(ah s.b).size):(cT s)[3+j]?=(ah s.b)[j]?:=by
 rw[ad]at hj
 rw[az _ hj]
 exact Ln (P:=fun j=>(cT s)[3+j]?=some (.int .i64 (s.b j))) hj rfl rfl rfl
theorem FQ (s:e_) (j:Nat) (hj:j<(cT s).size):(cT s).toList[0+j]?=(cT s)[j]?:=by rw[Nat.zero_add,Array.getElem?_toList]
def lp (f:Nat->Int):Bool:=(kW f==0)&&(decide (1073741760<=gW f)&&decide (gW f<=1073741888))
def dX (s:e_):Bool:=lp s.a&&(lp s.b&&(decide (1<=s.m)&&decide (s.m<=65535)))
def i5 (S:Nat->e_) (n:Nat):Bool:=decide (0<n)&&(decide (n<=16)&&(List.range n).all fun k=>dX (S k))
theorem Gr {S:Nat->e_} {n:Nat} (h:∀k,k<n->dX (S k)=true):i5 S n=(decide (0<n)&&decide (n<=16)):=by
 unfold i5
 rw[show((List.range n).all fun k=>dX (S k))=true from List.all_eq_true.2 fun k hk=>h k (List.mem_range.1 hk)]
 simp
theorem oH {S:Nat->e_} {n:Nat} {k:Nat} (hk:k<n) (h:dX (S k)=false):i5 S n=false:=by
 unfold i5
 rw[show((List.range n).all fun k=>dX (S k))=false from by
  cases hq:(List.range n).all fun k=>dX (S k)with
  |false=>rfl
  |true=>rw[List.all_eq_true]at hq;have:=hq k (List.mem_range.2 hk);rw[h]at this;cases this]
 simp
theorem ud (f:Nat->Int) (w:World):Calls Tryz.prog 100 #[.agg (ah f)] w fun e w'=>e=.returned (.bool (lp f))/\Below w.heap.size w w':=by
 have NO:=aa (fun w=>mH f w)
 unfold lp
 generalize gW f=N at *
 generalize kW f=E at *
 obtain⟨b0,h0⟩:∃b,(E==0)=b:=⟨_,rfl⟩
 obtain⟨b1,h1⟩:∃b,decide (1073741760<=N)=b:=⟨_,rfl⟩
 obtain⟨b2,h2⟩:∃b,decide (N<=1073741888)=b:=⟨_,rfl⟩
 rw[h0,h1,h2]
 have h0':decide (E=0)=b0:=by rw[<-h0];by_cases h:E=0<;>simp[h]
 cases b0<;>cases b1<;>cases b2
 all_goals
  go_enter Tryz.func100,Tryz.ntmps100
  go_upto_region 1 with(fail)
  have v:af (w.alloc (.cells (ah f) 25)) w.heap.size (ah f) 25:=af.new _ _ _
  have hB:Below w.heap.size w (w.alloc (.cells (ah f) 25)):=by go_grown
  generalize(w.alloc (.cells (ah f) 25))=w0 at *
  go_wp2_with (first
   |(refine ac ?hw _ _ rfl _ rfl _ _ _ _ v yc rfl ?hi ?_;(case hw=>exact rW);(case hi=>exact rI))
   |(go_at_call 10;with_reducible refine(NO.out _).mono ?_;rintro e w1 ⟨rfl,hb⟩;replace hB:=hB.trans (hb.mono hB.size);replace v:=v.below hb v.lt;clear hb))
  go_ret
  exact⟨by first|rfl|simp,hB⟩
theorem pL (S:Nat->e_) (a:Option Addr) (n c:Nat) (w:World) (el:iy w a n 7 (fun k=>(cT (S k)).toList)) (hn:n<=1000):Calls Tryz.prog 75 #[.slice a n c] w fun e w'=>e=.returned (.bool (i5 S n))/\Below w.heap.size w w':=by
 replace el:=aa el
 obtain⟨R,hR⟩:∃R,i5 S n=R:=⟨_,rfl⟩
 rw[hR]
 replace hR:=aa hR
 have hn2:(n:Int)<=1000:=oa
 have hB:Below w.heap.size w w:=Below.refl _ _
 go_enter Tryz.func75,Tryz.ntmps75
 go_wp2_with (fail)
 go_loopg [7] n (fun g_ iv wr=>∃K:Nat,g_+K=n/\iv=.int .i64 K/\Hid (∀j,j<K->dX (S j)=true)/\Below w.heap.size w wr)
 case atStart=>exact⟨0,oa,rfl,fun j hj=>by omega,hB⟩
 case round=>
  clear hB
  obtain⟨K,hK,rfl,hall,hB⟩:=hrel
  by_cases hKn:K<n
  ·have hdK:decide ((K:Int)<n)=true:=dT oa
   have hdK':decide (K<n)=true:=dT hKn
   have hk3:(K:Int)<n:=oa
   have hk0:(0:Int)<=K:=oa
   have hwK:IntKind.i64.wrap ((K:Int)+1)=((K+1:Nat):Int):=by rw[wI];omega
   obtain⟨eb,eo,rfl,hEl,hE⟩:=el.out K hKn
   replace hE:w.rangeAt eb (eo+K*7) ((cT (S K)).toList):=hE
   obtain⟨y,hy⟩:∃y,S K=y:=⟨_,rfl⟩
   rw[hy]at hE
   replace hy:=aa hy
   have D1:=aa (fun w=>ud y.a w)
   have D2:=aa (fun w=>ud y.b w)
   have hq:Hid (dX y=(lp y.a&&(lp y.b&&(decide (1<=y.m)&&decide (y.m<=65535))))):=rfl
   generalize lp y.a=b1 at *
   generalize lp y.b=b2 at *
   go_upto_region 3 with(fail)
   have hW0:w.heap.size<=wr.heap.size:=by simpa using hB.size
   apply ay 4 [0,1,3,7] [2] [_,_,(fun p=>.pointer (some ⟨p 2,0,none⟩)),(fun _=>undef)] (fun p L w'=>wr.heap.size<=w'.heap.size/\Below w.heap.size w w'/\(L 2=true->wr.heap.size<=p 2/\af w' (p 2) (bif L 3 then(cT y)else(cT e_.zero)) 111)) _ [(0,9),(1,10),(2,4)] [0,1,2,3]
   case hn|hB|hds|hA=>exact rA
   case h0=>exact rH
   case hmore=>exact rM
   case hs=>
    intro more
    refine aH ?_
    refine cm ?_ ?_
    ·rintro p L w1 ⟨hsz,hB,h_s⟩ hk
     have hr:=fM hE hB hEl
     exact gm _ _ rfl _ _ rfl _ (eo+K*7) 0 hr (by first|rfl|omega) (cT y) (FQ y) _ yg rfl (by rw[ct];kernel_rfl) rfl
    refine aw.cons ?_ ?_
    ·refine aP 2 rfl (fun p=>rfl) rfl (cT e_.zero) 111 (fun p=>rfl) ?_ ?_
     ·intro p w1
      go_simp
      first|rfl|rw[l_]
     rintro p L w1 ⟨hsz,hB,h_s⟩ hk
     have L3:L 3=false:=hk.2.2 3 rfl
     refine⟨nk hsz sd,hB.alloc (nk hW0 hsz) _,fun _=>⟨hsz,?_⟩⟩
     rw[show cD L 2 3=false from L3]
     exact af.new _ _ _
    refine aw.cons ?_ ?_
    ·refine aA 3 rfl (fun p=>rfl) (fun p=>rfl) _ _ _ rfl (fun p=>p 2) 0 (fun p=>rfl) (fun p=>(cT y)) (fun p=>rfl) (fun p=>(cT e_.zero)) (fun p=>(cT y)) 111 (fun p=>sZ _ _) (fun p=>by first|(rw[ct,ct];decide)|simp[ct,ct]) (fun p=>by rw[ct];kernel_rfl) (fun p=>lP _) ?_ ?_
     ·rintro p L w1 ⟨hsz,hB,h_s⟩ hk
      exact cg (h_s (hk.2.1 2 rfl)).2 hk.1
     ·rintro p L w1 ⟨hsz,hB,h_s⟩ hk
      have hp:=h_s (hk.2.1 2 rfl)
      refine⟨(by simpa using hsz),Below.setRow hB (nk hW0 hp.1) _,fun _=>⟨hp.1,?_⟩⟩
      rw[show cD L 3 3=true from rfl]
      exact hp.2.row _
    exact aw.nil
   case hV0=>exact rV
   case he=>
   clear hB
   rintro p wrr ⟨hsz,hB,h_s⟩
   obtain⟨le_s,s⟩:=h_s rfl
   clear h_s
   replace s:af wrr (p 2) (cT y) 111:=s
   have ge_s:w.heap.size<=p 2:=nk hW0 le_s
   generalize p 2=s_b at *
   clear hsz hW0 hE
   go_upto_region 4 with(fail)
   cases b1
   ·skip
    have hF:R=false:=by rw[<-hR.out];exact oH hKn (by rw[hy.out,hq.out];first|rfl|simp[dX])
    subst hF
    clear hR hq
    have lt_s:=s.lt
    have hW0:w.heap.size<=wrr.heap.size:=by simpa using hB.size
    apply ay 20 [0,1,3,7,15,31,63,127,255,511,1023,2047,4095,8191,16383,32767,65535,131071,262143,524287] [] [_,_,_,_,_,_,_,_,_,_,_,_,_,_,_,_,_,_,_,_] (fun p L w'=>wrr.heap.size<=w'.heap.size/\Below w.heap.size w w'/\af w' s_b (cT y) 111) _ [(0,11),(1,12),(2,13),(3,14),(4,15),(5,16),(6,17),(7,18),(8,19),(9,20),(10,21),(11,22),(12,23),(13,24),(14,25),(15,26),(16,27),(17,28),(18,29),(19,30)] [0,1,2,3,4,5,6,7,8,9,10,11,12,13,14,15,16,17,18,19]
    case hn|hB|hds|hA=>exact rA
    case h0=>exact rH
    case hmore=>exact rM
    case hs=>
     intro more
     refine aH ?_
     refine cm ?_ ?_
     ·rintro p L w1 ⟨hsz,hB,s⟩ hk
      exact aO _ _ rfl _ 0 rfl _ _ s (ah y.a) (jG y) _ yc rfl rI rfl
     refine bS 2 rfl (fun p=>rfl) (fun _ _ _ h=>h) more ?_ ?_
     ·rintro p L w1 ⟨hsz,hB,s⟩ hk
      go_simp
      exact(D1.out _).mono rC
     iterate 2 (refine aH ?_)
     iterate 4 (refine aw.cons (fQ _ rfl (fun p=>rfl) (fun p=>rfl) (fun _ _ _ h=>h)) ?_)
     iterate 2 (refine aH ?_)
     iterate 3 (refine aw.cons (fQ _ rfl (fun p=>rfl) (fun p=>rfl) (fun _ _ _ h=>h)) ?_)
     iterate 2 (refine aH ?_)
     iterate 3 (refine aw.cons (fQ _ rfl (fun p=>rfl) (fun p=>rfl) (fun _ _ _ h=>h)) ?_)
     refine aH ?_
     exact aw.nil
    case hV0=>exact fun p q=>aw.nil
    case he=>
    clear hB s
    rintro p wrrr ⟨hsz,hB,s⟩
    clear lt_s hsz hW0
    go_wp2_with (fail)
    go_ret
    exact⟨rfl,hB⟩
   cases b2
   ·skip
    have hF:R=false:=by rw[<-hR.out];exact oH hKn (by rw[hy.out,hq.out];first|rfl|simp[dX])
    subst hF
    clear hR hq
    have lt_s:=s.lt
    have hW0:w.heap.size<=wrr.heap.size:=by simpa using hB.size
    apply ay 20 [0,1,3,7,15,31,63,127,255,511,1023,2047,4095,8191,16383,32767,65535,131071,262143,524287] [] [_,_,_,_,_,_,_,_,_,_,_,_,_,_,_,_,_,_,_,_] (fun p L w'=>wrr.heap.size<=w'.heap.size/\Below w.heap.size w w'/\af w' s_b (cT y) 111) _ [(0,11),(1,12),(2,13),(3,14),(4,15),(5,16),(6,17),(7,18),(8,19),(9,20),(10,21),(11,22),(12,23),(13,24),(14,25),(15,26),(16,27),(17,28),(18,29),(19,30)] [0,1,2,3,4,5,6,7,8,9,10,11,12,13,14,15,16,17,18,19]
    case hn|hB|hds|hA=>exact rA
    case h0=>exact rH
    case hmore=>exact rM
    case hs=>
     intro more
     refine aH ?_
     refine cm ?_ ?_
     ·rintro p L w1 ⟨hsz,hB,s⟩ hk
      exact aO _ _ rfl _ 0 rfl _ _ s (ah y.a) (jG y) _ yc rfl rI rfl
     refine bS 2 rfl (fun p=>rfl) (fun _ _ _ h=>h) more ?_ ?_
     ·rintro p L w1 ⟨hsz,hB,s⟩ hk
      go_simp
      exact(D1.out _).mono rC
     iterate 2 (refine aH ?_)
     refine bQ _ rfl (fun p=>rW) (fun _ _ _ h=>h) (by intros;go_simp;exact⟨rfl,rfl⟩) ?_
     refine bQ 6 rfl (fun p=>rW) (fun _ _ _ h=>h) ?_ ?_
     ·rintro p L w1 ⟨hsz,hB,s⟩ hk
      exact aO _ _ rfl _ 3 rfl _ _ s (ah y.b) (lw y) _ yc rfl rI rfl
     refine bS 7 rfl (fun p=>rW) (fun _ _ _ h=>h) more ?_ ?_
     ·rintro p L w1 ⟨hsz,hB,s⟩ hk
      go_simp
      exact(D2.out _).mono rC
     refine bQ _ rfl (fun p=>rW) (fun _ _ _ h=>h) (by intros;go_simp;exact⟨rfl,rfl⟩) ?_
     iterate 2 (refine aH ?_)
     iterate 3 (refine aw.cons (fQ _ rfl (fun p=>rfl) (fun p=>rfl) (fun _ _ _ h=>h)) ?_)
     iterate 2 (refine aH ?_)
     iterate 3 (refine aw.cons (fQ _ rfl (fun p=>rfl) (fun p=>rfl) (fun _ _ _ h=>h)) ?_)
     refine aH ?_
     exact aw.nil
    case hV0=>exact fun p q=>aw.nil
    case he=>
    clear hB s
    rintro p wrrr ⟨hsz,hB,s⟩
    clear lt_s hsz hW0
    go_wp2_with (fail)
    go_ret
    exact⟨rfl,hB⟩
   by_cases m1:y.m<1
   ·have d1:decide (y.m<1)=true:=dT m1
    have d1b:decide (1<=y.m)=false:=dF oa
    have hF:R=false:=by rw[<-hR.out];exact oH hKn (by rw[hy.out,hq.out];first|rfl|simp[d1b])
    subst hF
    clear hR hq
    have lt_s:=s.lt
    have hW0:w.heap.size<=wrr.heap.size:=by simpa using hB.size
    apply ay 20 [0,1,3,7,15,31,63,127,255,511,1023,2047,4095,8191,16383,32767,65535,131071,262143,524287] [] [_,_,_,_,_,_,_,_,_,_,_,_,_,_,_,_,_,_,_,_] (fun p L w'=>wrr.heap.size<=w'.heap.size/\Below w.heap.size w w'/\af w' s_b (cT y) 111) _ [(0,11),(1,12),(2,13),(3,14),(4,15),(5,16),(6,17),(7,18),(8,19),(9,20),(10,21),(11,22),(12,23),(13,24),(14,25),(15,26),(16,27),(17,28),(18,29),(19,30)] [0,1,2,3,4,5,6,7,8,9,10,11,12,13,14,15,16,17,18,19]
    case hn|hB|hds|hA=>exact rA
    case h0=>exact rH
    case hmore=>exact rM
    case hs=>
     intro more
     refine aH ?_
     refine cm ?_ ?_
     ·rintro p L w1 ⟨hsz,hB,s⟩ hk
      exact aO _ _ rfl _ 0 rfl _ _ s (ah y.a) (jG y) _ yc rfl rI rfl
     refine bS 2 rfl (fun p=>rfl) (fun _ _ _ h=>h) more ?_ ?_
     ·rintro p L w1 ⟨hsz,hB,s⟩ hk
      go_simp
      exact(D1.out _).mono rC
     iterate 2 (refine aH ?_)
     refine bQ _ rfl (fun p=>rW) (fun _ _ _ h=>h) (by intros;go_simp;exact⟨rfl,rfl⟩) ?_
     refine bQ 6 rfl (fun p=>rW) (fun _ _ _ h=>h) ?_ ?_
     ·rintro p L w1 ⟨hsz,hB,s⟩ hk
      exact aO _ _ rfl _ 3 rfl _ _ s (ah y.b) (lw y) _ yc rfl rI rfl
     refine bS 7 rfl (fun p=>rW) (fun _ _ _ h=>h) more ?_ ?_
     ·rintro p L w1 ⟨hsz,hB,s⟩ hk
      go_simp
      exact(D2.out _).mono rC
     refine bQ _ rfl (fun p=>rW) (fun _ _ _ h=>h) (by intros;go_simp;exact⟨rfl,rfl⟩) ?_
     iterate 2 (refine aH ?_)
     refine bQ _ rfl (fun p=>rW) (fun _ _ _ h=>h) (by intros;go_simp;exact⟨rfl,rfl⟩) ?_
     refine bQ 12 rfl (fun p=>rW) (fun _ _ _ h=>h) ?_ ?_
     ·rintro p L w1 ⟨hsz,hB,s⟩ hk
      have hc:w1.cell? ⟨s_b,6,none⟩=some (.int .i64 y.m):=s.cellIs rfl
      go_simp
      exact⟨rfl,rfl⟩
     refine bQ _ rfl (fun p=>rW) (fun _ _ _ h=>h) (by intros;go_simp;exact⟨rfl,rfl⟩) ?_
     iterate 2 (refine aH ?_)
     iterate 3 (refine aw.cons (fQ _ rfl (fun p=>rfl) (fun p=>rfl) (fun _ _ _ h=>h)) ?_)
     refine aH ?_
     exact aw.nil
    case hV0=>exact fun p q=>aw.nil
    case he=>
    clear hB s
    rintro p wrrr ⟨hsz,hB,s⟩
    clear lt_s hsz hW0
    go_wp2_with (fail)
    go_ret
    exact⟨rfl,hB⟩
   have d1:decide (y.m<1)=false:=dF m1
   have d1b:decide (1<=y.m)=true:=dT oa
   by_cases m2:65535<y.m
   ·have d2:decide (65535<y.m)=true:=dT m2
    have d2b:decide (y.m<=65535)=false:=dF oa
    have hF:R=false:=by rw[<-hR.out];exact oH hKn (by rw[hy.out,hq.out];first|rfl|simp[d2b])
    subst hF
    clear hR hq
    have lt_s:=s.lt
    have hW0:w.heap.size<=wrr.heap.size:=by simpa using hB.size
    apply ay 20 [0,1,3,7,15,31,63,127,255,511,1023,2047,4095,8191,16383,32767,65535,131071,262143,524287] [] [_,_,_,_,_,_,_,_,_,_,_,_,_,_,_,_,_,_,_,_] (fun p L w'=>wrr.heap.size<=w'.heap.size/\Below w.heap.size w w'/\af w' s_b (cT y) 111) _ [(0,11),(1,12),(2,13),(3,14),(4,15),(5,16),(6,17),(7,18),(8,19),(9,20),(10,21),(11,22),(12,23),(13,24),(14,25),(15,26),(16,27),(17,28),(18,29),(19,30)] [0,1,2,3,4,5,6,7,8,9,10,11,12,13,14,15,16,17,18,19]
    case hn|hB|hds|hA=>exact rA
    case h0=>exact rH
    case hmore=>exact rM
    case hs=>
     intro more
     refine aH ?_
     refine cm ?_ ?_
     ·rintro p L w1 ⟨hsz,hB,s⟩ hk
      exact aO _ _ rfl _ 0 rfl _ _ s (ah y.a) (jG y) _ yc rfl rI rfl
     refine bS 2 rfl (fun p=>rfl) (fun _ _ _ h=>h) more ?_ ?_
     ·rintro p L w1 ⟨hsz,hB,s⟩ hk
      go_simp
      exact(D1.out _).mono rC
     iterate 2 (refine aH ?_)
     refine bQ _ rfl (fun p=>rW) (fun _ _ _ h=>h) (by intros;go_simp;exact⟨rfl,rfl⟩) ?_
     refine bQ 6 rfl (fun p=>rW) (fun _ _ _ h=>h) ?_ ?_
     ·rintro p L w1 ⟨hsz,hB,s⟩ hk
      exact aO _ _ rfl _ 3 rfl _ _ s (ah y.b) (lw y) _ yc rfl rI rfl
     refine bS 7 rfl (fun p=>rW) (fun _ _ _ h=>h) more ?_ ?_
     ·rintro p L w1 ⟨hsz,hB,s⟩ hk
      go_simp
      exact(D2.out _).mono rC
     refine bQ _ rfl (fun p=>rW) (fun _ _ _ h=>h) (by intros;go_simp;exact⟨rfl,rfl⟩) ?_
     iterate 2 (refine aH ?_)
     refine bQ _ rfl (fun p=>rW) (fun _ _ _ h=>h) (by intros;go_simp;exact⟨rfl,rfl⟩) ?_
     refine bQ 12 rfl (fun p=>rW) (fun _ _ _ h=>h) ?_ ?_
     ·rintro p L w1 ⟨hsz,hB,s⟩ hk
      have hc:w1.cell? ⟨s_b,6,none⟩=some (.int .i64 y.m):=s.cellIs rfl
      go_simp
      exact⟨rfl,rfl⟩
     refine bQ _ rfl (fun p=>rW) (fun _ _ _ h=>h) (by intros;go_simp;exact⟨rfl,rfl⟩) ?_
     iterate 2 (refine aH ?_)
     refine bQ _ rfl (fun p=>rW) (fun _ _ _ h=>h) (by intros;go_simp;exact⟨rfl,rfl⟩) ?_
     refine bQ 17 rfl (fun p=>rW) (fun _ _ _ h=>h) ?_ ?_
     ·rintro p L w1 ⟨hsz,hB,s⟩ hk
      have hc:w1.cell? ⟨s_b,6,none⟩=some (.int .i64 y.m):=s.cellIs rfl
      go_simp
      exact⟨rfl,rfl⟩
     refine bQ _ rfl (fun p=>rW) (fun _ _ _ h=>h) (by intros;go_simp;exact⟨rfl,rfl⟩) ?_
     refine aH ?_
     exact aw.nil
    case hV0=>exact fun p q=>aw.nil
    case he=>
    clear hB s
    rintro p wrrr ⟨hsz,hB,s⟩
    clear lt_s hsz hW0
    go_wp2_with (fail)
    go_ret
    exact⟨rfl,hB⟩
   have d2:decide (65535<y.m)=false:=dF m2
   replace m1:1<=y.m:=oa
   replace m2:y.m<=65535:=oa
   have lt_s:=s.lt
   have hW0:w.heap.size<=wrr.heap.size:=by simpa using hB.size
   apply ay 20 [0,1,3,7,15,31,63,127,255,511,1023,2047,4095,8191,16383,32767,65535,131071,262143,524287] [] [_,_,_,_,_,_,_,_,_,_,_,_,_,_,_,_,_,_,_,_] (fun p L w'=>wrr.heap.size<=w'.heap.size/\Below w.heap.size w w'/\af w' s_b (cT y) 111) _ [(0,11),(1,12),(2,13),(3,14),(4,15),(5,16),(6,17),(7,18),(8,19),(9,20),(10,21),(11,22),(12,23),(13,24),(14,25),(15,26),(16,27),(17,28),(18,29),(19,30)] [0,1,2,3,4,5,6,7,8,9,10,11,12,13,14,15,16,17,18,19]
   case hn|hB|hds|hA=>exact rA
   case h0=>exact rH
   case hmore=>exact rM
   case hs=>
    intro more
    refine aH ?_
    refine cm ?_ ?_
    ·rintro p L w1 ⟨hsz,hB,s⟩ hk
     exact aO _ _ rfl _ 0 rfl _ _ s (ah y.a) (jG y) _ yc rfl rI rfl
    refine bS 2 rfl (fun p=>rfl) (fun _ _ _ h=>h) more ?_ ?_
    ·rintro p L w1 ⟨hsz,hB,s⟩ hk
     go_simp
     exact(D1.out _).mono rC
    iterate 2 (refine aH ?_)
    refine bQ _ rfl (fun p=>rW) (fun _ _ _ h=>h) (by intros;go_simp;exact⟨rfl,rfl⟩) ?_
    refine bQ 6 rfl (fun p=>rW) (fun _ _ _ h=>h) ?_ ?_
    ·rintro p L w1 ⟨hsz,hB,s⟩ hk
     exact aO _ _ rfl _ 3 rfl _ _ s (ah y.b) (lw y) _ yc rfl rI rfl
    refine bS 7 rfl (fun p=>rW) (fun _ _ _ h=>h) more ?_ ?_
    ·rintro p L w1 ⟨hsz,hB,s⟩ hk
     go_simp
     exact(D2.out _).mono rC
    refine bQ _ rfl (fun p=>rW) (fun _ _ _ h=>h) (by intros;go_simp;exact⟨rfl,rfl⟩) ?_
    iterate 2 (refine aH ?_)
    refine bQ _ rfl (fun p=>rW) (fun _ _ _ h=>h) (by intros;go_simp;exact⟨rfl,rfl⟩) ?_
    refine bQ 12 rfl (fun p=>rW) (fun _ _ _ h=>h) ?_ ?_
    ·rintro p L w1 ⟨hsz,hB,s⟩ hk
     have hc:w1.cell? ⟨s_b,6,none⟩=some (.int .i64 y.m):=s.cellIs rfl
     go_simp
     exact⟨rfl,rfl⟩
    refine bQ _ rfl (fun p=>rW) (fun _ _ _ h=>h) (by intros;go_simp;exact⟨rfl,rfl⟩) ?_
    iterate 2 (refine aH ?_)
    refine bQ _ rfl (fun p=>rW) (fun _ _ _ h=>h) (by intros;go_simp;exact⟨rfl,rfl⟩) ?_
    refine bQ 17 rfl (fun p=>rW) (fun _ _ _ h=>h) ?_ ?_
    ·rintro p L w1 ⟨hsz,hB,s⟩ hk
     have hc:w1.cell? ⟨s_b,6,none⟩=some (.int .i64 y.m):=s.cellIs rfl
     go_simp
     exact⟨rfl,rfl⟩
    refine bQ _ rfl (fun p=>rW) (fun _ _ _ h=>h) (by intros;go_simp;exact⟨rfl,rfl⟩) ?_
    refine aH ?_
    exact aw.nil
   case hV0=>exact fun p q=>aw.nil
   case he=>
   clear hB s
   rintro p wrrr ⟨hsz,hB,s⟩
   clear lt_s hsz hW0
   go_wp2_with (fail)
   go_roundg (n-(K+1))
   case rel=>exact⟨K+1,oa,rfl,fun j hj=>by
    by_cases h:j<K
    ·exact hall.out j h
    ·obtain rfl:j=K:=oa
     rw[hy.out,hq.out];simp[m1,m2],hB⟩
   case measure=>omega
  ·obtain rfl:K=n:=oa
   have hdK:decide ((K:Int)<K)=false:=dF oa
   have hdK':decide (K<K)=false:=dF oa
   have e0:=Gr hall.out
   rw[hR.out]at e0
   clear hR
   obtain⟨c0,h0⟩:∃b,decide (0<K)=b:=⟨_,rfl⟩
   obtain⟨c1,h1⟩:∃b,decide (K<=16)=b:=⟨_,rfl⟩
   have h0':decide ((0:Int)<K)=c0:=by rw[<-h0];by_cases h:0<K<;>simp[h]
   have h1':decide ((K:Int)<=16)=c1:=by rw[<-h1];by_cases h:K<=16<;>simp[h]<;>omega
   rw[h0,h1]at e0
   subst e0
   clear hall
   cases c0<;>cases c1
   all_goals
    go_wp2_with (fail)
    go_ret
    exact⟨by first|rfl|simp,hB⟩
end Go.Proofs.YtbhahonkhiiilaaGreat
