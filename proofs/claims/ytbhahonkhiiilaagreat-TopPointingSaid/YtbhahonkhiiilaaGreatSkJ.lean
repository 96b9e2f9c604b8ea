/-
  The attitude of sights.
-/
import Derived.Test.YtbhahonkhiiilaaGreatMc
import Derived.Test.YtbhahonkhiiilaaGreatMac
import Derived.Test.YtbhahonkhiiilaaGreatSkG
set_option linter.unusedSimpArgs false
set_option linter.unusedVariables false
set_option maxHeartbeats 20000000
set_option maxRecDepth 100000
namespace Go.Proofs.YtbhahonkhiiilaaGreat
open Go.RowKit PM Dt
theorem oJ (a b:Nat->Int):gc (aj a) 0 (aj b).toList=aj b:=by unfold aj;rfl
theorem Kb (m:Nat->Int):∀j,j<16->bu (fU m j):=fun j _=>pF _ _ _
theorem Ky (S:Nat->e_) (n:Nat):∀j,j<16->bu (fK S n j):=fun j _=>pF _ _ _
theorem KC (m:Nat->Int):∀j,j<16->bu (eO m j):=fun j _=>IZ _ _
theorem GY {m:Nat->Int} (h:∀j,j<16->bu (m j)) (k:Nat):∀j,j<16->bu (je m k j):=by
 cases k with
 |zero=>exact h
 |succ k=>exact fun j _=>pF _ _ _
theorem JS (m:Nat->Int):bu (n7 m):=vl _
theorem Ab (m:Nat->Int) (b:Nat) (w:World) (p:af w b (cW m) 98) (hm:∀j,j<16->bu (m j)):Calls Tryz.prog 45 #[.func (.func 46) #[] #[.pointer (some ⟨b,0,none⟩)]] w fun e w'=>e=.returned (.agg (cW (fU m)))/\Below w.heap.size w w':=
 kq (fU m) _ _ w (fun i k hi hk w1 h1=>El m i k b w1 (p.below h1 p.lt) hm hi hk) (fun ar w1=>rfl)
theorem AS (m:Nat->Int) (b:Nat) (w:World) (p:af w b (cW m) 101) (hm:∀j,j<16->bu (m j)):Calls Tryz.prog 45 #[.func (.func 48) #[] #[.pointer (some ⟨b,0,none⟩)]] w fun e w'=>e=.returned (.agg (cW (eO m)))/\Below w.heap.size w w':=
 kq (eO m) _ _ w (fun i k hi hk w1 h1=>Dp m i k b w1 (p.below h1 p.lt) hm hi hk) (fun ar w1=>rfl)
theorem AW (m:Nat->Int) (t:Int) (b c:Nat) (w:World) (p:af w b (cW m) 101) (q:af w c #[.int .i64 t] 2) (hm:∀j,j<16->bu (m j)) (ht:bu t):Calls Tryz.prog 45 #[.func (.func 51) #[] #[.pointer (some ⟨b,0,none⟩),.pointer (some ⟨c,0,none⟩)]] w fun e w'=>e=.returned (.agg (cW (pY m t)))/\Below w.heap.size w w':=
 kq (pY m t) _ _ w (fun i k hi hk w1 h1=>BW m t i k b c w1 (p.below h1 p.lt) (q.below h1 q.lt) hm ht hi hk) (fun ar w1=>rfl)
theorem FO (F:Nat->Int):#[Value.int .i64 (F 0),.int .i64 (F 1),.int .i64 (F 2),.int .i64 (F 3)]=aj F:=by unfold aj;rfl
theorem wJ (S:Nat->e_) (a:Option Addr) (n c:Nat) (w:World) (el:iy w a n 7 (fun k=>(cT (S k)).toList)) (hn:n<=1000):Calls Tryz.prog 18 #[.slice a n c] w fun e w'=>e=.returned (.tuple #[.agg (aj (s7 S n)),.int .i64 (DV S n)])/\Below w.heap.size w w':=by
 have SP:=aa (fun w el=>vx S a n c w el hn)
 have MA:=aa (fun w el=>uz S a n c w el hn)
 replace el:=aa el
 unfold s7 DV D_
 unfold IM zy at SP
 unfold Il zy at MA
 have hm0:=aa (Ky S n)
 obtain⟨b1,h1⟩:∃b,i5 S n=b:=⟨_,rfl⟩
 rw[h1]at SP MA|-
 generalize oO S n n=G at *
 generalize fK S n=M at *
 clear h1 hn
 cases b1
 ·skip
  go_enter Tryz.func18,Tryz.ntmps18
  go_upto_region 1 with(fail)
  simp only[bP]
  have r:af (w.alloc (.cells (aj fun _=>0) 23)) w.heap.size (aj fun _=>0) 23:=af.new _ _ _
  have hB:Below w.heap.size w (w.alloc (.cells (aj fun _=>0) 23)):=by go_grown
  generalize(w.alloc (.cells (aj fun _=>0) 23))=w0 at *
  go_wp2_with (first|(go_at_call 43;with_reducible refine(SP.out _ (el.out.below hB)).mono ?_;rintro e w1 ⟨rfl,hb⟩;replace hB:=hB.trans (hb.mono hB.size);replace r:=r.below hb r.lt;clear hb)|(rw[bP];refine ag rfl _ _ _ rfl _ rfl _ rfl _ _ r rI (by first|rfl|simp only[ak]) (by first|exact bF _|rfl) ?_))
  refine bodyPost_ret (aq rfl _ _ _ _ _ _ _ rfl (r.row (aj fun _=>0)) yb rfl rI) rfl ?_
  refine⟨?_,Below.setRow hB oa _⟩
  rfl
 by_cases hG:536870912<=G
 case neg=>
  have d1:decide (G<536870912)=true:=dT oa
  have d2:decide (536870912<=G)=false:=dF hG
  rw[d2,if_neg hG]
  clear hG
  go_enter Tryz.func18,Tryz.ntmps18
  go_upto_region 1 with(fail)
  simp only[bP]
  have r:af (w.alloc (.cells (aj fun _=>0) 23)) w.heap.size (aj fun _=>0) 23:=af.new _ _ _
  have hB:Below w.heap.size w (w.alloc (.cells (aj fun _=>0) 23)):=by go_grown
  generalize(w.alloc (.cells (aj fun _=>0) 23))=w0 at *
  go_wp2_with (first|(go_at_call 43;with_reducible refine(SP.out _ (el.out.below hB)).mono ?_;rintro e w1 ⟨rfl,hb⟩;replace hB:=hB.trans (hb.mono hB.size);replace r:=r.below hb r.lt;clear hb)|(rw[bP];refine ag rfl _ _ _ rfl _ rfl _ rfl _ _ r rI (by first|rfl|simp only[ak]) (by first|exact bF _|rfl) ?_))
  refine bodyPost_ret (aq rfl _ _ _ _ _ _ _ rfl (r.row (aj fun _=>0)) yb rfl rI) rfl ?_
  refine⟨?_,Below.setRow hB oa _⟩
  first|rfl|simp
 have d1:decide (G<536870912)=false:=dF oa
 have d2:decide (536870912<=G)=true:=dT hG
 rw[d2,if_pos hG]
 clear hG
 obtain⟨RS,hRS⟩:∃RS,qB (je (fU M) 12)=RS:=⟨_,rfl⟩
 simp only[Bool.true_and,if_true]
 rw[hRS]
 replace hRS:=aa hRS
 go_enter Tryz.func18,Tryz.ntmps18
 go_upto_region 1 with(fail)
 simp only[bP]
 have r:af (w.alloc (.cells (aj fun _=>0) 23)) w.heap.size (aj fun _=>0) 23:=af.new _ _ _
 have hB:Below w.heap.size w (w.alloc (.cells (aj fun _=>0) 23)):=by go_grown
 generalize(w.alloc (.cells (aj fun _=>0) 23))=w0 at *
 go_upto_region 6 with((go_at_call 43;with_reducible refine(SP.out _ (el.out.below hB)).mono ?_;rintro e w1 ⟨rfl,hb⟩;replace hB:=hB.trans (hb.mono hB.size);replace r:=r.below hb r.lt;clear hb))
 clear SP
 have lt_r:=r.lt
 have hW0:w.heap.size<=w1.heap.size:=by simpa using hB.size
 apply ay 8 [0,1,3,7,15,31,63,127] [5] [_,_,_,_,_,(fun p=>.pointer (some ⟨p 5,0,none⟩)),(fun _=>undef),_] (fun p L w'=>w1.heap.size<=w'.heap.size/\Below w.heap.size w w'/\af w' w.heap.size (aj fun _=>0) 23/\(L 5=true->w1.heap.size<=p 5/\af w' (p 5) (bif L 6 then(cW M)else(cW fun _=>0)) 98)) _ [(0,30),(1,31),(2,29),(3,32),(4,33),(5,6),(7,7)] [0,1,2,3,4,5,6,7]
 case hn|hB|hds|hA=>exact rA
 case h0=>exact rH
 case hmore=>exact rM
 case hs=>
  intro more
  refine aH ?_
  refine bS 1 rfl (fun p=>rfl) (fun _ _ _ h=>h) more ?_ ?_
  ·rintro p L w1 ⟨hsz,hB,r,h_m⟩ hk
   go_simp
   exact(MA.out _ (el.out.below hB)).mono rC
  iterate 3 (refine aH ?_)
  refine aw.cons ?_ ?_
  ·refine aP 5 rfl (fun p=>rfl) rfl (cW fun _=>0) 98 (fun p=>rfl) ?_ ?_
   ·intro p w1
    go_simp
    first|done|rfl|rw[kJ]
   rintro p L w1 ⟨hsz,hB,r,h_m⟩ hk
   have L6:L 6=false:=hk.2.2 6 rfl
   refine⟨nk hsz sd,hB.alloc (nk hW0 hsz) _,r.alloc _,fun _=>⟨hsz,?_⟩⟩
   rw[show cD L 5 6=false from L6]
   exact af.new _ _ _
  refine aw.cons ?_ ?_
  ·refine aA 6 rfl (fun p=>rfl) (fun p=>rfl) _ _ _ rfl (fun p=>p 5) 0 (fun p=>rfl) (fun p=>(cW M)) (fun p=>rfl) (fun p=>(cW fun _=>0)) (fun p=>(cW M)) 98 (fun p=>sD _ _) (fun p=>by first|(rw[bZ,bZ];decide)|simp[bZ,bZ]) (fun p=>by rw[bZ];kernel_rfl) (fun p=>jp _) ?_ ?_
   ·rintro p L w1 ⟨hsz,hB,r,h_m⟩ hk
    exact cg (h_m (hk.2.1 5 rfl)).2 hk.1
   ·rintro p L w1 ⟨hsz,hB,r,h_m⟩ hk
    have hp:=h_m (hk.2.1 5 rfl)
    refine⟨(by simpa using hsz),Below.setRow hB (nk hW0 hp.1) _,r.rowOther (nL lt_r hp.1) _,fun _=>⟨hp.1,?_⟩⟩
    rw[show cD L 6 6=true from rfl]
    exact hp.2.row _
  refine aH ?_
  exact aw.nil
 case hV0=>exact rV
 case he=>
 clear hB r
 rintro p w1r ⟨hsz,hB,r,h_m⟩
 obtain⟨le_m,m⟩:=h_m rfl
 clear h_m
 replace m:af w1r (p 5) (cW M) 98:=m
 have ne_r_m:w.heap.size≠p 5:=nN (nq lt_r le_m)
 have ge_m:w.heap.size<=p 5:=nk hW0 le_m
 generalize p 5=m_b at *
 clear lt_r hsz hW0 MA
 go_upto_region 7 with(fail)
 have F1:=aa (fun w p=>Ab M m_b w p hm0.out)
 have lt_r:=r.lt
 have lt_m:=m.lt
 have hW0:w.heap.size<=w1r.heap.size:=by simpa using hB.size
 apply ay 4 [0,1,3,7] [2] [_,_,(fun p=>.pointer (some ⟨p 2,0,none⟩)),(fun _=>undef)] (fun p L w'=>w1r.heap.size<=w'.heap.size/\Below w.heap.size w w'/\af w' w.heap.size (aj fun _=>0) 23/\af w' m_b (cW M) 98/\(L 2=true->w1r.heap.size<=p 2/\af w' (p 2) (bif L 3 then(cW (fU M))else(cW fun _=>0)) 101)) _ [(0,34),(1,35),(2,8)] [0,1,2,3]
 case hn|hB|hds|hA=>exact rA
 case h0=>exact rH
 case hmore=>exact rM
 case hs=>
  intro more
  refine aH ?_
  refine bS 1 rfl (fun p=>rfl) (fun _ _ _ h=>h) more ?_ ?_
  ·rintro p L w1 ⟨hsz,hB,r,m,h_s⟩ hk
   go_simp
   exact(F1.out _ m).mono rC
  refine aw.cons ?_ ?_
  ·refine aP 2 rfl (fun p=>rfl) rfl (cW fun _=>0) 101 (fun p=>rfl) ?_ ?_
   ·intro p w1
    go_simp
    first|done|rfl|rw[kJ]
   rintro p L w1 ⟨hsz,hB,r,m,h_s⟩ hk
   have L3:L 3=false:=hk.2.2 3 rfl
   refine⟨nk hsz sd,hB.alloc (nk hW0 hsz) _,r.alloc _,m.alloc _,fun _=>⟨hsz,?_⟩⟩
   rw[show cD L 2 3=false from L3]
   exact af.new _ _ _
  refine aw.cons ?_ ?_
  ·refine aA 3 rfl (fun p=>rfl) (fun p=>rfl) _ _ _ rfl (fun p=>p 2) 0 (fun p=>rfl) (fun p=>(cW (fU M))) (fun p=>rfl) (fun p=>(cW fun _=>0)) (fun p=>(cW (fU M))) 101 (fun p=>sD _ _) (fun p=>by first|(rw[bZ,bZ];decide)|simp[bZ,bZ]) (fun p=>by rw[bZ];kernel_rfl) (fun p=>jp _) ?_ ?_
   ·rintro p L w1 ⟨hsz,hB,r,m,h_s⟩ hk
    exact cg (h_s (hk.2.1 2 rfl)).2 hk.1
   ·rintro p L w1 ⟨hsz,hB,r,m,h_s⟩ hk
    have hp:=h_s (hk.2.1 2 rfl)
    refine⟨(by simpa using hsz),Below.setRow hB (nk hW0 hp.1) _,r.rowOther (nL lt_r hp.1) _,m.rowOther (nL lt_m hp.1) _,fun _=>⟨hp.1,?_⟩⟩
    rw[show cD L 3 3=true from rfl]
    exact hp.2.row _
  exact aw.nil
 case hV0=>exact rV
 case he=>
 clear hB r m
 rintro p w1rr ⟨hsz,hB,r,m,h_s⟩
 obtain⟨le_s,s⟩:=h_s rfl
 clear h_s
 replace s:af w1rr (p 2) (cW (fU M)) 101:=s
 have ne_r_s:w.heap.size≠p 2:=nN (nq lt_r le_s)
 have ne_m_s:m_b≠p 2:=nN (nq lt_m le_s)
 have ge_s:w.heap.size<=p 2:=nk hW0 le_s
 generalize p 2=s_b at *
 clear lt_r lt_m hsz hW0 F1
 have hs0:=aa (Kb M)
 clear hm0 m
 replace s:af w1rr s_b (cW (je (fU M) 0)) 101:=s
 generalize fU M=H at *
 have ge_s2:=ge_s
 go_wp2_with (fail)
 go_loopg [36] 12 (fun g_ iv wr=>∃K:Nat,g_+K=12/\iv=.int .i64 K/\af wr w.heap.size (aj fun _=>0) 23/\af wr s_b (cW (je H K)) 101/\Below w.heap.size w wr)
 case atStart=>exact⟨0,rfl,rfl,r,s,hB⟩
 case round=>
  clear r s hB
  obtain⟨K,hK,rfl,r,s,hB⟩:=hrel
  by_cases hKn:K<12
  ·have hdK:decide ((K:Int)<12)=true:=dT oa
   have hdK':decide (K<12)=true:=dT hKn
   have hk3:(K:Int)<12:=oa
   have hwK:IntKind.i64.wrap ((K:Int)+1)=((K+1:Nat):Int):=by rw[wI];omega
   have hI:=aa (GY hs0.out K)
   obtain⟨X,hX⟩:∃X,je H K=X:=⟨_,rfl⟩
   have hX2:je H (K+1)=pY (eO X) (n7 (eO X)):=by rw[<-hX];rfl
   rw[hX]at hI s
   have F2:=aa (fun w p=>AS X s_b w p hI.out)
   have TR:=aa (fun w=>wW (eO X) w)
   have hP:=aa (KC X)
   have hT:=aa (JS (eO X))
   obtain⟨P,hPX⟩:∃P,eO X=P:=⟨_,rfl⟩
   rw[hPX]at F2 TR hP hT hX2
   obtain⟨t,htX⟩:∃t,n7 P=t:=⟨_,rfl⟩
   rw[htX]at TR hT hX2
   replace hX:=aa hX
   replace hX2:=aa hX2
   replace hPX:=aa hPX
   replace htX:=aa htX
   go_upto_region 10 with(fail)
   have lt_r:=r.lt
   have lt_s:=s.lt
   have hW0:w.heap.size<=wr.heap.size:=by simpa using hB.size
   apply ay 4 [0,1,3,7] [2] [_,_,(fun p=>.pointer (some ⟨p 2,0,none⟩)),(fun _=>undef)] (fun p L w'=>wr.heap.size<=w'.heap.size/\Below w.heap.size w w'/\af w' w.heap.size (aj fun _=>0) 23/\af w' s_b (cW X) 101/\(L 2=true->wr.heap.size<=p 2/\af w' (p 2) (bif L 3 then(cW P)else(cW fun _=>0)) 101)) _ [(0,38),(1,39),(2,9)] [0,1,2,3]
   case hn|hB|hds|hA=>exact rA
   case h0=>exact rH
   case hmore=>exact rM
   case hs=>
    intro more
    refine aH ?_
    refine bS 1 rfl (fun p=>rfl) (fun _ _ _ h=>h) more ?_ ?_
    ·rintro p L w1 ⟨hsz,hB,r,s,h_p1⟩ hk
     go_simp
     exact(F2.out _ s).mono rC
    refine aw.cons ?_ ?_
    ·refine aP 2 rfl (fun p=>rfl) rfl (cW fun _=>0) 101 (fun p=>rfl) ?_ ?_
     ·intro p w1
      go_simp
      first|done|rfl|rw[kJ]
     rintro p L w1 ⟨hsz,hB,r,s,h_p1⟩ hk
     have L3:L 3=false:=hk.2.2 3 rfl
     refine⟨nk hsz sd,hB.alloc (nk hW0 hsz) _,r.alloc _,s.alloc _,fun _=>⟨hsz,?_⟩⟩
     rw[show cD L 2 3=false from L3]
     exact af.new _ _ _
    refine aw.cons ?_ ?_
    ·refine aA 3 rfl (fun p=>rfl) (fun p=>rfl) _ _ _ rfl (fun p=>p 2) 0 (fun p=>rfl) (fun p=>(cW P)) (fun p=>rfl) (fun p=>(cW fun _=>0)) (fun p=>(cW P)) 101 (fun p=>sD _ _) (fun p=>by first|(rw[bZ,bZ];decide)|simp[bZ,bZ]) (fun p=>by rw[bZ];kernel_rfl) (fun p=>jp _) ?_ ?_
     ·rintro p L w1 ⟨hsz,hB,r,s,h_p1⟩ hk
      exact cg (h_p1 (hk.2.1 2 rfl)).2 hk.1
     ·rintro p L w1 ⟨hsz,hB,r,s,h_p1⟩ hk
      have hp:=h_p1 (hk.2.1 2 rfl)
      refine⟨(by simpa using hsz),Below.setRow hB (nk hW0 hp.1) _,r.rowOther (nL lt_r hp.1) _,s.rowOther (nL lt_s hp.1) _,fun _=>⟨hp.1,?_⟩⟩
      rw[show cD L 3 3=true from rfl]
      exact hp.2.row _
    exact aw.nil
   case hV0=>exact rV
   case he=>
   clear hB r s
   rintro p wrr ⟨hsz,hB,r,s,h_p1⟩
   obtain⟨le_p1,p1⟩:=h_p1 rfl
   clear h_p1
   replace p1:af wrr (p 2) (cW P) 101:=p1
   have ne_r_p1:w.heap.size≠p 2:=nN (nq lt_r le_p1)
   have ne_s_p1:s_b≠p 2:=nN (nq lt_s le_p1)
   have ge_p1:w.heap.size<=p 2:=nk hW0 le_p1
   generalize p 2=p1_b at *
   clear lt_r lt_s hsz hW0 F2
   go_upto_region 11 with(fail)
   have lt_r:=r.lt
   have lt_s:=s.lt
   have lt_p1:=p1.lt
   have hW0:w.heap.size<=wrr.heap.size:=by simpa using hB.size
   apply ay 4 [0,1,3,7] [2] [_,_,(fun p=>.pointer (some ⟨p 2,0,none⟩)),(fun _=>undef)] (fun p L w'=>wrr.heap.size<=w'.heap.size/\Below w.heap.size w w'/\af w' w.heap.size (aj fun _=>0) 23/\af w' s_b (cW X) 101/\af w' p1_b (cW P) 101/\(L 2=true->wrr.heap.size<=p 2/\af w' (p 2) (bif L 3 then#[.int .i64 t]else#[.int .i64 0]) 2)) _ [(0,40),(1,41),(2,10)] [0,1,2,3]
   case hn|hB|hds|hA=>exact rA
   case h0=>exact rH
   case hmore=>exact rM
   case hs=>
    intro more
    refine cm ?_ ?_
    ·rintro p L w1 ⟨hsz,hB,r,s,p1,h_sm⟩ hk
     first|exact br _ _ rfl _ rfl _ _ p1 _ Tryz.underlying101 rfl rI rfl|(have hc:=p1.cellIs (cI _ (show 0<16 by omega));go_simp;exact⟨rfl,rfl⟩)
    refine bS 1 rfl (fun p=>rfl) (fun _ _ _ h=>h) more ?_ ?_
    ·rintro p L w1 ⟨hsz,hB,r,s,p1,h_sm⟩ hk
     go_simp
     exact(TR.out _).mono rC
    refine aw.cons ?_ ?_
    ·refine aP 2 rfl (fun p=>rfl) rfl #[.int .i64 0] 2 (fun p=>rfl) ?_ ?_
     ·intro p w1
      go_simp
      first|done|rfl|fail
     rintro p L w1 ⟨hsz,hB,r,s,p1,h_sm⟩ hk
     have L3:L 3=false:=hk.2.2 3 rfl
     refine⟨nk hsz sd,hB.alloc (nk hW0 hsz) _,r.alloc _,s.alloc _,p1.alloc _,fun _=>⟨hsz,?_⟩⟩
     rw[show cD L 2 3=false from L3]
     exact af.new _ _ _
    refine aw.cons ?_ ?_
    ·refine fJ 3 rfl (fun p=>rfl) (fun p=>rfl) (fun p=>p 2) (0) (fun p=>.int .i64 t) (fun p=>#[.int .i64 0]) (fun p=>#[.int .i64 t]) 2 (fun p=>rfl) ?_ ?_ ?_
     ·rintro p L w1 ⟨hsz,hB,r,s,p1,h_sm⟩ hk
      exact cg (h_sm (hk.2.1 2 rfl)).2 hk.1
     ·intro p w1 hb
      have fz:w1.frozen? ⟨(p 2),0,none⟩=false:=hb.free _
      have cz:∃u,w1.cell? ⟨(p 2),0,none⟩=some u:=⟨_,hb.cellIs (rfl)⟩
      obtain⟨u,cz⟩:=cz
      go_simp
      try exact⟨_,rfl,by first|exact .inl rfl|exact .inr rfl⟩
     ·rintro p L w1 ⟨hsz,hB,r,s,p1,h_sm⟩ hk
      have hp:=h_sm (hk.2.1 2 rfl)
      refine⟨(by simpa using hsz),Below.setRow hB (nk hW0 hp.1) _,r.rowOther (nL lt_r hp.1) _,s.rowOther (nL lt_s hp.1) _,p1.rowOther (nL lt_p1 hp.1) _,fun _=>⟨hp.1,?_⟩⟩
      rw[show cD L 3 3=true from rfl]
      exact hp.2.row _
    exact aw.nil
   case hV0=>exact rV
   case he=>
   clear hB r s p1
   rintro p wrrr ⟨hsz,hB,r,s,p1,h_sm⟩
   obtain⟨le_sm,sm⟩:=h_sm rfl
   clear h_sm
   replace sm:af wrrr (p 2) #[.int .i64 t] 2:=sm
   have ne_r_sm:w.heap.size≠p 2:=nN (nq lt_r le_sm)
   have ne_s_sm:s_b≠p 2:=nN (nq lt_s le_sm)
   have ne_p1_sm:p1_b≠p 2:=nN (nq lt_p1 le_sm)
   have ge_sm:w.heap.size<=p 2:=nk hW0 le_sm
   generalize p 2=sm_b at *
   clear lt_r lt_s lt_p1 hsz hW0 TR
   go_upto_region 12 with(fail)
   have F3:=aa (fun w p q=>AW P t p1_b sm_b w p q hP.out hT.out)
   have lt_r:=r.lt
   have lt_s:=s.lt
   have lt_p1:=p1.lt
   have lt_sm:=sm.lt
   have hW0:w.heap.size<=wrrr.heap.size:=by simpa using hB.size
   apply ay 3 [0,1,3] [] [_,_,(fun _=>undef)] (fun p L w'=>wrrr.heap.size<=w'.heap.size/\Below w.heap.size w w'/\af w' w.heap.size (aj fun _=>0) 23/\af w' s_b (bif L 2 then(cW (pY P t))else(cW X)) 101/\af w' p1_b (cW P) 101/\af w' sm_b #[.int .i64 t] 2) _ [(0,42),(1,43)] [0,1,2]
   case hn|hB|hds|hA=>exact rA
   case h0=>exact rH
   case hmore=>exact rM
   case hs=>
    intro more
    refine aH ?_
    refine bS 1 rfl (fun p=>rfl) (fun _ _ _ h=>h) more ?_ ?_
    ·rintro p L w1 ⟨hsz,hB,r,s,p1,sm⟩ hk
     go_simp
     exact(F3.out _ p1 sm).mono rC
    refine aw.cons ?_ ?_
    ·refine aA 2 rfl (fun p=>rfl) (fun p=>rfl) _ _ _ rfl (fun _=>s_b) 0 (fun p=>rfl) (fun p=>(cW (pY P t))) (fun p=>rfl) (fun p=>(cW X)) (fun p=>(cW (pY P t))) 101 (fun p=>sD _ _) (fun p=>by first|(rw[bZ,bZ];decide)|simp[bZ,bZ]) (fun p=>by rw[bZ];kernel_rfl) (fun p=>jp _) ?_ ?_
     ·rintro p L w1 ⟨hsz,hB,r,s,p1,sm⟩ hk
      exact cg s hk.1
     ·rintro p L w1 ⟨hsz,hB,r,s,p1,sm⟩ hk
      refine⟨(by simpa using hsz),Below.setRow hB (by first|exact nk hW0 hp.1|exact ge_s|omega|(have:=hB.size;simp at this|-;omega)) _,r.rowOther ne_r_s _,?_,p1.rowOther (Ne.symm ne_s_p1) _,sm.rowOther (Ne.symm ne_s_sm) _⟩
      rw[show cD L 2 2=true from rfl]
      exact s.row _
    exact aw.nil
   case hV0=>exact fun p q=>aw.nil
   case he=>
   clear hB r s p1 sm
   rintro p wrrrr ⟨hsz,hB,r,s,p1,sm⟩
   replace s:af wrrrr s_b (cW (pY P t)) 101:=s
   clear lt_r lt_s lt_p1 lt_sm hsz hW0 F3
   go_wp2_with (fail)
   go_roundg (12-(K+1))
   case rel=>exact⟨K+1,oa,rfl,r,by rw[hX2.out];exact s,hB⟩
   case measure=>omega
  ·obtain rfl:K=12:=oa
   have hI:=aa (GY hs0.out 12)
   obtain⟨X,hX⟩:∃X,je H 12=X:=⟨_,rfl⟩
   rw[hX]at s hI hRS
   clear hX hs0
   go_wp2_with (fail)
   go_loopg [45,11] 4 (fun g_ iv jb wr=>∃k:Nat,g_+k=4/\iv=.int .i64 k/\jb=.int .i64 (l9 X k)/\af wr w.heap.size (aj fun _=>0) 23/\af wr s_b (cW X) 101/\Below w.heap.size w wr)
   case atStart=>exact⟨0,rfl,rfl,rfl,r,s,hB⟩
   case round=>
    clear r s hB
    obtain⟨k,hk,rfl,rfl,r,s,hB⟩:=hrel
    by_cases hkn:k<4
    ·have hdk:decide ((k:Int)<4)=true:=dT oa
     have hdk':decide (k<4)=true:=dT hkn
     have hk3:(k:Int)<4:=oa
     have hwk:IntKind.i64.wrap ((k:Int)+1)=((k+1:Nat):Int):=by rw[wI];omega
     have hbl:=wg X k oa
     have hst:l9 X (k+1)=if X (l9 X k*5)<X (k*5)then k else l9 X k:=rfl
     obtain⟨bs,hbs⟩:∃bs,l9 X k=bs:=⟨_,rfl⟩
     rw[hbs]at hst hbl|-
     have hdb:decide ((bs:Int)<4)=true:=dT oa
     have hdb':decide (bs<4)=true:=dT hbl
     have hb3:(bs:Int)<4:=oa
     replace hbs:=aa hbs
     have q1:Hid (k*4+k=k*5):=by show _=_;omega
     have q2:Hid (bs*4+bs=bs*5):=by show _=_;omega
     rw[<-q1.out,<-q2.out]at hst
     clear q1 q2
     by_cases hlt:X (bs*4+bs)<X (k*4+k)
     ·have hdl:decide (X (bs*4+bs)<X (k*4+k))=true:=dT hlt
      rw[if_pos hlt]at hst
      replace hst:=aa hst
      clear hlt
      go_upto_region 18 with(fail)
      have lt_r:=r.lt
      have lt_s:=s.lt
      have hW0:w.heap.size<=wr.heap.size:=by simpa using hB.size
      apply a_ 11 [0,0,1,7,15,0,0,32,224,480,1023] [] [_,_,_,_,_,_,_,_,_,_,_] (fun p L w'=>wr.heap.size<=w'.heap.size/\Below w.heap.size w w'/\af w' w.heap.size (aj fun _=>0) 23/\af w' s_b (cW X) 101) _ [(0,48),(1,49),(2,50),(3,51),(4,52),(5,53),(6,54),(7,55),(8,56),(9,57),(10,58)] [0,1,2,3,4,5,6,7,8,9,10]
      case hn|hm|hB|hds|hA=>exact rA
      case h0=>exact rH
      case hmore=>exact rM
      case hs=>
       intro more
       iterate 4 (refine aH ?_)
       refine cm ?_ ?_
       ·rintro p L w1 ⟨hsz,hB,r,s⟩ hk
        have hc:w1.cell? ⟨s_b,k*4+k,none⟩=some (.int .i64 (X (k*4+k))):=s.cellIs (cI X oa)
        go_simp
        exact⟨rfl,rfl⟩
       iterate 4 (refine aH ?_)
       refine cm ?_ ?_
       ·rintro p L w1 ⟨hsz,hB,r,s⟩ hk
        have hc:w1.cell? ⟨s_b,bs*4+bs,none⟩=some (.int .i64 (X (bs*4+bs))):=s.cellIs (cI X oa)
        go_simp
        exact⟨rfl,rfl⟩
       refine aH ?_
       exact aw.nil
      case hV0=>exact fun p q=>aw.nil
      case he=>
      clear hB r s
      rintro p wrr ⟨hsz,hB,r,s⟩
      clear lt_r lt_s hsz hW0
      go_wp2_with (fail)
      go_roundg (4-(k+1))
      case rel=>exact⟨k+1,oa,rfl,by rw[hst.out],r,s,hB⟩
      case measure=>omega
     have hdl:decide (X (bs*4+bs)<X (k*4+k))=false:=dF hlt
     rw[if_neg hlt]at hst
     replace hst:=aa hst
     clear hlt
     go_upto_region 18 with(fail)
     have lt_r:=r.lt
     have lt_s:=s.lt
     have hW0:w.heap.size<=wr.heap.size:=by simpa using hB.size
     apply a_ 11 [0,0,1,7,15,0,0,32,224,480,1023] [] [_,_,_,_,_,_,_,_,_,_,_] (fun p L w'=>wr.heap.size<=w'.heap.size/\Below w.heap.size w w'/\af w' w.heap.size (aj fun _=>0) 23/\af w' s_b (cW X) 101) _ [(0,48),(1,49),(2,50),(3,51),(4,52),(5,53),(6,54),(7,55),(8,56),(9,57),(10,58)] [0,1,2,3,4,5,6,7,8,9,10]
     case hn|hm|hB|hds|hA=>exact rA
     case h0=>exact rH
     case hmore=>exact rM
     case hs=>
      intro more
      iterate 4 (refine aH ?_)
      refine cm ?_ ?_
      ·rintro p L w1 ⟨hsz,hB,r,s⟩ hk
       have hc:w1.cell? ⟨s_b,k*4+k,none⟩=some (.int .i64 (X (k*4+k))):=s.cellIs (cI X oa)
       go_simp
       exact⟨rfl,rfl⟩
      iterate 4 (refine aH ?_)
      refine cm ?_ ?_
      ·rintro p L w1 ⟨hsz,hB,r,s⟩ hk
       have hc:w1.cell? ⟨s_b,bs*4+bs,none⟩=some (.int .i64 (X (bs*4+bs))):=s.cellIs (cI X oa)
       go_simp
       exact⟨rfl,rfl⟩
      refine aH ?_
      exact aw.nil
     case hV0=>exact fun p q=>aw.nil
     case he=>
     clear hB r s
     rintro p wrr ⟨hsz,hB,r,s⟩
     clear lt_r lt_s hsz hW0
     go_wp2_with (fail)
     go_roundg (4-(k+1))
     case rel=>exact⟨k+1,oa,rfl,by rw[hst.out],r,s,hB⟩
     case measure=>omega
    ·obtain rfl:k=4:=oa
     have hbl:=wg X 4 oa
     unfold qB at hRS
     obtain⟨bs,hbs⟩:∃bs,l9 X 4=bs:=⟨_,rfl⟩
     rw[hbs]at hbl hRS
     rw[hbs]
     clear hbs
     have hdb:decide ((bs:Int)<4)=true:=dT oa
     have hdb':decide (bs<4)=true:=dT hbl
     have hb3:(bs:Int)<4:=oa
     have UN:=aa (fun w=>rm (d_ X bs) w)
     rw[show aj (d_ X bs)=#[.int .i64 (X bs),.int .i64 (X (4+bs)),.int .i64 (X (8+bs)),.int .i64 (X (12+bs))]from by unfold aj d_;rfl]at UN
     generalize te (d_ X bs)=QE at *
     generalize df (d_ X bs)=Q at *
     go_upto_region 21 with(fail)
     have lt_r:=r.lt
     have lt_s:=s.lt
     have hW0:w.heap.size<=wr.heap.size:=by simpa using hB.size
     apply a_ 24 [0,0,3,7,0,0,48,112,0,0,768,1792,0,0,12288,28672,65535,131071,262143,524287,524287,0,3145727,8388607] [21] [_,_,_,_,_,_,_,_,_,_,_,_,_,_,_,_,_,_,_,_,_,(fun p=>.pointer (some ⟨p 21,0,none⟩)),(fun _=>undef),_] (fun p L w'=>wr.heap.size<=w'.heap.size/\Below w.heap.size w w'/\af w' w.heap.size (aj fun _=>0) 23/\af w' s_b (cW X) 101/\(L 21=true->wr.heap.size<=p 21/\af w' (p 21) (bif L 22 then(aj Q)else(aj fun _=>0)) 23)) _ [(0,62),(1,63),(2,64),(3,65),(4,66),(5,67),(6,68),(7,69),(8,70),(9,71),(10,72),(11,73),(12,74),(13,75),(14,76),(15,77),(16,78),(17,79),(18,61),(19,80),(20,81),(21,13),(23,14)] [0,1,2,3,4,5,6,7,8,9,10,11,12,13,14,15,16,17,18,19,20,21,22,23]
     case hn|hm|hB|hds|hA=>exact rA
     case h0=>exact rH
     case hmore=>exact rM
     case hs=>
      intro more
      iterate 3 (refine aH ?_)
      refine cm ?_ ?_
      ·rintro p L w1 ⟨hsz,hB,r,s,h_qq⟩ hk
       have hc:w1.cell? ⟨s_b,bs,none⟩=some (.int .i64 (X bs)):=s.cellIs (cI X oa)
       go_simp
       exact⟨rfl,rfl⟩
      iterate 3 (refine aH ?_)
      refine cm ?_ ?_
      ·rintro p L w1 ⟨hsz,hB,r,s,h_qq⟩ hk
       have hc:w1.cell? ⟨s_b,4+bs,none⟩=some (.int .i64 (X (4+bs))):=s.cellIs (cI X oa)
       go_simp
       exact⟨rfl,rfl⟩
      iterate 3 (refine aH ?_)
      refine cm ?_ ?_
      ·rintro p L w1 ⟨hsz,hB,r,s,h_qq⟩ hk
       have hc:w1.cell? ⟨s_b,8+bs,none⟩=some (.int .i64 (X (8+bs))):=s.cellIs (cI X oa)
       go_simp
       exact⟨rfl,rfl⟩
      iterate 3 (refine aH ?_)
      refine cm ?_ ?_
      ·rintro p L w1 ⟨hsz,hB,r,s,h_qq⟩ hk
       have hc:w1.cell? ⟨s_b,12+bs,none⟩=some (.int .i64 (X (12+bs))):=s.cellIs (cI X oa)
       go_simp
       exact⟨rfl,rfl⟩
      refine cm ?_ ?_
      ·intros;(try simp only[ah,aj]);go_simp;exact⟨rfl,rfl⟩
      refine bS 17 rfl (fun p=>rfl) (fun _ _ _ h=>h) more ?_ ?_
      ·rintro p L w1 ⟨hsz,hB,r,s,h_qq⟩ hk
       go_simp
       exact(UN.out _).mono rC
      iterate 3 (refine aH ?_)
      refine aw.cons ?_ ?_
      ·refine aP 21 rfl (fun p=>rfl) rfl (aj fun _=>0) 23 (fun p=>rfl) ?_ ?_
       ·intro p w1
        go_simp
        first|done|rfl|rw[bP]
       rintro p L w1 ⟨hsz,hB,r,s,h_qq⟩ hk
       have L22:L 22=false:=hk.2.2 22 rfl
       refine⟨nk hsz sd,hB.alloc (nk hW0 hsz) _,r.alloc _,s.alloc _,fun _=>⟨hsz,?_⟩⟩
       rw[show cD L 21 22=false from L22]
       exact af.new _ _ _
      refine aw.cons ?_ ?_
      ·refine aA 22 rfl (fun p=>rfl) (fun p=>rfl) _ _ _ rfl (fun p=>p 21) 0 (fun p=>rfl) (fun p=>(aj Q)) (fun p=>rfl) (fun p=>(aj fun _=>0)) (fun p=>(aj Q)) 23 (fun p=>oJ _ _) (fun p=>by first|(rw[ak,ak];decide)|simp[ak,ak]) (fun p=>by rw[ak];kernel_rfl) (fun p=>bF _) ?_ ?_
       ·rintro p L w1 ⟨hsz,hB,r,s,h_qq⟩ hk
        exact cg (h_qq (hk.2.1 21 rfl)).2 hk.1
       ·rintro p L w1 ⟨hsz,hB,r,s,h_qq⟩ hk
        have hp:=h_qq (hk.2.1 21 rfl)
        refine⟨(by simpa using hsz),Below.setRow hB (nk hW0 hp.1) _,r.rowOther (nL lt_r hp.1) _,s.rowOther (nL lt_s hp.1) _,fun _=>⟨hp.1,?_⟩⟩
        rw[show cD L 22 22=true from rfl]
        exact hp.2.row _
      refine aH ?_
      exact aw.nil
     case hV0=>exact rV
     case he=>
     clear hB r s
     rintro p wrr ⟨hsz,hB,r,s,h_qq⟩
     obtain⟨le_qq,qq⟩:=h_qq rfl
     clear h_qq
     replace qq:af wrr (p 21) (aj Q) 23:=qq
     have ne_r_qq:w.heap.size≠p 21:=nN (nq lt_r le_qq)
     have ne_s_qq:s_b≠p 21:=nN (nq lt_s le_qq)
     have ge_qq:w.heap.size<=p 21:=nk hW0 le_qq
     generalize p 21=qq_b at *
     clear lt_r lt_s hsz hW0 UN
     have cq:wrr.cell? ⟨qq_b,0,none⟩=some (.int .i64 (Q 0)):=qq.cellIs (aD Q oa)
     by_cases h0:Q 0<0
     ·have d0:decide (Q 0<0)=true:=dT h0
      have hN:sG Q=mI Q:=by unfold sG;rw[if_pos h0]
      rw[hN]at hRS
      clear hN h0
      have n0:IntKind.i64.wrap (-Q 0)=mI Q 0:=by rw[j3];rfl
      have n1:IntKind.i64.wrap (-Q 1)=mI Q 1:=by rw[j3];rfl
      have n2:IntKind.i64.wrap (-Q 2)=mI Q 2:=by rw[j3];rfl
      have n3:IntKind.i64.wrap (-Q 3)=mI Q 3:=by rw[j3];rfl
      go_upto_region 23 with(fail)
      clear cq
      have lt_r:=r.lt
      have lt_s:=s.lt
      have lt_qq:=qq.lt
      have hW0:w.heap.size<=wrr.heap.size:=by simpa using hB.size
      apply ay 14 [0,1,3,7,15,31,63,127,255,511,1023,2047,4095,8191] [] [_,_,_,_,_,_,_,_,_,_,_,_,_,(fun _=>undef)] (fun p L w'=>wrr.heap.size<=w'.heap.size/\Below w.heap.size w w'/\af w' w.heap.size (aj fun _=>0) 23/\af w' s_b (cW X) 101/\af w' qq_b (bif L 13 then(aj (mI Q))else(aj Q)) 23) _ [(0,85),(1,86),(2,87),(3,88),(4,89),(5,90),(6,91),(7,92),(8,93),(9,94),(10,95),(11,96),(12,97)] [0,1,2,3,4,5,6,7,8,9,10,11,12,13]
      case hn|hB|hds|hA=>exact rA
      case h0=>exact rH
      case hmore=>exact rM
      case hs=>
       intro more
       refine aH ?_
       refine cm ?_ ?_
       ·rintro p L w1 ⟨hsz,hB,r,s,qq⟩ hk
        have L13:L 13=false:=hk.2.2 13 rfl
        rw[L13]at qq
        try simp only[cond_true,cond_false]at qq
        have hc:w1.cell? ⟨qq_b,0,none⟩=some (.int .i64 (Q 0)):=qq.cellIs (aD Q oa)
        go_simp
        exact⟨rfl,rfl⟩
       iterate 2 (refine aH ?_)
       refine cm ?_ ?_
       ·rintro p L w1 ⟨hsz,hB,r,s,qq⟩ hk
        have L13:L 13=false:=hk.2.2 13 rfl
        rw[L13]at qq
        try simp only[cond_true,cond_false]at qq
        have hc:w1.cell? ⟨qq_b,1,none⟩=some (.int .i64 (Q 1)):=qq.cellIs (aD Q oa)
        go_simp
        exact⟨rfl,rfl⟩
       iterate 2 (refine aH ?_)
       refine cm ?_ ?_
       ·rintro p L w1 ⟨hsz,hB,r,s,qq⟩ hk
        have L13:L 13=false:=hk.2.2 13 rfl
        rw[L13]at qq
        try simp only[cond_true,cond_false]at qq
        have hc:w1.cell? ⟨qq_b,2,none⟩=some (.int .i64 (Q 2)):=qq.cellIs (aD Q oa)
        go_simp
        exact⟨rfl,rfl⟩
       iterate 2 (refine aH ?_)
       refine cm ?_ ?_
       ·rintro p L w1 ⟨hsz,hB,r,s,qq⟩ hk
        have L13:L 13=false:=hk.2.2 13 rfl
        rw[L13]at qq
        try simp only[cond_true,cond_false]at qq
        have hc:w1.cell? ⟨qq_b,3,none⟩=some (.int .i64 (Q 3)):=qq.cellIs (aD Q oa)
        go_simp
        exact⟨rfl,rfl⟩
       refine aH ?_
       refine cm ?_ ?_
       ·intros;(try simp only[ah,aj]);go_simp;exact⟨rfl,rfl⟩
       refine aw.cons ?_ ?_
       ·refine aA 13 rfl (fun p=>rfl) (fun p=>rfl) _ _ _ rfl (fun _=>qq_b) 0 (fun p=>rfl) (fun p=>(aj (mI Q))) (fun p=>congrArg Value.agg (FO (mI Q))) (fun p=>(aj Q)) (fun p=>(aj (mI Q))) 23 (fun p=>oJ _ _) (fun p=>by first|(rw[ak,ak];decide)|simp[ak,ak]) (fun p=>by rw[ak];kernel_rfl) (fun p=>bF _) ?_ ?_
        ·rintro p L w1 ⟨hsz,hB,r,s,qq⟩ hk
         exact cg qq hk.1
        ·rintro p L w1 ⟨hsz,hB,r,s,qq⟩ hk
         refine⟨(by simpa using hsz),Below.setRow hB (by first|exact nk hW0 hp.1|exact ge_qq|omega|(have:=hB.size;simp at this|-;omega)) _,r.rowOther ne_r_qq _,s.rowOther ne_s_qq _,?_⟩
         rw[show cD L 13 13=true from rfl]
         exact qq.row _
       exact aw.nil
      case hV0=>exact fun p q=>aw.nil
      case he=>
      clear hB r s qq
      rintro p wrrr ⟨hsz,hB,r,s,qq⟩
      replace qq:af wrrr qq_b (aj (mI Q)) 23:=qq
      clear lt_r lt_s lt_qq hsz hW0 n0 n1 n2 n3
      rw[hRS.out]at qq
      go_upto_region 24 with(fail)
      have lt_r:=r.lt
      have lt_s:=s.lt
      have lt_qq:=qq.lt
      have hW0:w.heap.size<=wrrr.heap.size:=by simpa using hB.size
      apply ay 3 [0,1,3] [] [_,(fun _=>undef),_] (fun p L w'=>wrrr.heap.size<=w'.heap.size/\Below w.heap.size w w'/\af w' w.heap.size (bif L 1 then(aj RS)else(aj fun _=>0)) 23/\af w' s_b (cW X) 101/\af w' qq_b (aj RS) 23) _ [(0,98),(2,3)] [0,1,2]
      case hn|hB|hds|hA=>exact rA
      case h0=>exact rH
      case hmore=>exact rM
      case hs=>
       intro more
       refine cm ?_ ?_
       ·rintro p L w1 ⟨hsz,hB,r,s,qq⟩ hk
        first|exact br _ _ rfl _ rfl _ _ qq _ yb rfl rI rfl|(have hc:=qq.cellIs (aD _ (show 0<4 by omega));go_simp;exact⟨rfl,rfl⟩)
       refine aw.cons ?_ ?_
       ·refine aA 1 rfl (fun p=>rfl) (fun p=>rfl) _ _ _ rfl (fun _=>w.heap.size) 0 (fun p=>rfl) (fun p=>(aj RS)) (fun p=>rfl) (fun p=>(aj fun _=>0)) (fun p=>(aj RS)) 23 (fun p=>oJ _ _) (fun p=>by first|(rw[ak,ak];decide)|simp[ak,ak]) (fun p=>by rw[ak];kernel_rfl) (fun p=>bF _) ?_ ?_
        ·rintro p L w1 ⟨hsz,hB,r,s,qq⟩ hk
         exact cg r hk.1
        ·rintro p L w1 ⟨hsz,hB,r,s,qq⟩ hk
         refine⟨(by simpa using hsz),Below.setRow hB (by first|exact nk hW0 hp.1|exact ge_r|omega|(have:=hB.size;simp at this|-;omega)) _,?_,s.rowOther (Ne.symm ne_r_s) _,qq.rowOther (Ne.symm ne_r_qq) _⟩
         rw[show cD L 1 1=true from rfl]
         exact r.row _
       refine aH ?_
       exact aw.nil
      case hV0=>exact fun p q=>aw.nil
      case he=>
      clear hB r s qq
      rintro p wrrrr ⟨hsz,hB,r,s,qq⟩
      replace r:af wrrrr w.heap.size (aj RS) 23:=r
      clear lt_r lt_s lt_qq hsz hW0
      go_wp2_with (fail)
      refine bodyPost_ret (aq rfl _ _ _ _ _ _ _ rfl r yb rfl rI) rfl ?_
      exact⟨rfl,hB⟩
     have d0:decide (Q 0<0)=false:=dF h0
     have hN:sG Q=Q:=by unfold sG;rw[if_neg h0]
     rw[hN]at hRS
     clear hN h0
     go_upto_region 24 with(fail)
     clear cq
     rw[hRS.out]at qq
     have lt_r:=r.lt
     have lt_s:=s.lt
     have lt_qq:=qq.lt
     have hW0:w.heap.size<=wrr.heap.size:=by simpa using hB.size
     apply ay 3 [0,1,3] [] [_,(fun _=>undef),_] (fun p L w'=>wrr.heap.size<=w'.heap.size/\Below w.heap.size w w'/\af w' w.heap.size (bif L 1 then(aj RS)else(aj fun _=>0)) 23/\af w' s_b (cW X) 101/\af w' qq_b (aj RS) 23) _ [(0,98),(2,3)] [0,1,2]
     case hn|hB|hds|hA=>exact rA
     case h0=>exact rH
     case hmore=>exact rM
     case hs=>
      intro more
      refine cm ?_ ?_
      ·rintro p L w1 ⟨hsz,hB,r,s,qq⟩ hk
       first|exact br _ _ rfl _ rfl _ _ qq _ yb rfl rI rfl|(have hc:=qq.cellIs (aD _ (show 0<4 by omega));go_simp;exact⟨rfl,rfl⟩)
      refine aw.cons ?_ ?_
      ·refine aA 1 rfl (fun p=>rfl) (fun p=>rfl) _ _ _ rfl (fun _=>w.heap.size) 0 (fun p=>rfl) (fun p=>(aj RS)) (fun p=>rfl) (fun p=>(aj fun _=>0)) (fun p=>(aj RS)) 23 (fun p=>oJ _ _) (fun p=>by first|(rw[ak,ak];decide)|simp[ak,ak]) (fun p=>by rw[ak];kernel_rfl) (fun p=>bF _) ?_ ?_
       ·rintro p L w1 ⟨hsz,hB,r,s,qq⟩ hk
        exact cg r hk.1
       ·rintro p L w1 ⟨hsz,hB,r,s,qq⟩ hk
        refine⟨(by simpa using hsz),Below.setRow hB (by first|exact nk hW0 hp.1|exact ge_r|omega|(have:=hB.size;simp at this|-;omega)) _,?_,s.rowOther (Ne.symm ne_r_s) _,qq.rowOther (Ne.symm ne_r_qq) _⟩
        rw[show cD L 1 1=true from rfl]
        exact r.row _
      refine aH ?_
      exact aw.nil
     case hV0=>exact fun p q=>aw.nil
     case he=>
     clear hB r s qq
     rintro p wrrr ⟨hsz,hB,r,s,qq⟩
     replace r:af wrrr w.heap.size (aj RS) 23:=r
     clear lt_r lt_s lt_qq hsz hW0
     go_wp2_with (fail)
     refine bodyPost_ret (aq rfl _ _ _ _ _ _ _ rfl r yb rfl rI) rfl ?_
     exact⟨rfl,hB⟩
end Go.Proofs.YtbhahonkhiiilaaGreat
