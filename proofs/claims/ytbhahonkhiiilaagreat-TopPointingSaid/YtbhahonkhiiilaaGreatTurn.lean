/-
  Turned attitudes, in the package: Turn.
-/
import Derived.Test.YtbhahonkhiiilaaGreatQuatD
set_option linter.unusedSimpArgs false
set_option linter.unusedVariables false
set_option maxRecDepth 100000
set_option maxHeartbeats 2000000
namespace Go.Proofs.YtbhahonkhiiilaaGreat
open Go.RowKit PM Dt
def sM (f:Nat->Int):Int:=[wrap64 (-f 0),f 1,wrap64 (-f 1),f 2,wrap64 (-f 2),f 3,wrap64 (-f 3)].foldl mx (f 0)
theorem Ke {c:Int} (xs:List Int) (x:Int):(c<xs.foldl mx x)↔(c<x\/∃y∈xs,c<y):=by
 have h:=C1 (c:=c+1) xs x
 constructor
 ·intro hc
  apply bC;intro hn
  have:xs.foldl mx x<c+1:=h.2 ⟨by
   apply bC;intro h1;exact hn (.inl oa),fun y hy=>by
   apply bC;intro h1;exact hn (.inr ⟨y,hy,oa⟩)⟩
  omega
 ·intro hc
  apply bC;intro hn
  obtain⟨h1,h2⟩:=h.1 oa
  rcases hc with hc|⟨y,hy,hc⟩
  ·omega
  ·have:=h2 y hy;omega
def rq (g:Nat->Int):Nat->Int:=fun i=>if i=0 then 1073741824 else if i=1 then g 0 else if i=2 then g 1 else g 2
theorem Bi (g:Nat->Int):#[.int .i64 1073741824,.int .i64 (g 0),.int .i64 (g 1),.int .i64 (g 2)]=aj (rq g):=by unfold aj;rfl
theorem AX (g:Nat->Int) (hI:∀i,i<3->bu (g i)):(decide (1073741824<sM (rq g))=false/\eX (rq g)=true)↔aE g 1073741824=true:=by
 have e0:rq g 0=1073741824:=rfl
 have e1:rq g 1=g 0:=rfl
 have e2:rq g 2=g 1:=rfl
 have e3:rq g 3=g 2:=rfl
 have i0:=hI 0 oa
 have i1:=hI 1 oa
 have i2:=hI 2 oa
 unfold bu at i0 i1 i2
 have hl:decide (1073741824<sM (rq g))=false↔(wrap64 (-g 0)<=1073741824/\g 0<=1073741824/\wrap64 (-g 1)<=1073741824/\g 1<=1073741824/\wrap64 (-g 2)<=1073741824/\g 2<=1073741824):=by
  rw[decide_eq_false_iff_not]
  unfold sM
  rw[Ke,e0,e1,e2,e3]
  simp only[List.mem_cons,List.not_mem_nil,or_false,exists_eq_or_imp,exists_eq_left]
  have:wrap64 (-1073741824)=-1073741824:=by unfold wrap64;omega
  rw[this]
  omega
 have hs:aE g 1073741824=true↔(-1073741824<=g 0/\g 0<=1073741824/\-1073741824<=g 1/\g 1<=1073741824/\-1073741824<=g 2/\g 2<=1073741824):=by
  unfold aE sb
  simp only[Bool.and_eq_true,decide_eq_true_eq]
  omega
 have hk:eX (rq g)=true↔(-1099511627776<=g 0/\g 0<=1099511627776/\-1099511627776<=g 1/\g 1<=1099511627776/\-1099511627776<=g 2/\g 2<=1099511627776):=by
  unfold eX vb
  rw[e0,e1,e2,e3]
  simp only[Bool.and_eq_true,decide_eq_true_eq]
  omega
 rw[hl,hs,hk]
 unfold wrap64
 omega
def ls (f g:Nat->Int):Bool:=au f&&aE g 1073741824
def aR (f g:Nat->Int):Nat->Int:=if ls f g then df (aY f (rq g))else fun _=>0
def u9 (f g:Nat->Int):Int:=if ls f g then te (aY f (rq g))else 2
def G4 (a b c:Bool):Bool:=a&&(!b&&c)
theorem Ae (f g:Nat->Int) (hI:∀i,i<3->bu (g i)):ls f g=G4 (au f) (decide (1073741824<sM (rq g))) (eX (rq g)):=by
 have h:=AX g hI
 unfold ls G4
 congr 1
 cases h1:decide (1073741824<sM (rq g))<;>cases h2:eX (rq g)<;>cases h3:aE g 1073741824<;>simp_all
theorem r_ (f:Nat->Int) (w:World):Calls Tryz.prog 84 #[.agg (aj f)] w fun e w'=>e=.returned (.int .i64 (sM f))/\Below w.heap.size w w':=by
 have hM:Hid ([wrap64 (-f 0),f 1,wrap64 (-f 1),f 2,wrap64 (-f 2),f 3,wrap64 (-f 3)].foldl mx (f 0)=sM f):=aa rfl
 generalize sM f=M at *
 go_enter Tryz.func84,Tryz.ntmps84
 go_upto_region 1 with(fail)
 have p:af (w.alloc (.cells (aj f) 23)) w.heap.size (aj f) 23:=af.new _ _ _
 have hB:Below w.heap.size w (w.alloc (.cells (aj f) 23)):=by go_grown
 generalize(w.alloc (.cells (aj f) 23))=w0 at *
 have c0:w0.cell? ⟨w.heap.size,0,none⟩=some (.int .i64 (f 0)):=p.cellIs (aD _ oa)
 have c1:w0.cell? ⟨w.heap.size,1,none⟩=some (.int .i64 (f 1)):=p.cellIs (aD _ oa)
 have c2:w0.cell? ⟨w.heap.size,2,none⟩=some (.int .i64 (f 2)):=p.cellIs (aD _ oa)
 have c3:w0.cell? ⟨w.heap.size,3,none⟩=some (.int .i64 (f 3)):=p.cellIs (aD _ oa)
 go_wp2_with (refine fH rfl rfl _ _ _ hM.out rfl ?_)
 go_ret
 exact⟨rfl,hB⟩
set_option maxHeartbeats 2000000 in
theorem uI (f g:Nat->Int) (w:World) (hf:∀i,i<4->bu (f i)) (hg:∀i,i<3->bu (g i)):Calls Tryz.prog 65 #[.agg (aj f),.agg (ah g)] w fun e w'=>e=.returned (.tuple #[.agg (aj (aR f g)),.int .i64 (u9 f g)])/\Below w.heap.size w w':=by
 have V:=Lib.hid (fun w=>cU f w hf)
 have LG:=Lib.hid (fun w=>r_ (rq g) w)
 have BD:=Lib.hid (fun w=>iU (rq g) w)
 have PR:=Lib.hid (fun w=>rY f (rq g) w)
 have UN:=Lib.hid (fun w=>rm (aY f (rq g)) w)
 unfold aR u9
 rw[Ae f g hg]
 generalize df (aY f (rq g))=X at *
 generalize te (aY f (rq g))=E at *
 generalize aY f (rq g)=Y at *
 generalize r7 f (rq g)=YE at *
 generalize au f=b1 at *
 generalize eX (rq g)=b3 at *
 generalize sM (rq g)=L at *
 obtain⟨b2,hb2⟩:∃b,decide (1073741824<L)=b:=⟨_,rfl⟩
 rw[hb2]
 have rc:=Lib.hid (Bi g)
 clear hf hg
 go_enter Tryz.func65,Tryz.ntmps65
 go_upto_region 1 with(fail)
 simp only[bP]
 have p:af (((w.alloc (.cells (aj f) 23)).alloc (.cells (ah g) 25)).alloc (.cells (aj fun _=>0) 23)) w.heap.size (aj f) 23:=((af.new _ _ _).alloc _).alloc _
 have q:af (((w.alloc (.cells (aj f) 23)).alloc (.cells (ah g) 25)).alloc (.cells (aj fun _=>0) 23)) (w.heap.size+1) (ah g) 25:=(af.new' (by simp)).alloc _
 have r:af (((w.alloc (.cells (aj f) 23)).alloc (.cells (ah g) 25)).alloc (.cells (aj fun _=>0) 23)) (w.heap.size+2) (aj fun _=>0) 23:=af.new' (by simp)
 have hB:Below w.heap.size w (((w.alloc (.cells (aj f) 23)).alloc (.cells (ah g) 25)).alloc (.cells (aj fun _=>0) 23)):=by go_grown
 generalize(((w.alloc (.cells (aj f) 23)).alloc (.cells (ah g) 25)).alloc (.cells (aj fun _=>0) 23))=w0 at *
 have c0:w0.cell? ⟨(w.heap.size+1),0,none⟩=some (.int .i64 (g 0)):=q.cellIs (az _ (by omega))
 have c1:w0.cell? ⟨(w.heap.size+1),1,none⟩=some (.int .i64 (g 1)):=q.cellIs (az _ (by omega))
 have c2:w0.cell? ⟨(w.heap.size+1),2,none⟩=some (.int .i64 (g 2)):=q.cellIs (az _ (by omega))
 generalize rq g=R at *
 go_upto_region 2 with(fail)
 clear c0 c1 c2
 have n:=af.new w0 #[.int .i64 1073741824,.int .i64 (g 0),.int .i64 (g 1),.int .i64 (g 2)] 23
 replace hB:=hB.alloc hB.size (.cells #[.int .i64 1073741824,.int .i64 (g 0),.int .i64 (g 1),.int .i64 (g 2)] 23)
 replace p:=p.alloc (.cells #[.int .i64 1073741824,.int .i64 (g 0),.int .i64 (g 1),.int .i64 (g 2)] 23)
 replace q:=q.alloc (.cells #[.int .i64 1073741824,.int .i64 (g 0),.int .i64 (g 1),.int .i64 (g 2)] 23)
 replace r:=r.alloc (.cells #[.int .i64 1073741824,.int .i64 (g 0),.int .i64 (g 1),.int .i64 (g 2)] 23)
 generalize w0.alloc (.cells #[.int .i64 1073741824,.int .i64 (g 0),.int .i64 (g 1),.int .i64 (g 2)] 23)=w0x at *
 rw[rc.out]at n
 generalize w0.heap.size=n_b at *
 cases b1<;>cases b2<;>cases b3
 case true.false.true=>
  go_upto_region 5 with(first
   |(refine ac ?hw _ _ rfl _ rfl _ _ _ _ p Tryz.underlying23 rfl ?hi ?_;(case hw=>(first|rfl|(simp[Region.wanted,yielded];done)));(case hi=>(first|kernel_rfl|(rw[ak];kernel_rfl))))
   |(refine ac ?hw _ _ rfl _ rfl _ _ _ _ q Tryz.underlying25 rfl ?hi ?_;(case hw=>(first|rfl|(simp[Region.wanted,yielded];done)));(case hi=>(first|kernel_rfl|(rw[ad];kernel_rfl))))
   |(refine ac ?hw _ _ rfl _ rfl _ _ _ _ r Tryz.underlying23 rfl ?hi ?_;(case hw=>(first|rfl|(simp[Region.wanted,yielded];done)));(case hi=>(first|kernel_rfl|(rw[ak];kernel_rfl))))
   |(refine ac ?hw _ _ rfl _ rfl _ _ _ _ n Tryz.underlying23 rfl ?hi ?_;(case hw=>(first|rfl|(simp[Region.wanted,yielded];done)));(case hi=>(first|kernel_rfl|(rw[ak];kernel_rfl))))
   |(go_at_call 5;with_reducible refine(V.out _).mono ?_;rintro e w1 ⟨rfl,hb⟩;replace hB:=hB.trans (hb.mono hB.size);replace p:=p.below hb p.lt;replace q:=q.below hb q.lt;replace r:=r.below hb r.lt;replace n:=n.below hb n.lt;clear hb)
   |(go_at_call 84;with_reducible refine(LG.out _).mono ?_;rintro e w2 ⟨rfl,hb⟩;replace hB:=hB.trans (hb.mono hB.size);replace p:=p.below hb p.lt;replace q:=q.below hb q.lt;replace r:=r.below hb r.lt;replace n:=n.below hb n.lt;clear hb)
   |(go_at_call 68;with_reducible refine(BD.out _).mono ?_;rintro e w3 ⟨rfl,hb⟩;replace hB:=hB.trans (hb.mono hB.size);replace p:=p.below hb p.lt;replace q:=q.below hb q.lt;replace r:=r.below hb r.lt;replace n:=n.below hb n.lt;clear hb)
   |(go_at_call 28;with_reducible refine(PR.out _).mono ?_;rintro e w4 ⟨rfl,hb⟩;replace hB:=hB.trans (hb.mono hB.size);replace p:=p.below hb p.lt;replace q:=q.below hb q.lt;replace r:=r.below hb r.lt;replace n:=n.below hb n.lt;clear hb)
   |(rw[bP];refine ag rfl _ _ _ rfl _ rfl _ rfl _ _ (af.new _ _ _) (by first|kernel_rfl|(rw[ak];kernel_rfl)) (by first|rfl|simp only[ak]) (by first|exact bF _|rfl) ?_))
  have m:=(af.new w4 (aj fun _=>0) 23).row (aj Y)
  replace hB:=Below.setRow (hB.alloc hB.size (.cells (aj fun _=>0) 23)) (g:=w4.heap.size) hB.size (aj Y)
  have hne:∀x,x<w4.heap.size->x≠w4.heap.size:=fun x hx=>Nat.ne_of_lt hx
  replace p:=(p.alloc (.cells (aj fun _=>0) 23)).rowOther (hne _ p.lt) (aj Y)
  replace q:=(q.alloc (.cells (aj fun _=>0) 23)).rowOther (hne _ q.lt) (aj Y)
  replace r:=(r.alloc (.cells (aj fun _=>0) 23)).rowOther (hne _ r.lt) (aj Y)
  replace n:=(n.alloc (.cells (aj fun _=>0) 23)).rowOther (hne _ n.lt) (aj Y)
  clear hne
  generalize(w4.alloc (.cells (aj fun _=>0) 23)).setRow w4.heap.size (aj Y)=w4x at *
  generalize w4.heap.size=m_b at *
  go_wp2_with (first
   |(refine ac ?hw _ _ rfl _ rfl _ _ _ _ p Tryz.underlying23 rfl ?hi ?_;(case hw=>(first|rfl|(simp[Region.wanted,yielded];done)));(case hi=>(first|kernel_rfl|(rw[ak];kernel_rfl))))
   |(refine ac ?hw _ _ rfl _ rfl _ _ _ _ q Tryz.underlying25 rfl ?hi ?_;(case hw=>(first|rfl|(simp[Region.wanted,yielded];done)));(case hi=>(first|kernel_rfl|(rw[ad];kernel_rfl))))
   |(refine ac ?hw _ _ rfl _ rfl _ _ _ _ r Tryz.underlying23 rfl ?hi ?_;(case hw=>(first|rfl|(simp[Region.wanted,yielded];done)));(case hi=>(first|kernel_rfl|(rw[ak];kernel_rfl))))
   |(refine ac ?hw _ _ rfl _ rfl _ _ _ _ n Tryz.underlying23 rfl ?hi ?_;(case hw=>(first|rfl|(simp[Region.wanted,yielded];done)));(case hi=>(first|kernel_rfl|(rw[ak];kernel_rfl))))
   |(refine ac ?hw _ _ rfl _ rfl _ _ _ _ m Tryz.underlying23 rfl ?hi ?_;(case hw=>(first|rfl|(simp[Region.wanted,yielded];done)));(case hi=>(first|kernel_rfl|(rw[ak];kernel_rfl))))
   |(go_at_call 52;with_reducible refine(UN.out _).mono ?_;rintro e w5 ⟨rfl,hb⟩;replace hB:=hB.trans (hb.mono hB.size);replace p:=p.below hb p.lt;replace q:=q.below hb q.lt;replace r:=r.below hb r.lt;replace n:=n.below hb n.lt;replace m:=m.below hb m.lt;clear hb)
   |(refine ag rfl _ _ _ rfl _ rfl _ rfl _ _ r (by first|kernel_rfl|(rw[ak];kernel_rfl)) (by first|rfl|simp only[ak]) (by first|exact bF _|rfl) ?_))
  refine bodyPost_ret (aq rfl _ _ _ _ _ _ _ rfl (r.row (aj X)) Tryz.underlying23 rfl (by first|kernel_rfl|(rw[ak];kernel_rfl))) rfl ?_
  refine⟨?_,Below.setRow hB (by omega) _⟩
  rfl
 all_goals
  go_wp2_with (first
   |(refine ac ?hw _ _ rfl _ rfl _ _ _ _ p Tryz.underlying23 rfl ?hi ?_;(case hw=>(first|rfl|(simp[Region.wanted,yielded];done)));(case hi=>(first|kernel_rfl|(rw[ak];kernel_rfl))))
   |(refine ac ?hw _ _ rfl _ rfl _ _ _ _ q Tryz.underlying25 rfl ?hi ?_;(case hw=>(first|rfl|(simp[Region.wanted,yielded];done)));(case hi=>(first|kernel_rfl|(rw[ad];kernel_rfl))))
   |(refine ac ?hw _ _ rfl _ rfl _ _ _ _ r Tryz.underlying23 rfl ?hi ?_;(case hw=>(first|rfl|(simp[Region.wanted,yielded];done)));(case hi=>(first|kernel_rfl|(rw[ak];kernel_rfl))))
   |(refine ac ?hw _ _ rfl _ rfl _ _ _ _ n Tryz.underlying23 rfl ?hi ?_;(case hw=>(first|rfl|(simp[Region.wanted,yielded];done)));(case hi=>(first|kernel_rfl|(rw[ak];kernel_rfl))))
   |(go_at_call 5;with_reducible refine(V.out _).mono ?_;rintro e w1 ⟨rfl,hb⟩;replace hB:=hB.trans (hb.mono hB.size);replace p:=p.below hb p.lt;replace q:=q.below hb q.lt;replace r:=r.below hb r.lt;replace n:=n.below hb n.lt;clear hb)
   |(go_at_call 84;with_reducible refine(LG.out _).mono ?_;rintro e w2 ⟨rfl,hb⟩;replace hB:=hB.trans (hb.mono hB.size);replace p:=p.below hb p.lt;replace q:=q.below hb q.lt;replace r:=r.below hb r.lt;replace n:=n.below hb n.lt;clear hb)
   |(go_at_call 68;with_reducible refine(BD.out _).mono ?_;rintro e w3 ⟨rfl,hb⟩;replace hB:=hB.trans (hb.mono hB.size);replace p:=p.below hb p.lt;replace q:=q.below hb q.lt;replace r:=r.below hb r.lt;replace n:=n.below hb n.lt;clear hb)
   |(rw[bP];refine ag rfl _ _ _ rfl _ rfl _ rfl _ _ r (by first|kernel_rfl|(rw[ak];kernel_rfl)) (by first|rfl|simp only[ak]) (by first|exact bF _|rfl) ?_))
  refine bodyPost_ret (aq rfl _ _ _ _ _ _ _ rfl (r.row (aj fun _=>0)) Tryz.underlying23 rfl (by first|kernel_rfl|(rw[ak];kernel_rfl))) rfl ?_
  refine⟨?_,Below.setRow hB (by omega) _⟩
  rfl
theorem J3 {f g:Nat->Int} (hf:eX f=true) (hg:eX g=true):-4503599627370497<=gA (d4 f g)/\gA (d4 f g)<=4503599627370497:=by
 have a0:=fh ((bN f).1 hf 0 oa) ((bN g).1 hg 0 oa)
 have a1:=fh ((bN f).1 hf 1 oa) ((bN g).1 hg 1 oa)
 have a2:=fh ((bN f).1 hf 2 oa) ((bN g).1 hg 2 oa)
 have a3:=fh ((bN f).1 hf 3 oa) ((bN g).1 hg 3 oa)
 have e:d4 f g=f 0*g 0+(f 1*g 1+(f 2*g 2+(f 3*g 3+0))):=by unfold d4;rw[aK,aK,aK,aK,cJ]
 rw[e]
 unfold gA
 generalize f 0*g 0=x0 at *
 generalize f 1*g 1=x1 at *
 generalize f 2*g 2=x2 at *
 generalize f 3*g 3=x3 at *
 omega
theorem uJ (f g:Nat->Int) {i:Nat} (hi:i<4):-4503599627370497<=aY f g i/\aY f g i<=4503599627370497:=by
 unfold aY
 split
 ·rename_i h
  rw[Bool.and_eq_true]at h
  exact J3 (DQ h.1 hi) (Bb h.2 hi)
 ·show-4503599627370497<=(0:Int)/\(0:Int)<=4503599627370497
  omega
def jH (p:Nat->Int):Nat->Int:=fun i=>-p i
def qF (f g:Nat->Int):Nat->Int:=if aY (cw f) g 0<0 then jH (aY (cw f) g)else aY (cw f) g
def am (f g:Nat->Int):Nat->Int:=if au f&&au g then qF f g else fun _=>0
def fF (f g:Nat->Int):Int:=if au f&&au g then 0 else 2
theorem BO (p:Nat->Int) (b:Nat) (w:World) (q:af w b (aj p) 23) (i:Nat) (hi:i<4) (hp:-4503599627370497<=p i/\p i<=4503599627370497):Calls Tryz.prog 31 #[.int .i64 i,.pointer (some ⟨b,0,none⟩)] w fun e w'=>e=.returned (.tuple #[.int .i64 (jH p i),.int .i64 0])/\Below w.heap.size w w':=by
 have hw:IntKind.i64.wrap (-p i)=jH p i:=by rw[wI];unfold jH;omega
 have hw2:wrap64 (-p i)=jH p i:=by unfold wrap64 jH;omega
 have hdk:decide ((i:Int)<4)=true:=dT oa
 have hdk':decide (i<4)=true:=dT hi
 have hi3:(i:Int)<4:=oa
 have hc:w.cell? ⟨b,i,none⟩=some (.int .i64 (p i)):=q.cellIs (aD _ hi)
 clear hp q
 go_enter Tryz.func31,Tryz.ntmps31
 go_wp2_with (fail)
 go_ret2
 exact⟨by first|rfl|simp only[hw]|simp only[hw2],Below.refl _ _⟩
theorem Af (x er:Nat->Int) (c1:Value) (w:World)
 (hf:Hid (∀i:Nat,i<4->∀w1,Below w.heap.size w w1->Calls Tryz.prog 31 #[.int .i64 i,c1] w1 fun e w'=>e=.returned (.tuple #[.int .i64 (x i),.int .i64 (er i)])/\Below w1.heap.size w1 w')):
 Calls Tryz.prog 30 #[.func (.func 31) #[] #[c1]] w fun e w'=>e=.returned (.agg (aj x))/\Below w.heap.size w w':=by
 go_enter Tryz.func30,Tryz.ntmps30
 go_upto_region 2 with(fail)
 rw[bP]
 have p:af ((w.alloc (.cells (aj fun _=>0) 23)).alloc (.cells (aj fun _=>0) 23)) w.heap.size (aj fun _=>0) 23:=(af.new _ _ _).alloc _
 have q:af ((w.alloc (.cells (aj fun _=>0) 23)).alloc (.cells (aj fun _=>0) 23)) (w.heap.size+1) (aj fun _=>0) 23:=af.new' sd
 have hB:Below w.heap.size w ((w.alloc (.cells (aj fun _=>0) 23)).alloc (.cells (aj fun _=>0) 23)):=by go_grown
 generalize(w.alloc (.cells (aj fun _=>0) 23)).alloc (.cells (aj fun _=>0) 23)=w0 at *
 go_wp2_with (fail)
 go_loopg [5] 4 (fun g iv wr=>∃k:Nat,g+k=4/\iv=.int .i64 k/\af wr w.heap.size (aj fun _=>0) 23/\af wr (w.heap.size+1) (aj (dh x k)) 23/\Below w.heap.size w wr)
 case atStart=>exact⟨0,rfl,rfl,p,by rw[show aj (dh x 0)=aj (fun _=>0)from dN fun i _=>by simp[dh]];exact q,hB⟩
 case round=>
  clear p q hB
  obtain⟨k,hk,rfl,p,q,hB⟩:=hrel
  by_cases hkn:k<4
  ·have hdk:decide ((k:Int)<4)=true:=dT oa
   have hdk':decide (k<4)=true:=dT oa
   have hw3:IntKind.i64.wrap ((k:Int)+1)=((k+1:Nat):Int):=by rw[wI];omega
   have HC:=aa (hf.out k hkn)
   have hi4:(k:Int)<4:=oa
   go_wp2_with (go_at_call 31;refine(HC.out _ hB).mono ?_;rintro e w1 ⟨rfl,hb⟩;replace hB:=hB.trans (hb.mono hB.size);replace p:=p.below hb p.lt;replace q:=q.below hb q.lt;clear hb;have fz:w1.frozen? ⟨w.heap.size+1,k,none⟩=false:=q.free _;have cz:w1.cell? ⟨w.heap.size+1,k,none⟩=some (.int .i64 (dh x k k)):=q.cellIs (aD _ hkn))
   go_roundg (4-(k+1))
   case rel=>
    refine⟨k+1,oa,rfl,p.setOther sd _,q.set' (kg hkn ?_ ?_),hB.setCell sd _⟩
    ·simp[dh]
    ·intro j hj hne;simp only[dh];split<;>split<;>first|rfl|omega
   case measure=>omega
  ·obtain rfl:k=4:=oa
   have e4:aj (dh x 4)=aj x:=dN fun i hi=>by simp[dh,hi]
   rw[e4]at q
   go_wp2_with (first|(refine ac ?hw _ _ rfl _ rfl _ _ _ _ q yb rfl ?hi ?_;(case hw=>exact rW);(case hi=>exact rI))|(refine ag rfl _ _ _ rfl _ rfl _ rfl _ _ p rI (by simp only[ak]) (bF _) ?_))
   refine bodyPost_ret (results_cell_row rfl _ _ _ _ _ _ _ rfl (p.row (aj x)) yb rfl rI) rfl ?_;refine⟨?_,Below.setRow hB oa _⟩
   rfl
set_option maxHeartbeats 2000000 in
theorem gQ (f g:Nat->Int) (w:World) (hf:∀i,i<4->bu (f i)) (hg:∀i,i<4->bu (g i)):Calls Tryz.prog 8 #[.agg (aj f),.agg (aj g)] w fun e w'=>e=.returned (.tuple #[.agg (aj (am f g)),.int .i64 (fF f g)])/\Below w.heap.size w w':=by
 have V1:=Lib.hid (fun w=>cU f w hf)
 have V2:=Lib.hid (fun w=>cU g w hg)
 have CJ:=Lib.hid (fun w=>Bq f w)
 have PR:=Lib.hid (fun w=>rY (cw f) g w)
 have HB:=Lib.hid (fun i (hi:i<4)=>uJ (cw f) g hi)
 unfold am fF qF
 generalize aY (cw f) g=Y at *
 generalize r7 (cw f) g=YE at *
 generalize au f=b1 at *
 generalize au g=b2 at *
 generalize cw f=C at *
 clear hf hg
 go_enter Tryz.func8,Tryz.ntmps8
 go_upto_region 1 with(fail)
 simp only[bP]
 have p:af (((w.alloc (.cells (aj f) 23)).alloc (.cells (aj g) 23)).alloc (.cells (aj fun _=>0) 23)) w.heap.size (aj f) 23:=((af.new _ _ _).alloc _).alloc _
 have q:af (((w.alloc (.cells (aj f) 23)).alloc (.cells (aj g) 23)).alloc (.cells (aj fun _=>0) 23)) (w.heap.size+1) (aj g) 23:=(af.new' (by simp)).alloc _
 have r:af (((w.alloc (.cells (aj f) 23)).alloc (.cells (aj g) 23)).alloc (.cells (aj fun _=>0) 23)) (w.heap.size+2) (aj fun _=>0) 23:=af.new' (by simp)
 have hB:Below w.heap.size w (((w.alloc (.cells (aj f) 23)).alloc (.cells (aj g) 23)).alloc (.cells (aj fun _=>0) 23)):=by go_grown
 generalize(((w.alloc (.cells (aj f) 23)).alloc (.cells (aj g) 23)).alloc (.cells (aj fun _=>0) 23))=w0 at *
 cases b1<;>cases b2
 case true.true=>
  go_upto_region 3 with(first
   |(refine ac ?hw _ _ rfl _ rfl _ _ _ _ p Tryz.underlying23 rfl ?hi ?_;(case hw=>(first|rfl|(simp[Region.wanted,yielded];done)));(case hi=>(first|kernel_rfl|(rw[ak];kernel_rfl))))
   |(refine ac ?hw _ _ rfl _ rfl _ _ _ _ q Tryz.underlying23 rfl ?hi ?_;(case hw=>(first|rfl|(simp[Region.wanted,yielded];done)));(case hi=>(first|kernel_rfl|(rw[ak];kernel_rfl))))
   |(refine ac ?hw _ _ rfl _ rfl _ _ _ _ r Tryz.underlying23 rfl ?hi ?_;(case hw=>(first|rfl|(simp[Region.wanted,yielded];done)));(case hi=>(first|kernel_rfl|(rw[ak];kernel_rfl))))
   |(go_at_call 5;with_reducible refine(V1.out _).mono ?_;rintro e w1 ⟨rfl,hb⟩;replace hB:=hB.trans (hb.mono hB.size);replace p:=p.below hb p.lt;replace q:=q.below hb q.lt;replace r:=r.below hb r.lt;clear hb)
   |(go_at_call 5;with_reducible refine(V2.out _).mono ?_;rintro e w2 ⟨rfl,hb⟩;replace hB:=hB.trans (hb.mono hB.size);replace p:=p.below hb p.lt;replace q:=q.below hb q.lt;replace r:=r.below hb r.lt;clear hb))
  refine bV 8 10 rfl (by kernel_rfl) ?_
  replace p:=p.drew
  replace q:=q.drew
  replace r:=r.drew
  replace hB:Below w.heap.size w w2.drew:=hB.drew
  generalize w2.drew=w2d at *
  apply aV 0;(case ho'=>exact rfl);(case hg=>exact rfl);(case hB=>kernel_rfl);(case hW=>kernel_rfl);(case h=>(intro w1 h1;first|exact mh _ _ rfl _ rfl _ _ _ (p.below h1 p.lt) Tryz.underlying23 rfl (by first|kernel_rfl|(rw[ak];kernel_rfl)) rfl|(have hc:=(p.below h1 p.lt).cellIs (aD _ (show 0<4 by omega));go_simp;exact⟨rfl,Below.refl _ _⟩)))
  simp only[Act.put,aL,aM,aN]
  apply aV 1;(case ho'=>exact rfl);(case hg=>exact rfl);(case hB=>kernel_rfl);(case hW=>kernel_rfl);(case h=>(intro w1 h1;go_simp;refine(CJ.out _).mono ?_;rintro e w2 ⟨rfl,h2⟩;exact⟨rfl,h2⟩))
  simp only[Act.put,aL,aM,aN]
  apply aV 2;(case ho'=>exact rfl);(case hg=>exact rfl);(case hB=>kernel_rfl);(case hW=>kernel_rfl);(case h=>(intro w1 h1;first|exact mh _ _ rfl _ rfl _ _ _ (q.below h1 q.lt) Tryz.underlying23 rfl (by first|kernel_rfl|(rw[ak];kernel_rfl)) rfl|(have hc:=(q.below h1 q.lt).cellIs (aD _ (show 0<4 by omega));go_simp;exact⟨rfl,Below.refl _ _⟩)))
  simp only[Act.put,aL,aM,aN]
  apply aV 3;(case ho'=>exact rfl);(case hg=>exact rfl);(case hB=>kernel_rfl);(case hW=>kernel_rfl);(case h=>(intro w1 h1;go_simp;refine(PR.out _).mono ?_;rintro e w2 ⟨rfl,h2⟩;exact⟨rfl,h2⟩))
  simp only[Act.put,aL,aM,aN]
  apply ai 4;(case ho'=>exact rfl);(case hg=>exact rfl);(case hB=>kernel_rfl);(case h=>(intro w1;go_simp;exact⟨rfl,Below.refl _ _⟩))
  simp only[Act.put,aL,aM,aN]
  apply ai 5;(case ho'=>exact rfl);(case hg=>exact rfl);(case hB=>kernel_rfl);(case h=>(intro w1;go_simp;exact⟨rfl,Below.refl _ _⟩))
  simp only[Act.put,aL,aM,aN]
  apply ai 6;(case ho'=>exact rfl);(case hg=>exact rfl);(case hB=>kernel_rfl);(case h=>(intro w1;go_simp;exact⟨rfl,Below.refl _ _⟩))
  simp only[Act.put,aL,aM,aN]
  refine kr 7 rfl rfl (by kernel_rfl) (fun wn45 h1 K hK=>?_)
  go_simp
  refine hK _ _ ((Below.refl _ _).alloc (Nat.le_refl _) _) ?_
  simp only[bP]
  replace hB:=hB.trans (h1.mono hB.size)
  replace p:=p.below h1 p.lt
  replace q:=q.below h1 q.lt
  replace r:=r.below h1 r.lt
  clear h1 hK K
  have m:=af.new wn45 (aj fun _=>0) 23
  have le_0:=hB.size
  replace hB:=hB.alloc hB.size (.cells (aj fun _=>0) 23)
  have ne_p_m:w.heap.size≠wn45.heap.size:=Nat.ne_of_lt p.lt
  replace p:=p.alloc (.cells (aj fun _=>0) 23)
  have ne_q_m:(w.heap.size+1)≠wn45.heap.size:=Nat.ne_of_lt q.lt
  replace q:=q.alloc (.cells (aj fun _=>0) 23)
  have ne_r_m:(w.heap.size+2)≠wn45.heap.size:=Nat.ne_of_lt r.lt
  replace r:=r.alloc (.cells (aj fun _=>0) 23)
  have le_m:=le_0
  generalize wn45.alloc (.cells (aj fun _=>0) 23)=wn45x at *
  generalize wn45.heap.size=m_b at *
  try simp only[Act.put,aL,aM,aN]
  refine gC rfl rfl (by kernel_rfl) (fun wt67 ht=>?_)
  replace hB:=hB.trans (ht.mono hB.size)
  replace p:=p.below ht p.lt
  replace q:=q.below ht q.lt
  replace r:=r.below ht r.lt
  replace m:=m.below ht m.lt
  clear ht
  refine o4 _ _ _ rfl _ rfl _ rfl _ _ m (by first|kernel_rfl|(rw[ak];kernel_rfl)) (by first|rfl|simp only[ak]) (by first|exact bF _|rfl) ?_
  replace p:=p.rowOther ne_p_m (aj Y)
  replace q:=q.rowOther ne_q_m (aj Y)
  replace r:=r.rowOther ne_r_m (aj Y)
  replace m:=m.row (aj Y)
  replace hB:=Below.setRow hB le_m (aj Y)
  generalize wt67.setRow m_b (aj Y)=wt67s at *
  try simp only[Act.put,aL,aM,aN]
  apply ai 9;(case ho'=>exact rfl);(case hg=>exact rfl);(case hB=>kernel_rfl);(case h=>(intro w1;go_simp;exact⟨rfl,Below.refl _ _⟩))
  simp only[Act.put,aL,aM,aN]
  refine dq (by kernel_rfl) (fun we84 ht=>?_)
  replace hB:=hB.trans (ht.mono hB.size)
  replace p:=p.below ht p.lt
  replace q:=q.below ht q.lt
  replace r:=r.below ht r.lt
  replace m:=m.below ht m.lt
  clear ht
  have c0:we84.cell? ⟨m_b,0,none⟩=some (.int .i64 (Y 0)):=m.cellIs (aD _ (by omega))
  by_cases h0:Y 0<0
  ·have d0:decide (Y 0<0)=true:=decide_eq_true h0
   have H0:=Lib.hid h0
   have QD:=Lib.hid (fun w' (h:Below we84.heap.size we84 w')=>Af (jH Y) (fun _=>0) (.pointer (some ⟨m_b,0,none⟩)) w' (fun i hi w1 h1=>BO Y m_b w1 ((m.below h m.lt).below h1 (m.below h m.lt).lt) i hi (HB.out i hi)))
   go_upto_region 6 with(first
    |(go_at_call 30;with_reducible refine(QD.out _ (Below.refl _ _)).mono ?_;rintro e w7 ⟨rfl,hb⟩;replace hB:=hB.trans (hb.mono hB.size);replace p:=p.below hb p.lt;replace q:=q.below hb q.lt;replace r:=r.below hb r.lt;replace m:=m.below hb m.lt;clear hb)
    |(refine ag rfl _ _ _ rfl _ rfl _ rfl _ _ m (by first|kernel_rfl|(rw[ak];kernel_rfl)) (by first|rfl|simp only[ak]) (by first|exact bF _|rfl) ?_))
   replace p:=p.rowOther ne_p_m (aj (jH Y))
   replace q:=q.rowOther ne_q_m (aj (jH Y))
   replace r:=r.rowOther ne_r_m (aj (jH Y))
   replace m:=m.row (aj (jH Y))
   replace hB:=Below.setRow hB le_m (aj (jH Y))
   generalize w7.setRow m_b (aj (jH Y))=w7s at *
   go_wp2_with (first
    |(refine ac ?hw _ _ rfl _ rfl _ _ _ _ p Tryz.underlying23 rfl ?hi ?_;(case hw=>(first|rfl|(simp[Region.wanted,yielded];done)));(case hi=>(first|kernel_rfl|(rw[ak];kernel_rfl))))
    |(refine ac ?hw _ _ rfl _ rfl _ _ _ _ q Tryz.underlying23 rfl ?hi ?_;(case hw=>(first|rfl|(simp[Region.wanted,yielded];done)));(case hi=>(first|kernel_rfl|(rw[ak];kernel_rfl))))
    |(refine ac ?hw _ _ rfl _ rfl _ _ _ _ r Tryz.underlying23 rfl ?hi ?_;(case hw=>(first|rfl|(simp[Region.wanted,yielded];done)));(case hi=>(first|kernel_rfl|(rw[ak];kernel_rfl))))
    |(refine ac ?hw _ _ rfl _ rfl _ _ _ _ m Tryz.underlying23 rfl ?hi ?_;(case hw=>(first|rfl|(simp[Region.wanted,yielded];done)));(case hi=>(first|kernel_rfl|(rw[ak];kernel_rfl))))
    |(refine ag rfl _ _ _ rfl _ rfl _ rfl _ _ r (by first|kernel_rfl|(rw[ak];kernel_rfl)) (by first|rfl|simp only[ak]) (by first|exact bF _|rfl) ?_))
   refine bodyPost_ret (aq rfl _ _ _ _ _ _ _ rfl (r.row (aj (jH Y))) Tryz.underlying23 rfl (by first|kernel_rfl|(rw[ak];kernel_rfl))) rfl ?_
   refine⟨?_,Below.setRow hB (by omega) _⟩
   first|rfl|(rw[if_pos rfl,if_pos rfl,if_pos H0.out];rfl)
  ·have d0:decide (Y 0<0)=false:=decide_eq_false h0
   have H0:=Lib.hid h0
   go_wp2_with (first
    |(refine ac ?hw _ _ rfl _ rfl _ _ _ _ p Tryz.underlying23 rfl ?hi ?_;(case hw=>(first|rfl|(simp[Region.wanted,yielded];done)));(case hi=>(first|kernel_rfl|(rw[ak];kernel_rfl))))
    |(refine ac ?hw _ _ rfl _ rfl _ _ _ _ q Tryz.underlying23 rfl ?hi ?_;(case hw=>(first|rfl|(simp[Region.wanted,yielded];done)));(case hi=>(first|kernel_rfl|(rw[ak];kernel_rfl))))
    |(refine ac ?hw _ _ rfl _ rfl _ _ _ _ r Tryz.underlying23 rfl ?hi ?_;(case hw=>(first|rfl|(simp[Region.wanted,yielded];done)));(case hi=>(first|kernel_rfl|(rw[ak];kernel_rfl))))
    |(refine ac ?hw _ _ rfl _ rfl _ _ _ _ m Tryz.underlying23 rfl ?hi ?_;(case hw=>(first|rfl|(simp[Region.wanted,yielded];done)));(case hi=>(first|kernel_rfl|(rw[ak];kernel_rfl))))
    |(refine ag rfl _ _ _ rfl _ rfl _ rfl _ _ r (by first|kernel_rfl|(rw[ak];kernel_rfl)) (by first|rfl|simp only[ak]) (by first|exact bF _|rfl) ?_))
   refine bodyPost_ret (aq rfl _ _ _ _ _ _ _ rfl (r.row (aj Y)) Tryz.underlying23 rfl (by first|kernel_rfl|(rw[ak];kernel_rfl))) rfl ?_
   refine⟨?_,Below.setRow hB (by omega) _⟩
   first|rfl|(rw[if_pos rfl,if_pos rfl,if_neg H0.out];rfl)
 all_goals
  go_wp2_with (first
   |(refine ac ?hw _ _ rfl _ rfl _ _ _ _ p Tryz.underlying23 rfl ?hi ?_;(case hw=>(first|rfl|(simp[Region.wanted,yielded];done)));(case hi=>(first|kernel_rfl|(rw[ak];kernel_rfl))))
   |(refine ac ?hw _ _ rfl _ rfl _ _ _ _ q Tryz.underlying23 rfl ?hi ?_;(case hw=>(first|rfl|(simp[Region.wanted,yielded];done)));(case hi=>(first|kernel_rfl|(rw[ak];kernel_rfl))))
   |(refine ac ?hw _ _ rfl _ rfl _ _ _ _ r Tryz.underlying23 rfl ?hi ?_;(case hw=>(first|rfl|(simp[Region.wanted,yielded];done)));(case hi=>(first|kernel_rfl|(rw[ak];kernel_rfl))))
   |(go_at_call 5;with_reducible refine(V1.out _).mono ?_;rintro e w1 ⟨rfl,hb⟩;replace hB:=hB.trans (hb.mono hB.size);replace p:=p.below hb p.lt;replace q:=q.below hb q.lt;replace r:=r.below hb r.lt;clear hb)
   |(go_at_call 5;with_reducible refine(V2.out _).mono ?_;rintro e w2 ⟨rfl,hb⟩;replace hB:=hB.trans (hb.mono hB.size);replace p:=p.below hb p.lt;replace q:=q.below hb q.lt;replace r:=r.below hb r.lt;clear hb)
   |(rw[bP];refine ag rfl _ _ _ rfl _ rfl _ rfl _ _ r (by first|kernel_rfl|(rw[ak];kernel_rfl)) (by first|rfl|simp only[ak]) (by first|exact bF _|rfl) ?_))
  refine bodyPost_ret (aq rfl _ _ _ _ _ _ _ rfl (r.row (aj fun _=>0)) Tryz.underlying23 rfl (by first|kernel_rfl|(rw[ak];kernel_rfl))) rfl ?_
  refine⟨?_,Below.setRow hB (by omega) _⟩
  rfl
end Go.Proofs.YtbhahonkhiiilaaGreat
