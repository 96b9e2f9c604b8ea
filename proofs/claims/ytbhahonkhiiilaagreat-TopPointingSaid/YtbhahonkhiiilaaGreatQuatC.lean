/-
  Products of quaternions, in the package: the four components.
-/
import Derived.Test.YtbhahonkhiiilaaGreatMc
import Derived.Test.YtbhahonkhiiilaaGreatMac
import Derived.Test.YtbhahonkhiiilaaGreatFrameV
import Derived.Test.YtbhahonkhiiilaaGreatBase
set_option linter.unusedSimpArgs false
set_option linter.unusedVariables false
set_option maxHeartbeats 16000000
namespace Go.Proofs.YtbhahonkhiiilaaGreat
open Go.RowKit PM Dt
theorem kg {f g:Nat->Int} {i:Nat} {v:Int} (h:i<4) (hx:v=g i) (hg:∀j,j<4->j≠i->f j=g j):(aj f).setIfInBounds i (.int .i64 v)=aj g:=by
 subst hx
 have:i=0\/i=1\/i=2\/i=3:=oa
 rcases this with rfl|rfl|rfl|rfl
 ·unfold aj;rw[hg 1 oa oa,hg 2 oa oa,hg 3 oa oa];rfl
 ·unfold aj;rw[hg 0 oa oa,hg 2 oa oa,hg 3 oa oa];rfl
 ·unfold aj;rw[hg 0 oa oa,hg 1 oa oa,hg 3 oa oa];rfl
 ·unfold aj;rw[hg 0 oa oa,hg 1 oa oa,hg 2 oa oa];rfl
theorem tW {f:Nat->Int} (hf:eX f=true):∀i,i<4->bu (f i):=fun i hi=>s8 ((bN f).1 hf i hi)
def d4 (f g:Nat->Int):Int:=du [f 0,f 1,f 2,f 3] [g 0,g 1,g 2,g 3]
theorem Cx {f g:Nat->Int} (hf:eX f=true) (hg:eX g=true):gK [f 0,f 1,f 2,f 3] [g 0,g 1,g 2,g 3]=gA (d4 f g)/\jY [f 0,f 1,f 2,f 3] [g 0,g 1,g 2,g 3]=0:=by
 have a0:=fh ((bN f).1 hf 0 oa) ((bN g).1 hg 0 oa)
 have a1:=fh ((bN f).1 hf 1 oa) ((bN g).1 hg 1 oa)
 have a2:=fh ((bN f).1 hf 2 oa) ((bN g).1 hg 2 oa)
 have a3:=fh ((bN f).1 hf 3 oa) ((bN g).1 hg 3 oa)
 have e:du [f 0,f 1,f 2,f 3] [g 0,g 1,g 2,g 3]=f 0*g 0+(f 1*g 1+(f 2*g 2+(f 3*g 3+0))):=by rw[aK,aK,aK,aK,cJ]
 have:=uo (S:=du [f 0,f 1,f 2,f 3] [g 0,g 1,g 2,g 3]) (by rw[e];omega) (by rw[e];omega)
 unfold gK jY d4
 rw[if_neg sd,if_neg sd]
 exact this
theorem Da (f g:Nat->Int) (b c:Nat) (w:World) (t:TypeId) (hf:eX f=true) (hg:eX g=true) (p:af w b (aj f) t) (q:af w c (aj g) t):
 Calls Tryz.prog 49 #[.slice (some ⟨b,0,none⟩) 4 4,.slice (some ⟨c,0,none⟩) 4 4] w fun e w'=>e=.returned (.tuple #[.int .i64 (gA (d4 f g)),.int .i64 0])/\Below w.heap.size w w':=
 (ic [f 0,f 1,f 2,f 3] [g 0,g 1,g 2,g 3] _ _ w (Ek p) (Ek q) (oy (tW hf)) (oy (tW hg))).mono fun e w' h=>⟨h.1.trans (by rw[(Cx hf hg).1,(Cx hf hg).2]),h.2⟩
def dh (x:Nat->Int) (k:Nat):Nat->Int:=fun j=>if j<k then x j else 0
theorem rK {x:Nat->Int} {k j:Nat} (h:j≠k):dh x k j=dh x (k+1) j:=by
 have:(j<k+1)=(j<k):=propext oa
 simp only[dh,this]
def JG (f:Nat->Int):Nat->Nat->Int
 |0,0=>f 0
 |0,k=>-f k
 |1,3=>-f 3
 |2,1=>-f 1
 |3,2=>-f 2
 |_,k=>f k
def Ki (g:Nat->Int) (i:Nat):Nat->Int:=fun k=>g (i^^^k)
def IC (f g:Nat->Int) (i:Nat):Int:=gA (d4 (JG f i) (Ki g i))
theorem DQ {f:Nat->Int} (h:eX f=true) {i:Nat} (hi:i<4):eX (JG f i)=true:=by
 have v:=(bN f).1 h
 have n:∀k,k<4->vb (-f k)=true:=fun k hk=>mD (v k hk)
 refine(bN _).2 fun k hk=>?_
 have:i=0\/i=1\/i=2\/i=3:=oa
 have h2:k=0\/k=1\/k=2\/k=3:=oa
 rcases this with rfl|rfl|rfl|rfl<;>rcases h2 with rfl|rfl|rfl|rfl<;>first|exact v _ oa|exact n _ oa
theorem Bb {g:Nat->Int} (h:eX g=true) {i:Nat} (hi:i<4):eX (Ki g i)=true:=by
 have v:=(bN g).1 h
 refine(bN _).2 fun k hk=>?_
 have:i=0\/i=1\/i=2\/i=3:=oa
 have h2:k=0\/k=1\/k=2\/k=3:=oa
 rcases this with rfl|rfl|rfl|rfl<;>rcases h2 with rfl|rfl|rfl|rfl<;>exact v _ da
def jN:Array Value:=#[.int .i64 1,.int .i64 (-1),.int .i64 (-1),.int .i64 (-1),.int .i64 1,.int .i64 1,.int .i64 1,.int .i64 (-1),.int .i64 1,.int .i64 (-1),.int .i64 1,.int .i64 1,.int .i64 1,.int .i64 1,.int .i64 (-1),.int .i64 1]
theorem BN:jN=#[.int .i64 1,.int .i64 (-1),.int .i64 (-1),.int .i64 (-1),.int .i64 1,.int .i64 1,.int .i64 1,.int .i64 (-1),.int .i64 1,.int .i64 (-1),.int .i64 1,.int .i64 1,.int .i64 1,.int .i64 1,.int .i64 (-1),.int .i64 1]:=rfl
def Lo (k:Nat):Int:=if k=1\/k=2\/k=3\/k=7\/k=9\/k=14 then-1 else 1
theorem Fu:∀k,k<16->jN[k]?=some (.int .i64 (Lo k)):=by
 intro k hk
 have:k=0\/k=1\/k=2\/k=3\/k=4\/k=5\/k=6\/k=7\/k=8\/k=9\/k=10\/k=11\/k=12\/k=13\/k=14\/k=15:=oa
 rcases this with rfl|rfl|rfl|rfl|rfl|rfl|rfl|rfl|rfl|rfl|rfl|rfl|rfl|rfl|rfl|rfl<;>rfl
theorem rf:jN.size=16:=rfl
theorem C9:jN.all (·.oneCell')=true:=by simp[jN,Value.oneCell']
attribute [irreducible] jN
theorem E7:bits .xor .i64 0 0=0/\bits .xor .i64 0 1=1/\bits .xor .i64 0 2=2/\bits .xor .i64 0 3=3/\bits .xor .i64 1 0=1/\bits .xor .i64 1 1=0/\bits .xor .i64 1 2=3/\bits .xor .i64 1 3=2/\bits .xor .i64 2 0=2/\bits .xor .i64 2 1=3/\bits .xor .i64 2 2=0/\bits .xor .i64 2 3=1/\bits .xor .i64 3 0=3/\bits .xor .i64 3 1=2/\bits .xor .i64 3 2=1/\bits .xor .i64 3 3=0:=da
theorem Kq {n:Nat} {w2:World} {K R:Act->World->Prop} {G:World->Prop} (hK:∀a' w',Below n w2 w'->G w'->R a' w'->K a' w') {a:Act} {w':World} (b:Below n w2 w') (g:G w') (h:∀w3,Below n w2 w3->G w3->R a w3):K a w':=hK a w' b g (h w' b g)
set_option maxRecDepth 100000 in
theorem CG (i:Nat) (I:Int) (hi:i<4) (hI:I=i) (f g L M S:Nat->Int) (s b c:Nat) (w:World) (hs:af w s jN 98) (p:af w b (aj f) 23) (q:af w c (aj g) 23) (hS:Hid (∀k,k<16->jN[k]?=some (.int .i64 (S k)))) (hL:∀k,k<4->IntKind.i64.wrap (S (4*i+k)*f k)=L k) (hM:∀k,k<4->g (i^^^k)=M k) (X:Int)
 (D:Hid (∀x y w,af w x (aj L) 22->af w y (aj M) 22->Calls Tryz.prog 49 #[.slice (some ⟨x,0,none⟩) 4 4,.slice (some ⟨y,0,none⟩) 4 4] w fun e w'=>e=.returned (.tuple #[.int .i64 X,.int .i64 0])/\Below w.heap.size w w')):
 Calls Tryz.prog 69 #[.int .i64 I,.pointer (some ⟨s,0,none⟩),.pointer (some ⟨b,0,none⟩),.pointer (some ⟨c,0,none⟩)] w fun e w'=>e=.returned (.tuple #[.int .i64 X,.int .i64 0])/\Below w.heap.size w w':=by
 have l0:=hL 0 oa
 have l1:=hL 1 oa
 have l2:=hL 2 oa
 have l3:=hL 3 oa
 have m0:=hM 0 oa
 have m1:=hM 1 oa
 have m2:=hM 2 oa
 have m3:=hM 3 oa
 clear hL hM
 have:i=0/\I=0\/i=1/\I=1\/i=2/\I=2\/i=3/\I=3:=oa
 clear hi hI
 rcases this with⟨rfl,rfl⟩|⟨rfl,rfl⟩|⟨rfl,rfl⟩|⟨rfl,rfl⟩
 all_goals
  simp only[Nat.reduceMul,Nat.reduceAdd,Nat.zero_add]at l0 l1 l2 l3
  simp only[Nat.zero_xor,Nat.xor_zero,Nat.xor_self,Nat.reduceXor]at m0 m1 m2 m3
  replace l0:=aa l0
  replace l1:=aa l1
  replace l2:=aa l2
  replace l3:=aa l3
  replace m0:=aa m0
  replace m1:=aa m1
  replace m2:=aa m2
  replace m3:=aa m3
  go_enter Tryz.func69,Tryz.ntmps69
  go_upto_region 2 with(fail)
  rw[bP]
  have hs0:=hs.lt
  have p0:=p.lt
  have q0:=q.lt
  replace hs:=(hs.alloc (.cells (aj fun _=>0) 22)).alloc (.cells (aj fun _=>0) 22)
  replace p:=(p.alloc (.cells (aj fun _=>0) 22)).alloc (.cells (aj fun _=>0) 22)
  replace q:=(q.alloc (.cells (aj fun _=>0) 22)).alloc (.cells (aj fun _=>0) 22)
  have l:af ((w.alloc (.cells (aj fun _=>0) 22)).alloc (.cells (aj fun _=>0) 22)) w.heap.size (aj fun _=>0) 22:=(af.new _ _ _).alloc _
  have m:af ((w.alloc (.cells (aj fun _=>0) 22)).alloc (.cells (aj fun _=>0) 22)) (w.heap.size+1) (aj fun _=>0) 22:=af.new' sd
  have hB:Below w.heap.size w ((w.alloc (.cells (aj fun _=>0) 22)).alloc (.cells (aj fun _=>0) 22)):=by go_grown
  generalize(w.alloc (.cells (aj fun _=>0) 22)).alloc (.cells (aj fun _=>0) 22)=w0 at *
  go_wp2_with (fail)
  go_loopg [10] 4 (fun g_ iv wr=>∃k:Nat,g_+k=4/\iv=.int .i64 k/\af wr s jN 98/\af wr b (aj f) 23/\af wr c (aj g) 23/\af wr w.heap.size (aj (dh L k)) 22/\af wr (w.heap.size+1) (aj (dh M k)) 22/\Below w.heap.size w wr)
  case atStart=>exact⟨0,rfl,rfl,hs,p,q,by rw[show aj (dh L 0)=aj (fun _=>0)from dN fun i _=>by simp[dh]];exact l,by rw[show aj (dh M 0)=aj (fun _=>0)from dN fun i _=>by simp[dh]];exact m,hB⟩
  case round=>
   clear hs p q l m hB
   obtain⟨k,hk,rfl,hs,p,q,l,m,hB⟩:=hrel
   obtain⟨K,hK⟩:∃K,K=k:=⟨_,rfl⟩
   rw[<-hK]at l m
   have hcase:k=0\/k=1\/k=2\/k=3\/k=4:=oa
   rcases hcase with rfl|rfl|rfl|rfl|rfl
   iterate 4
    ·replace hK:=aa hK
     go_upto_region 5 with(fail)
     refine tY 20 w.heap.size [17,19] (fun bs wx=>af wx w.heap.size (aj (dh L (K+cond (bs.getD 0 false) 1 0))) 22/\af wx (w.heap.size+1) (aj (dh M (K+cond (bs.getD 1 false) 1 0))) 22) rfl ke hB.size (fun bs w1 w2 h hm=>⟨h.1.below hm h.1.lt,h.2.below hm h.2.lt⟩) ⟨l.drew,m.drew⟩ ?_
     replace hs:=hs.drew
     replace p:=p.drew
     replace q:=q.drew
     replace hB:Below w.heap.size w wr.drew:=hB.drew
     clear l m
     generalize wr.drew=wd at *
     refine cY 0 _ rfl rfl ke rfl (fun w1 h1=>by go_simp;exact⟨rfl,Below.refl _ _⟩) ?_
     simp only[Act.put,aL,aM,aN]
     refine cY 1 _ rfl rfl ke rfl (fun w1 h1=>by go_simp;exact⟨rfl,Below.refl _ _⟩) ?_
     simp only[Act.put,aL,aM,aN]
     refine cY 2 _ rfl rfl ke rfl (fun w1 h1=>by go_simp;exact⟨rfl,Below.refl _ _⟩) ?_
     simp only[Act.put,aL,aM,aN]
     refine cY 3 _ rfl rfl ke rfl (fun w1 h1=>by go_simp;exact⟨rfl,Below.refl _ _⟩) ?_
     simp only[Act.put,aL,aM,aN]
     refine cY 4 _ rfl rfl ke rfl (fun w1 h1=>by go_simp;exact⟨rfl,Below.refl _ _⟩) ?_
     simp only[Act.put,aL,aM,aN]
     refine cY 5 _ rfl rfl ke rfl (fun w1 h1=>by go_simp;exact⟨rfl,Below.refl _ _⟩) ?_
     simp only[Act.put,aL,aM,aN]
     refine cY 6 _ rfl rfl ke rfl (fun w1 h1=>by have hc:=fun k hk=>(hs.below h1 hs0).cellIs (hS.out k hk);go_simp;exact⟨rfl,Below.refl _ _⟩) ?_
     simp only[Act.put,aL,aM,aN]
     refine cY 7 _ rfl rfl ke rfl (fun w1 h1=>by go_simp;exact⟨rfl,Below.refl _ _⟩) ?_
     simp only[Act.put,aL,aM,aN]
     refine cY 8 _ rfl rfl ke rfl (fun w1 h1=>by go_simp;exact⟨rfl,Below.refl _ _⟩) ?_
     simp only[Act.put,aL,aM,aN]
     refine cY 9 _ rfl rfl ke rfl (fun w1 h1=>by have hc:=fun k hk=>(p.below h1 p0).cellIs (aD (i:=k) f hk);go_simp;exact⟨rfl,Below.refl _ _⟩) ?_
     simp only[Act.put,aL,aM,aN]
     refine cY 10 _ rfl rfl ke rfl (fun w1 h1=>by go_simp;simp only[l0.out,l1.out,l2.out,l3.out];exact⟨rfl,Below.refl _ _⟩) ?_
     simp only[Act.put,aL,aM,aN]
     refine cY 11 _ rfl rfl ke rfl (fun w1 h1=>by go_simp;exact⟨rfl,Below.refl _ _⟩) ?_
     simp only[Act.put,aL,aM,aN]
     refine cY 12 _ rfl rfl ke rfl (fun w1 h1=>by go_simp;exact⟨rfl,Below.refl _ _⟩) ?_
     simp only[Act.put,aL,aM,aN]
     refine cY 13 _ rfl rfl ke rfl (fun w1 h1=>by have xt:=E7;go_simp;exact⟨rfl,Below.refl _ _⟩) ?_
     simp only[Act.put,aL,aM,aN]
     refine cY 14 _ rfl rfl ke rfl (fun w1 h1=>by go_simp;exact⟨rfl,Below.refl _ _⟩) ?_
     simp only[Act.put,aL,aM,aN]
     refine cY 15 _ rfl rfl ke rfl (fun w1 h1=>by have hc:=fun k hk=>(q.below h1 q0).cellIs (aD (i:=k) g hk);go_simp;simp only[m0.out,m1.out,m2.out,m3.out];exact⟨rfl,Below.refl _ _⟩) ?_
     simp only[Act.put,aL,aM,aN]
     refine cY 16 _ rfl rfl ke rfl (fun w1 h1=>by go_simp;exact⟨rfl,Below.refl _ _⟩) ?_
     simp only[Act.put,aL,aM,aN]
     refine xN 17 rfl rfl ke [false,false] [true,false] rfl rfl (fun w2 h2 ⟨l,m⟩ KK hKK=>?_)
     replace l:af w2 w.heap.size (aj (dh L K)) 22:=l
     replace m:af w2 (w.heap.size+1) (aj (dh M K)) 22:=m
     have fz:=fun k=>l.free k
     have cz:=fun k hk=>l.cellIs (aD (i:=k) (dh L K) hk)
     go_simp
     refine Kq hKK ((Below.refl _ _).setCell sd _) ⟨l.set' (kg (g:=dh L (K+1)) oa (by simp[dh,hK.out]) (fun j hj hne=>rK (by have:=hK.out;omega))),m.setOther sd _⟩ (fun w3 b3 ⟨l,m⟩=>?_)
     clear fz cz hKK KK
     replace hB:=hB.trans (h2.trans b3)
     have h23:=h2.trans b3
     refine cY 18 _ rfl rfl ke rfl (fun w1 h1=>by go_simp;exact⟨rfl,Below.refl _ _⟩) ?_
     simp only[Act.put,aL,aM,aN]
     refine xN 19 rfl rfl ke [true,false] [true,true] rfl rfl (fun w4 h4 ⟨l,m⟩ KK hKK=>?_)
     replace l:af w4 w.heap.size (aj (dh L (K+1))) 22:=l
     replace m:af w4 (w.heap.size+1) (aj (dh M K)) 22:=m
     have fz:=fun k=>m.free k
     have cz:=fun k hk=>m.cellIs (aD (i:=k) (dh M K) hk)
     go_simp
     refine Kq hKK ((Below.refl _ _).setCell sd _) ⟨l.setOther sd _,m.set' (kg (g:=dh M (K+1)) oa (by simp[dh,hK.out]) (fun j hj hne=>rK (by have:=hK.out;omega)))⟩ (fun w5 b5 ⟨l,m⟩=>?_)
     clear fz cz hKK KK
     replace hB:=hB.trans (h4.trans b5)
     have h25:=h23.trans (h4.trans b5)
     refine Fz ke [true,true] rfl (fun w6 h6 ⟨l,m⟩=>?_)
     replace l:af w6 w.heap.size (aj (dh L (K+1))) 22:=l
     replace m:af w6 (w.heap.size+1) (aj (dh M (K+1))) 22:=m
     have h26:=h25.trans h6
     replace hs:=hs.below h26 hs0
     replace p:=p.below h26 p0
     replace q:=q.below h26 q0
     replace hB:=hB.trans h6
     go_wp2_with (fail)
     have hK:=hK.out
     first
      | (have hz:K=0:=oa
         go_roundg 3
         case rel=>exact⟨1,oa,rfl,hs,p,q,by rw[hz]at l;exact l,by rw[hz]at m;exact m,hB⟩
         case measure=>omega)
      | (have hz:K=1:=oa
         go_roundg 2
         case rel=>exact⟨2,oa,rfl,hs,p,q,by rw[hz]at l;exact l,by rw[hz]at m;exact m,hB⟩
         case measure=>omega)
      | (have hz:K=2:=oa
         go_roundg 1
         case rel=>exact⟨3,oa,rfl,hs,p,q,by rw[hz]at l;exact l,by rw[hz]at m;exact m,hB⟩
         case measure=>omega)
      | (have hz:K=3:=oa
         go_roundg 0
         case rel=>exact⟨4,oa,rfl,hs,p,q,by rw[hz]at l;exact l,by rw[hz]at m;exact m,hB⟩
         case measure=>omega)
   ·subst hK
    have e4:aj (dh L 4)=aj L:=dN fun i hi=>by simp[dh,hi]
    have e5:aj (dh M 4)=aj M:=dN fun i hi=>by simp[dh,hi]
    rw[e4]at l
    rw[e5]at m
    go_upto_region 7 with(fail)
    refine bV 99 7 rfl ke ?_
    replace l:=l.drew
    replace m:=m.drew
    replace hB:Below w.heap.size w wr.drew:=hB.drew
    generalize wr.drew=wo at *
    refine ai 0 (.slice (some ⟨w.heap.size,0,none⟩) 4 4) rfl rfl ke (fun w1=>by go_simp;exact⟨rfl,Below.refl _ _⟩) ?_
    simp only[Act.put,aL,aM,aN]
    refine ai 1 (.slice (some ⟨w.heap.size+1,0,none⟩) 4 4) rfl rfl ke (fun w1=>by go_simp;exact⟨rfl,Below.refl _ _⟩) ?_
    simp only[Act.put,aL,aM,aN]
    refine aV 2 (.tuple #[.int .i64 X,.int .i64 0]) rfl rfl ke ke (fun w1 h1=>?_) ?_
    ·go_simp
     exact(D.out _ _ _ (l.below h1 l.lt) (m.below h1 m.lt)).mono rC
    simp only[Act.put,aL,aM,aN]
    refine ai 3 (.int .i64 X) rfl rfl ke (fun w1=>by go_simp;exact⟨rfl,Below.refl _ _⟩) ?_
    simp only[Act.put,aL,aM,aN]
    refine ai 4 (.int .i64 0) rfl rfl ke (fun w1=>by go_simp;exact⟨rfl,Below.refl _ _⟩) ?_
    simp only[Act.put,aL,aM,aN]
    refine ai 5 (.int .i64 X) rfl rfl ke (fun w1=>by go_simp;exact⟨rfl,Below.refl _ _⟩) ?_
    simp only[Act.put,aL,aM,aN]
    refine ai 6 (.int .i64 0) rfl rfl ke (fun w1=>by go_simp;exact⟨rfl,Below.refl _ _⟩) ?_
    simp only[Act.put,aL,aM,aN]
    refine dq ke (fun w3 h3=>?_)
    replace hB:=hB.trans (h3.mono hB.size)
    go_wp2_with (fail)
    go_ret2
    exact⟨rfl,hB⟩
theorem Ea (f g:Nat->Int) (s b c:Nat) (w:World) (hf:eX f=true) (hg:eX g=true) (hs:af w s jN 98) (p:af w b (aj f) 23) (q:af w c (aj g) 23) (i:Nat) (hi:i<4):
 Calls Tryz.prog 69 #[.int .i64 i,.pointer (some ⟨s,0,none⟩),.pointer (some ⟨b,0,none⟩),.pointer (some ⟨c,0,none⟩)] w fun e w'=>e=.returned (.tuple #[.int .i64 (IC f g i),.int .i64 0])/\Below w.heap.size w w':=by
 have b1:∀k,k<4->IntKind.i64.wrap (1*f k)=f k:=fun k hk=>by have:=tW hf k hk;rw[wI];have:=this.1;have:=(tW hf k hk).2;omega
 have b2:∀k,k<4->IntKind.i64.wrap ((-1)*f k)=-f k:=fun k hk=>by have h:=(bE _).1 ((bN f).1 hf k hk);rw[wI];omega
 refine CG i _ hi rfl f g (JG f i) (Ki g i) Lo s b c w hs p q Fu ?_ (fun k hk=>rfl) _ (fun x y w h1 h2=>Da _ _ x y w _ (DQ hf hi) (Bb hg hi) h1 h2)
 have h0:i=0\/i=1\/i=2\/i=3:=oa
 intro k hk
 have h1:k=0\/k=1\/k=2\/k=3:=oa
 rcases h0 with rfl|rfl|rfl|rfl<;>rcases h1 with rfl|rfl|rfl|rfl<;>first|exact b1 _ oa|exact b2 _ oa
end Go.Proofs.YtbhahonkhiiilaaGreat
