/-
  The matrix of a quaternion, in the package.
-/
import Derived.Test.YtbhahonkhiiilaaGreatMc
import Derived.Test.YtbhahonkhiiilaaGreatMac
import Derived.Test.YtbhahonkhiiilaaGreatQuatD
import Derived.Test.YtbhahonkhiiilaaGreatVecO
import Derived.Test.YtbhahonkhiiilaaGreatBase
import Derived.Test.YtbhahonkhiiilaaGreatQuatD
set_option linter.unusedSimpArgs false
set_option linter.unusedVariables false
set_option maxHeartbeats 8000000
namespace Go.Proofs.YtbhahonkhiiilaaGreat
open Go.RowKit PM Dt
abbrev Wd (a:Int):Prop:=-2199023255552<=a/\a<=2199023255552
theorem Wd.I {a:Int} (h:Wd a):bu a:=⟨by have:=h.1;omega,by have:=h.2;omega⟩
theorem kE {a b:Int} (ha:Wd a) (hb:Wd b):-4835703278458516698824704<=a*b/\a*b<=4835703278458516698824704:=
 bR (P:=2199023255552) (R:=2199023255552) ha.1 ha.2 hb.1 hb.2
theorem yX {a b c d:Int} (ha:Wd a) (hb:Wd b) (hc:Wd c) (hd:Wd d):∀k,k< [a,b,c,d].length->bu ([a,b,c,d].getD k 0):=by
 intro k hk
 rcases k with _|_|_|_|k
 ·exact ha.I
 ·exact hb.I
 ·exact hc.I
 ·exact hd.I
 ·simp at hk;omega
theorem DX {w:World} {b:Nat} {a0 a1 a2 a3:Int} {t:TypeId} (h:af w b #[.int .i64 a0,.int .i64 a1,.int .i64 a2,.int .i64 a3] t):iL w (.slice (some ⟨b,0,none⟩) 4 4) [a0,a1,a2,a3]:=
 Or.inr ⟨by simp,b,0,4,rfl,h.lt,fun k hk=>by
  rcases k with _|_|_|_|k
  ·exact h.cellIs rfl
  ·exact h.cellIs rfl
  ·exact h.cellIs rfl
  ·exact h.cellIs rfl
  ·simp at hk;omega⟩
theorem J9 {a0 a1 a2 a3 b0 b1 b2 b3:Int} (ha0:Wd a0) (ha1:Wd a1) (ha2:Wd a2) (ha3:Wd a3) (hb0:Wd b0) (hb1:Wd b1) (hb2:Wd b2) (hb3:Wd b3):
 gK [a0,a1,a2,a3] [b0,b1,b2,b3]=gA (du [a0,a1,a2,a3] [b0,b1,b2,b3])/\jY [a0,a1,a2,a3] [b0,b1,b2,b3]=0:=by
 have p0:=kE ha0 hb0
 have p1:=kE ha1 hb1
 have p2:=kE ha2 hb2
 have p3:=kE ha3 hb3
 have e:du [a0,a1,a2,a3] [b0,b1,b2,b3]=a0*b0+(a1*b1+(a2*b2+(a3*b3+0))):=by rw[aK,aK,aK,aK,cJ]
 have:=uo (S:=du [a0,a1,a2,a3] [b0,b1,b2,b3]) (by rw[e];omega) (by rw[e];omega)
 unfold gK jY
 rw[if_neg sd,if_neg sd]
 exact this
theorem Kw {a0 a1 b0 b1:Int} (ha0:Wd a0) (ha1:Wd a1) (hb0:Wd b0) (hb1:Wd b1):
 gK [a0,a1] [b0,b1]=gA (du [a0,a1] [b0,b1])/\jY [a0,a1] [b0,b1]=0:=by
 have p0:=kE ha0 hb0
 have p1:=kE ha1 hb1
 have e:du [a0,a1] [b0,b1]=a0*b0+(a1*b1+0):=by rw[aK,aK,cJ]
 have:=uo (S:=du [a0,a1] [b0,b1]) (by rw[e];omega) (by rw[e];omega)
 unfold gK jY
 rw[if_neg sd,if_neg sd]
 exact this
theorem KR {a0 a1 a2 a3 b0 b1 b2 b3:Int} (ha0:Wd a0) (ha1:Wd a1) (ha2:Wd a2) (ha3:Wd a3) (hb0:Wd b0) (hb1:Wd b1) (hb2:Wd b2) (hb3:Wd b3) (X:Int) (hX:gA (du [a0,a1,a2,a3] [b0,b1,b2,b3])=X) (x y:Nat) (w:World) (t:TypeId)
 (p:af w x #[.int .i64 a0,.int .i64 a1,.int .i64 a2,.int .i64 a3] t) (q:af w y #[.int .i64 b0,.int .i64 b1,.int .i64 b2,.int .i64 b3] t):
 Calls Tryz.prog 49 #[.slice (some ⟨x,0,none⟩) 4 4,.slice (some ⟨y,0,none⟩) 4 4] w fun e w'=>e=.returned (.tuple #[.int .i64 X,.int .i64 0])/\Below w.heap.size w w':=
 (ic [a0,a1,a2,a3] [b0,b1,b2,b3] _ _ w (DX p) (DX q) (yX ha0 ha1 ha2 ha3) (yX hb0 hb1 hb2 hb3)).mono fun e w' h=>⟨h.1.trans (by rw[(J9 ha0 ha1 ha2 ha3 hb0 hb1 hb2 hb3).1,(J9 ha0 ha1 ha2 ha3 hb0 hb1 hb2 hb3).2,hX]),h.2⟩
theorem Jo {a0 a1 b0 b1:Int} (ha0:Wd a0) (ha1:Wd a1) (hb0:Wd b0) (hb1:Wd b1) (X:Int) (hX:gA (du [a0,a1] [b0,b1])=X) (x y:Nat) (w:World) (t:TypeId)
 (p:af w x #[.int .i64 a0,.int .i64 a1] t) (q:af w y #[.int .i64 b0,.int .i64 b1] t):
 Calls Tryz.prog 49 #[.slice (some ⟨x,0,none⟩) 2 2,.slice (some ⟨y,0,none⟩) 2 2] w fun e w'=>e=.returned (.tuple #[.int .i64 X,.int .i64 0])/\Below w.heap.size w w':=
 (ic [a0,a1] [b0,b1] _ _ w (sH p) (sH q) (ou ha0.I ha1.I) (ou hb0.I hb1.I)).mono fun e w' h=>⟨h.1.trans (by rw[(Kw ha0 ha1 hb0 hb1).1,(Kw ha0 ha1 hb0 hb1).2,hX]),h.2⟩
def bD (f:Nat->Int):Nat->Int
 |0=>f 0*f 0+f 1*f 1-f 2*f 2-f 3*f 3
 |1=>2* (f 1*f 2)-2* (f 0*f 3)
 |2=>2* (f 1*f 3)+2* (f 0*f 2)
 |3=>2* (f 1*f 2)+2* (f 0*f 3)
 |4=>f 0*f 0-f 1*f 1+f 2*f 2-f 3*f 3
 |5=>2* (f 2*f 3)-2* (f 0*f 1)
 |6=>2* (f 1*f 3)-2* (f 0*f 2)
 |7=>2* (f 2*f 3)+2* (f 0*f 1)
 |_=>f 0*f 0-f 1*f 1-f 2*f 2+f 3*f 3
def bL (f:Nat->Int) (j:Nat):Int:=gA (bD f j)
theorem K3 (a0 a1 a2 a3 b0 b1 b2 b3:Int):du [a0,a1,a2,a3] [b0,b1,b2,b3]=a0*b0+(a1*b1+(a2*b2+(a3*b3+0))):=by rw[aK,aK,aK,aK,cJ]
theorem Jm (a0 a1 b0 b1:Int):du [a0,a1] [b0,b1]=a0*b0+(a1*b1+0):=by rw[aK,aK,cJ]
def xW (f:Nat->Int):Nat->Int:=if au f then bL f else fun _=>0
def yO (f:Nat->Int):Int:=if au f then 0 else 2
def m7 (x:Nat->Int) (n:Nat):Nat->Int:=fun j=>if j<n then x j else 0
theorem zK {x:Nat->Int} {k j:Nat} (h:j≠k):m7 x k j=m7 x (k+1) j:=by
 have:(j<k+1)=(j<k):=propext oa
 simp only[m7,this]
theorem Jr (f:Nat->Int):du [f 0,f 1,-f 2,-f 3] [f 0,f 1,f 2,f 3]=bD f 0:=by
 rw[K3];show _=_;simp only[bD,Int.neg_mul];omega
theorem J0 (f:Nat->Int):du [2*f 1,-2*f 0] [f 2,f 3]=bD f 1:=by
 rw[Jm];show _=_;simp only[bD,Int.mul_assoc,Int.neg_mul]
 have c1:=Int.mul_comm (f 1) (f 2)
 have c2:=Int.mul_comm (f 1) (f 3)
 have c3:=Int.mul_comm (f 2) (f 3)
 omega
theorem Jv (f:Nat->Int):du [2*f 1,2*f 0] [f 3,f 2]=bD f 2:=by
 rw[Jm];show _=_;simp only[bD,Int.mul_assoc,Int.neg_mul]
 have c1:=Int.mul_comm (f 1) (f 2)
 have c2:=Int.mul_comm (f 1) (f 3)
 have c3:=Int.mul_comm (f 2) (f 3)
 omega
theorem J6 (f:Nat->Int):du [2*f 2,2*f 0] [f 1,f 3]=bD f 3:=by
 rw[Jm];show _=_;simp only[bD,Int.mul_assoc,Int.neg_mul]
 have c1:=Int.mul_comm (f 1) (f 2)
 have c2:=Int.mul_comm (f 1) (f 3)
 have c3:=Int.mul_comm (f 2) (f 3)
 omega
theorem KG (f:Nat->Int):du [f 0,f 2,-f 3,-f 1] [f 0,f 2,f 3,f 1]=bD f 4:=by
 rw[K3];show _=_;simp only[bD,Int.neg_mul];omega
theorem Kf (f:Nat->Int):du [2*f 2,-2*f 0] [f 3,f 1]=bD f 5:=by
 rw[Jm];show _=_;simp only[bD,Int.mul_assoc,Int.neg_mul]
 have c1:=Int.mul_comm (f 1) (f 2)
 have c2:=Int.mul_comm (f 1) (f 3)
 have c3:=Int.mul_comm (f 2) (f 3)
 omega
theorem J7 (f:Nat->Int):du [2*f 3,-2*f 0] [f 1,f 2]=bD f 6:=by
 rw[Jm];show _=_;simp only[bD,Int.mul_assoc,Int.neg_mul]
 have c1:=Int.mul_comm (f 1) (f 2)
 have c2:=Int.mul_comm (f 1) (f 3)
 have c3:=Int.mul_comm (f 2) (f 3)
 omega
theorem J4 (f:Nat->Int):du [2*f 3,2*f 0] [f 2,f 1]=bD f 7:=by
 rw[Jm];show _=_;simp only[bD,Int.mul_assoc,Int.neg_mul]
 have c1:=Int.mul_comm (f 1) (f 2)
 have c2:=Int.mul_comm (f 1) (f 3)
 have c3:=Int.mul_comm (f 2) (f 3)
 omega
theorem KI (f:Nat->Int):du [f 0,f 3,-f 1,-f 2] [f 0,f 3,f 1,f 2]=bD f 8:=by
 rw[K3];show _=_;simp only[bD,Int.neg_mul];omega
theorem cA {f:Nat->Int} (h:eX f=true) {i:Nat} (hi:i<4):Wd (f i)/\Wd (-f i)/\Wd (2*f i)/\Wd (-2*f i):=by
 have:=(bE _).1 ((bN f).1 h i hi)
 unfold Wd
 omega
theorem eG:IntKind.i64.wrap 0=0/\IntKind.i64.wrap 1=1/\IntKind.i64.wrap 2=2/\IntKind.i64.wrap 3=3/\IntKind.i64.wrap 4=4/\IntKind.i64.wrap 5=5/\IntKind.i64.wrap 6=6/\IntKind.i64.wrap 7=7/\IntKind.i64.wrap 8=8/\IntKind.i64.wrap 9=9:=da
theorem FF {R:World->Prop} {w w6:World} {n b r mb e K:Nat} {cp cr:Array Value} {tp tr tm:TypeId} {X:Nat->Int} {v:Int} (p:af w6 b cp tp) (q:af w6 r cr tr) (m:af w6 mb (cH (m7 X K)) tm) (hB:Below n w w6) (h1:b≠mb) (h2:r≠mb) (h3:n<=mb) (he:e=K) (hK:K<9) (hv:v=X e) (h:∀w7,af w7 b cp tp->af w7 r cr tr->af w7 mb (cH (m7 X (K+1))) tm->Below n w w7->R w7):R (w6.setCell ⟨mb,e,none⟩ (.int .i64 v)):=by
 subst he
 exact h _ (p.setOther h1 _) (q.setOther h2 _) (m.set' (EJ hK (by simp[m7,hv]) (fun j hj hne=>zK hne))) (hB.setCell h3 _)
def KP (sk:List Nat):List Bool->Nat->Option Nat
 |[],_=>none
 |true::l,k=>KP sk l (k+1)
 |false::l,k=>bif sk.contains k then KP sk l (k+1)else some k
theorem yL {P:Program} {l:List Oper} {n:Nat} {Q:Exit->Act->World->Prop} {f:Nat} {listed:Array Bool} {a:Act} {w:World} {i:Nat} (hi:KP [] listed.toList 0=some i) {o:Oper} (v:Value) (ho':l[i]?=some o) (hg:o.guard=none)
 (hB:DS l.toArray n i listed=true) (h:∀w1,bl w w1->gU P (bl w1) v ((execOp a.eval o).run P w1))
 (h2:oR P l.toArray n Q f (listed.setIfInBounds i true) (a.put o.dst v) w):oR P l.toArray n Q (f+1) listed a w:=ao i v ho' hg hB h h2
theorem gL {P:Program} (sk:List Nat) {l:List Oper} {e:Nat} {Q:Exit->Act->World->Prop} {f:Nat} {listed:Array Bool} {a:Act} {w:World} {i:Nat} (hi:KP sk listed.toList 0=some i) {o:Oper} (v:Value) (ho':l[i]?=some o) (hg:o.guard=none)
 (hB:lc l.toArray i listed=true) (h:∀w1,gU P (bl w1) v ((execOp a.eval o).run P w1))
 (h2:nU P .any l.toArray e Q f (listed.setIfInBounds i true) (a.put o.dst v) w):nU P .any l.toArray e Q (f+1) listed a w:=ai i v ho' hg hB h h2
set_option maxRecDepth 100000 in
theorem uG (f:Nat->Int) (w:World) (hI:∀i,i<4->bu (f i)):Calls Tryz.prog 96 #[.agg (aj f)] w fun e w'=>e=.returned (.tuple #[.agg (cH (xW f)),.int .i64 (yO f)])/\Below w.heap.size w w':=by
 have V:=aa (fun w=>cU f w hI)
 unfold xW yO
 obtain⟨bv,hv⟩:∃b,au f=b:=⟨_,rfl⟩
 rw[hv]at V|-
 have HV:=aa hv
 obtain⟨X,hX⟩:∃X,X=bL f:=⟨_,rfl⟩
 rw[<-hX]
 have HX0:=aa hX
 clear hv hX
 go_enter Tryz.func96,Tryz.ntmps96
 go_upto_region 1 with(fail)
 rw[ix]
 have p:af ((w.alloc (.cells (aj f) 23)).alloc (.cells (cH fun _=>0) 143)) w.heap.size (aj f) 23:=(af.new _ _ _).alloc _
 have r:af ((w.alloc (.cells (aj f) 23)).alloc (.cells (cH fun _=>0) 143)) (w.heap.size+1) (cH fun _=>0) 143:=af.new' sd
 have hB:Below w.heap.size w ((w.alloc (.cells (aj f) 23)).alloc (.cells (cH fun _=>0) 143)):=by go_grown
 generalize(w.alloc (.cells (aj f) 23)).alloc (.cells (cH fun _=>0) 143)=w0 at *
 cases bv
 ·go_wp2_with (first
   |(refine ac ?hw _ _ rfl _ rfl _ _ _ _ p yb rfl ?hi ?_;(case hw=>exact rW);(case hi=>exact rI))
   |(go_at_call 5;with_reducible refine(V.out _).mono ?_;rintro e w1 ⟨rfl,hb⟩;replace hB:=hB.trans (hb.mono hB.size);replace p:=p.below hb p.lt;replace r:=r.below hb r.lt;clear hb)
   |(rw[ix];refine ag rfl _ _ _ rfl _ rfl _ rfl _ _ r rI (by simp only[ex]) (kl _) ?_))
  refine bodyPost_ret (aq rfl _ _ _ _ _ _ _ rfl (r.row (cH (fun _=>0))) ye rfl rI) rfl ?_;refine⟨?_,Below.setRow hB oa _⟩
  rfl
 have ho:=q7 hI HV.out
 have D0:Hid (∀x y w,af w x #[.int .i64 (f 0),.int .i64 (f 1),.int .i64 (-f 2),.int .i64 (-f 3)] 2->af w y #[.int .i64 (f 0),.int .i64 (f 1),.int .i64 (f 2),.int .i64 (f 3)] 2->Calls Tryz.prog 49 #[.slice (some ⟨x,0,none⟩) 4 4,.slice (some ⟨y,0,none⟩) 4 4] w fun e w'=>e=.returned (.tuple #[.int .i64 (bL f 0),.int .i64 0])/\Below w.heap.size w w'):=fun x y w h1 h2=>KR (cA ho (i:=0) oa).1 (cA ho (i:=1) oa).1 (cA ho (i:=2) oa).2.1 (cA ho (i:=3) oa).2.1 (cA ho (i:=0) oa).1 (cA ho (i:=1) oa).1 (cA ho (i:=2) oa).1 (cA ho (i:=3) oa).1 (bL f 0) (by rw[Jr];rfl) x y w _ h1 h2
 have D1:Hid (∀x y w,af w x #[.int .i64 (2*f 1),.int .i64 (-2*f 0)] 2->af w y #[.int .i64 (f 2),.int .i64 (f 3)] 2->Calls Tryz.prog 49 #[.slice (some ⟨x,0,none⟩) 2 2,.slice (some ⟨y,0,none⟩) 2 2] w fun e w'=>e=.returned (.tuple #[.int .i64 (bL f 1),.int .i64 0])/\Below w.heap.size w w'):=fun x y w h1 h2=>Jo (cA ho (i:=1) oa).2.2.1 (cA ho (i:=0) oa).2.2.2 (cA ho (i:=2) oa).1 (cA ho (i:=3) oa).1 (bL f 1) (by rw[J0];rfl) x y w _ h1 h2
 have D2:Hid (∀x y w,af w x #[.int .i64 (2*f 1),.int .i64 (2*f 0)] 2->af w y #[.int .i64 (f 3),.int .i64 (f 2)] 2->Calls Tryz.prog 49 #[.slice (some ⟨x,0,none⟩) 2 2,.slice (some ⟨y,0,none⟩) 2 2] w fun e w'=>e=.returned (.tuple #[.int .i64 (bL f 2),.int .i64 0])/\Below w.heap.size w w'):=fun x y w h1 h2=>Jo (cA ho (i:=1) oa).2.2.1 (cA ho (i:=0) oa).2.2.1 (cA ho (i:=3) oa).1 (cA ho (i:=2) oa).1 (bL f 2) (by rw[Jv];rfl) x y w _ h1 h2
 have D3:Hid (∀x y w,af w x #[.int .i64 (2*f 2),.int .i64 (2*f 0)] 2->af w y #[.int .i64 (f 1),.int .i64 (f 3)] 2->Calls Tryz.prog 49 #[.slice (some ⟨x,0,none⟩) 2 2,.slice (some ⟨y,0,none⟩) 2 2] w fun e w'=>e=.returned (.tuple #[.int .i64 (bL f 3),.int .i64 0])/\Below w.heap.size w w'):=fun x y w h1 h2=>Jo (cA ho (i:=2) oa).2.2.1 (cA ho (i:=0) oa).2.2.1 (cA ho (i:=1) oa).1 (cA ho (i:=3) oa).1 (bL f 3) (by rw[J6];rfl) x y w _ h1 h2
 have D4:Hid (∀x y w,af w x #[.int .i64 (f 0),.int .i64 (f 2),.int .i64 (-f 3),.int .i64 (-f 1)] 2->af w y #[.int .i64 (f 0),.int .i64 (f 2),.int .i64 (f 3),.int .i64 (f 1)] 2->Calls Tryz.prog 49 #[.slice (some ⟨x,0,none⟩) 4 4,.slice (some ⟨y,0,none⟩) 4 4] w fun e w'=>e=.returned (.tuple #[.int .i64 (bL f 4),.int .i64 0])/\Below w.heap.size w w'):=fun x y w h1 h2=>KR (cA ho (i:=0) oa).1 (cA ho (i:=2) oa).1 (cA ho (i:=3) oa).2.1 (cA ho (i:=1) oa).2.1 (cA ho (i:=0) oa).1 (cA ho (i:=2) oa).1 (cA ho (i:=3) oa).1 (cA ho (i:=1) oa).1 (bL f 4) (by rw[KG];rfl) x y w _ h1 h2
 have D5:Hid (∀x y w,af w x #[.int .i64 (2*f 2),.int .i64 (-2*f 0)] 2->af w y #[.int .i64 (f 3),.int .i64 (f 1)] 2->Calls Tryz.prog 49 #[.slice (some ⟨x,0,none⟩) 2 2,.slice (some ⟨y,0,none⟩) 2 2] w fun e w'=>e=.returned (.tuple #[.int .i64 (bL f 5),.int .i64 0])/\Below w.heap.size w w'):=fun x y w h1 h2=>Jo (cA ho (i:=2) oa).2.2.1 (cA ho (i:=0) oa).2.2.2 (cA ho (i:=3) oa).1 (cA ho (i:=1) oa).1 (bL f 5) (by rw[Kf];rfl) x y w _ h1 h2
 have D6:Hid (∀x y w,af w x #[.int .i64 (2*f 3),.int .i64 (-2*f 0)] 2->af w y #[.int .i64 (f 1),.int .i64 (f 2)] 2->Calls Tryz.prog 49 #[.slice (some ⟨x,0,none⟩) 2 2,.slice (some ⟨y,0,none⟩) 2 2] w fun e w'=>e=.returned (.tuple #[.int .i64 (bL f 6),.int .i64 0])/\Below w.heap.size w w'):=fun x y w h1 h2=>Jo (cA ho (i:=3) oa).2.2.1 (cA ho (i:=0) oa).2.2.2 (cA ho (i:=1) oa).1 (cA ho (i:=2) oa).1 (bL f 6) (by rw[J7];rfl) x y w _ h1 h2
 have D7:Hid (∀x y w,af w x #[.int .i64 (2*f 3),.int .i64 (2*f 0)] 2->af w y #[.int .i64 (f 2),.int .i64 (f 1)] 2->Calls Tryz.prog 49 #[.slice (some ⟨x,0,none⟩) 2 2,.slice (some ⟨y,0,none⟩) 2 2] w fun e w'=>e=.returned (.tuple #[.int .i64 (bL f 7),.int .i64 0])/\Below w.heap.size w w'):=fun x y w h1 h2=>Jo (cA ho (i:=3) oa).2.2.1 (cA ho (i:=0) oa).2.2.1 (cA ho (i:=2) oa).1 (cA ho (i:=1) oa).1 (bL f 7) (by rw[J4];rfl) x y w _ h1 h2
 have D8:Hid (∀x y w,af w x #[.int .i64 (f 0),.int .i64 (f 3),.int .i64 (-f 1),.int .i64 (-f 2)] 2->af w y #[.int .i64 (f 0),.int .i64 (f 3),.int .i64 (f 1),.int .i64 (f 2)] 2->Calls Tryz.prog 49 #[.slice (some ⟨x,0,none⟩) 4 4,.slice (some ⟨y,0,none⟩) 4 4] w fun e w'=>e=.returned (.tuple #[.int .i64 (bL f 8),.int .i64 0])/\Below w.heap.size w w'):=fun x y w h1 h2=>KR (cA ho (i:=0) oa).1 (cA ho (i:=3) oa).1 (cA ho (i:=1) oa).2.1 (cA ho (i:=2) oa).2.1 (cA ho (i:=0) oa).1 (cA ho (i:=3) oa).1 (cA ho (i:=1) oa).1 (cA ho (i:=2) oa).1 (bL f 8) (by rw[KI];rfl) x y w _ h1 h2
 have wn1:IntKind.i64.wrap (-f 1)=-f 1:=by have:=(bE _).1 ((bN f).1 ho 1 oa);rw[wI];omega
 have wn2:IntKind.i64.wrap (-f 2)=-f 2:=by have:=(bE _).1 ((bN f).1 ho 2 oa);rw[wI];omega
 have wn3:IntKind.i64.wrap (-f 3)=-f 3:=by have:=(bE _).1 ((bN f).1 ho 3 oa);rw[wI];omega
 have wt1:IntKind.i64.wrap (2*f 1)=2*f 1:=by have:=(bE _).1 ((bN f).1 ho 1 oa);rw[wI];omega
 have wt2:IntKind.i64.wrap (2*f 2)=2*f 2:=by have:=(bE _).1 ((bN f).1 ho 2 oa);rw[wI];omega
 have wt3:IntKind.i64.wrap (2*f 3)=2*f 3:=by have:=(bE _).1 ((bN f).1 ho 3 oa);rw[wI];omega
 have wt0:IntKind.i64.wrap (2*f 0)=2*f 0:=by have:=(bE _).1 ((bN f).1 ho 0 oa);rw[wI];omega
 have wm0:IntKind.i64.wrap (-2*f 0)=-2*f 0:=by have:=(bE _).1 ((bN f).1 ho 0 oa);rw[wI];omega
 rw[<-HX0.out]at D0 D1 D2 D3 D4 D5 D6 D7 D8
 clear hI HV ho HX0
 go_upto_region 3 with(first
  |(refine ac ?hw _ _ rfl _ rfl _ _ _ _ p yb rfl ?hi ?_;(case hw=>exact rW);(case hi=>exact rI))
  |(go_at_call 5;with_reducible refine(V.out _).mono ?_;rintro e w1 ⟨rfl,hb⟩;replace hB:=hB.trans (hb.mono hB.size);replace p:=p.below hb p.lt;replace r:=r.below hb r.lt;clear hb))
 have a0:w1.cell? ⟨w.heap.size,0,none⟩=some (.int .i64 (f 0)):=p.cellIs (aD f oa)
 go_upto_region 5 with(fail)
 rw[ix]
 have m:=af.new w1 (cH fun _=>0) 143
 have mb1:w.heap.size+1<w1.heap.size:=r.lt
 replace p:=p.alloc (.cells (cH fun _=>0) 143)
 replace r:=r.alloc (.cells (cH fun _=>0) 143)
 replace hB:=hB.alloc hB.size (.cells (cH fun _=>0) 143)
 clear a0
 generalize w1.alloc (.cells (cH fun _=>0) 143)=w2 at *
 generalize w1.heap.size=mb at *
 go_wp2_with (fail)
 go_loopw [18] (fun iv wr=>∃i:Int,0<=i/\i<=3/\iv=.int .i64 i/\af wr w.heap.size (aj f) 23/\af wr (w.heap.size+1) (cH fun _=>0) 143/\af wr mb (cH (m7 X (3*i.toNat))) 143/\Below w.heap.size w wr) (fun iv _=>3-(intOf iv).toNat)
 case atStart=>exact⟨0,oa,oa,rfl,p,r,by rw[show cH (m7 X (3* (0:Int).toNat))=cH (fun _=>0)from rE fun i _=>by simp[m7]];exact m,hB⟩
 case round =>
  clear p r m hB
  obtain⟨i,hi0,hi3,rfl,p,r,m,hB⟩:=hrel
  have hcase:i=0\/i=1\/i=2\/i=3:=oa
  obtain⟨I0,hI0⟩:∃I0,I0=3*i.toNat:=⟨_,rfl⟩
  rw[<-hI0]at m
  rcases hcase with rfl|rfl|rfl|rfl
  iterate 3
   ·go_wp2_with (fail)
    replace hI0:=aa hI0
    obtain⟨wo,rfl⟩:∃wo:World,wo=wr:=⟨_,rfl⟩
    go_loopw [21] (fun kv wi=>∃k:Int,0<=k/\k<=3/\kv=.int .i64 k/\af wi w.heap.size (aj f) 23/\af wi (w.heap.size+1) (cH fun _=>0) 143/\af wi mb (cH (m7 X (I0+k.toNat))) 143/\Below w.heap.size w wi) (fun kv _=>3-(intOf kv).toNat)
    case atStart=>exact⟨0,oa,oa,rfl,p,r,m,hB⟩
    case round=>
     clear p r m hB
     obtain⟨k,hk0,hk3,rfl,p,r,m,hB⟩:=hrel
     obtain⟨K,hK⟩:∃K,K=I0+k.toNat:=⟨_,rfl⟩
     rw[<-hK]at m
     have hcase:k=0\/k=1\/k=2\/k=3:=oa
     rcases hcase with rfl|rfl|rfl|rfl
     iterate 3
      ·replace hK:=aa hK
       go_upto_region 11 with(fail)
       refine dx 9 ke ke ?_
       replace p:=p.drew
       replace r:=r.drew
       replace m:=m.drew
       replace hB:Below w.heap.size w wr.drew:=hB.drew
       generalize wr.drew=wd at *
       have hc:∀w1,bl wd w1->∀k,k<4->w1.cell? ⟨w.heap.size,k,none⟩=some (.int .i64 (f k)):=fun w1 h1 k hk=>(p.below h1 p.lt).cellIs (aD f hk)
       iterate 9
        refine yL rfl _ rfl rfl ke (fun w1 h1=>by have hd:=hc w1 h1;have hw:=eG;go_simp;exact⟨rfl,Below.refl _ _⟩) ?_
        simp only[Act.put,aL,aM,aN]
       refine d8 ke (fun wt ht=>?_)
       simp only[List.drop_succ_cons,List.drop_zero]
       replace hB:=hB.trans (ht.mono hB.size)
       replace p:=p.below ht p.lt
       replace r:=r.below ht r.lt
       replace m:=m.below ht m.lt
       clear ht hc
       first
        | (have hd:K=0\/K=4\/K=8:=by have:=hK.out;have:=hI0.out;omega
           clear hd
           go_upto_region 15 with(fail)
           refine dx 13 ke ke ?_
           replace p:=p.drew
           replace r:=r.drew
           replace m:=m.drew
           replace hB:Below w.heap.size w wt.drew:=hB.drew
           generalize wt.drew=we at *
           have hc:∀w1,bl we w1->∀k,k<4->w1.cell? ⟨w.heap.size,k,none⟩=some (.int .i64 (f k)):=fun w1 h1 k hk=>(p.below h1 p.lt).cellIs (aD f hk)
           iterate 13
            refine yL rfl _ rfl rfl ke (fun w1 h1=>by have hd:=hc w1 h1;have hw:=eG;go_simp;exact⟨rfl,Below.refl _ _⟩) ?_
            simp only[Act.put,aL,aM,aN]
           refine d8 ke (fun wu ht=>?_)
           simp only[List.drop_succ_cons,List.drop_zero]
           replace hB:=hB.trans (ht.mono hB.size)
           replace p:=p.below ht p.lt
           replace r:=r.below ht r.lt
           replace m:=m.below ht m.lt
           clear ht hc
           go_upto_region 16 with(fail)
           refine bV 20 21 rfl ke ?_
           replace p:=p.drew
           replace r:=r.drew
           replace m:=m.drew
           replace hB:Below w.heap.size w wu.drew:=hB.drew
           generalize wu.drew=wo2 at *
           iterate 13
            refine gL [8,13,14,15,16,17] rfl _ rfl rfl ke (fun w1=>by have hw:=eG;go_simp;(try simp only[wn1,wn2,wn3,wt0,wt1,wt2,wt3,wm0]);exact⟨rfl,Below.refl _ _⟩) ?_
            simp only[Act.put,aL,aM,aN]
           refine lD 8 13 rfl rfl rfl rfl da ke ke ke da (r8 rfl rfl rfl rfl rfl Tryz.underlying54 ke ke) (r8 rfl rfl rfl rfl rfl Tryz.underlying54 ke ke) (fun u=>r8 rfl rfl rfl rfl rfl Tryz.underlying54 ke ke) (fun u=>r8 rfl rfl rfl rfl rfl Tryz.underlying54 ke ke) (fun b1 b2 w4 hm n1 n2=>?_)
           simp only[Act.put,aL,aM,aN]
           refine aV 14 _ rfl rfl ke ke (fun w1 h1=>by go_simp;first|exact(D0.out _ _ _ (n1.below h1 n1.lt) (n2.below h1 n2.lt)).mono (fun e w5 h=>⟨h.1,h.2⟩)|exact(D4.out _ _ _ (n1.below h1 n1.lt) (n2.below h1 n2.lt)).mono (fun e w5 h=>⟨h.1,h.2⟩)|exact(D8.out _ _ _ (n1.below h1 n1.lt) (n2.below h1 n2.lt)).mono (fun e w5 h=>⟨h.1,h.2⟩)) ?_
           simp only[Act.put,aL,aM,aN]
           iterate 4
            refine gL [] rfl _ rfl rfl ke (fun w1=>by have hw:=eG;go_simp;exact⟨rfl,Below.refl _ _⟩) ?_
            simp only[Act.put,aL,aM,aN]
           refine gC rfl rfl ke (fun w6 h6=>?_))
        | (have hd:K=1\/K=5\/K=6:=by have:=hK.out;have:=hI0.out;omega
           clear hd
           go_upto_region 18 with(fail)
           refine bV 21 22 rfl ke ?_
           replace p:=p.drew
           replace r:=r.drew
           replace m:=m.drew
           replace hB:Below w.heap.size w wt.drew:=hB.drew
           generalize wt.drew=wo2 at *
           iterate 12
            refine gL [6,13,14,15,16,17,18] rfl _ rfl rfl ke (fun w1=>by have hw:=eG;go_simp;(try simp only[wn1,wn2,wn3,wt0,wt1,wt2,wt3,wm0]);exact⟨rfl,Below.refl _ _⟩) ?_
            simp only[Act.put,aL,aM,aN]
           refine aV 13 _ rfl rfl ke ke (fun w1 h1=>by have hw:=eG;have hd:=fun k hk=>(p.below h1 p.lt).cellIs (aD (i:=k) f hk);go_simp;exact⟨rfl,Below.refl _ _⟩) ?_
           simp only[Act.put,aL,aM,aN]
           iterate 1
            refine gL [6,13,14,15,16,17,18] rfl _ rfl rfl ke (fun w1=>by have hw:=eG;go_simp;exact⟨rfl,Below.refl _ _⟩) ?_
            simp only[Act.put,aL,aM,aN]
           refine lD 6 14 rfl rfl rfl rfl da ke ke ke da (jO rfl rfl rfl Tryz.underlying54 ke ke) (jO rfl rfl rfl Tryz.underlying54 ke ke) (fun u=>jO rfl rfl rfl Tryz.underlying54 ke ke) (fun u=>jO rfl rfl rfl Tryz.underlying54 ke ke) (fun b1 b2 w4 hm n1 n2=>?_)
           simp only[Act.put,aL,aM,aN]
           refine aV 15 _ rfl rfl ke ke (fun w1 h1=>by go_simp;first|exact(D1.out _ _ _ (n1.below h1 n1.lt) (n2.below h1 n2.lt)).mono (fun e w5 h=>⟨h.1,h.2⟩)|exact(D5.out _ _ _ (n1.below h1 n1.lt) (n2.below h1 n2.lt)).mono (fun e w5 h=>⟨h.1,h.2⟩)|exact(D6.out _ _ _ (n1.below h1 n1.lt) (n2.below h1 n2.lt)).mono (fun e w5 h=>⟨h.1,h.2⟩)) ?_
           simp only[Act.put,aL,aM,aN]
           iterate 4
            refine gL [] rfl _ rfl rfl ke (fun w1=>by have hw:=eG;go_simp;exact⟨rfl,Below.refl _ _⟩) ?_
            simp only[Act.put,aL,aM,aN]
           refine gC rfl rfl ke (fun w6 h6=>?_))
        | (have hd:K=2\/K=3\/K=7:=by have:=hK.out;have:=hI0.out;omega
           clear hd
           go_upto_region 13 with(fail)
           refine bV 21 22 rfl ke ?_
           replace p:=p.drew
           replace r:=r.drew
           replace m:=m.drew
           replace hB:Below w.heap.size w wt.drew:=hB.drew
           generalize wt.drew=wo2 at *
           iterate 12
            refine gL [6,13,14,15,16,17,18] rfl _ rfl rfl ke (fun w1=>by have hw:=eG;go_simp;(try simp only[wn1,wn2,wn3,wt0,wt1,wt2,wt3,wm0]);exact⟨rfl,Below.refl _ _⟩) ?_
            simp only[Act.put,aL,aM,aN]
           refine aV 13 _ rfl rfl ke ke (fun w1 h1=>by have hw:=eG;have hd:=fun k hk=>(p.below h1 p.lt).cellIs (aD (i:=k) f hk);go_simp;exact⟨rfl,Below.refl _ _⟩) ?_
           simp only[Act.put,aL,aM,aN]
           iterate 1
            refine gL [6,13,14,15,16,17,18] rfl _ rfl rfl ke (fun w1=>by have hw:=eG;go_simp;exact⟨rfl,Below.refl _ _⟩) ?_
            simp only[Act.put,aL,aM,aN]
           refine lD 6 14 rfl rfl rfl rfl da ke ke ke da (jO rfl rfl rfl Tryz.underlying54 ke ke) (jO rfl rfl rfl Tryz.underlying54 ke ke) (fun u=>jO rfl rfl rfl Tryz.underlying54 ke ke) (fun u=>jO rfl rfl rfl Tryz.underlying54 ke ke) (fun b1 b2 w4 hm n1 n2=>?_)
           simp only[Act.put,aL,aM,aN]
           refine aV 15 _ rfl rfl ke ke (fun w1 h1=>by go_simp;first|exact(D2.out _ _ _ (n1.below h1 n1.lt) (n2.below h1 n2.lt)).mono (fun e w5 h=>⟨h.1,h.2⟩)|exact(D3.out _ _ _ (n1.below h1 n1.lt) (n2.below h1 n2.lt)).mono (fun e w5 h=>⟨h.1,h.2⟩)|exact(D7.out _ _ _ (n1.below h1 n1.lt) (n2.below h1 n2.lt)).mono (fun e w5 h=>⟨h.1,h.2⟩)) ?_
           simp only[Act.put,aL,aM,aN]
           iterate 4
            refine gL [] rfl _ rfl rfl ke (fun w1=>by have hw:=eG;go_simp;exact⟨rfl,Below.refl _ _⟩) ?_
            simp only[Act.put,aL,aM,aN]
           refine gC rfl rfl ke (fun w6 h6=>?_))
       replace hm:=bl.trans hm h6
       replace p:=p.below hm p.lt
       replace r:=r.below hm r.lt
       replace m:=m.below hm m.lt
       replace hB:=hB.trans (hm.mono hB.size)
       clear hm h6 n1 n2
       have fz:=fun k=>m.free k
       have cz:=fun k hk=>m.cellIs (dr (i:=k) (m7 X K) hk)
       go_simp
       refine FF p r m hB oa oa oa (by have:=hK.out;have:=hI0.out;omega) (by have:=hK.out;have:=hI0.out;omega) rfl (fun w7 p r m hB=>?_)
       clear fz cz
       refine dq ke (fun w8 h8=>?_)
       replace p:=p.below h8 p.lt
       replace r:=r.below h8 r.lt
       replace m:=m.below h8 m.lt
       replace hB:=hB.trans (h8.mono hB.size)
       clear h8
       go_wp2_with (fail)
       go_roundw
       case rel=>
        first
         |exact⟨1,oa,oa,rfl,p,r,by rw[show I0+(1:Int).toNat=K+1 from by have:=hK.out;omega];exact m,hB⟩
         |exact⟨2,oa,oa,rfl,p,r,by rw[show I0+(2:Int).toNat=K+1 from by have:=hK.out;omega];exact m,hB⟩
         |exact⟨3,oa,oa,rfl,p,r,by rw[show I0+(3:Int).toNat=K+1 from by have:=hK.out;omega];exact m,hB⟩
       case measure=>simp[intOf]
     ·have hI0:=hI0.out
      go_wp2_with (fail)
      go_roundw
      case rel=>
       first
        |exact⟨1,oa,oa,rfl,p,r,by rw[show 3* (1:Int).toNat=K from by omega];exact m,hB⟩
        |exact⟨2,oa,oa,rfl,p,r,by rw[show 3* (2:Int).toNat=K from by omega];exact m,hB⟩
        |exact⟨3,oa,oa,rfl,p,r,by rw[show 3* (3:Int).toNat=K from by omega];exact m,hB⟩
      case measure=>simp[intOf]
  ·rw[hI0]at m
   have e9:cH (m7 X (3* (3:Int).toNat))=cH X:=rE fun j hj=>by simp[m7,hj]
   rw[e9]at m
   go_wp2_with (first|(refine ac ?hw _ _ rfl _ rfl _ _ _ _ m ye rfl ?hi ?_;(case hw=>exact rW);(case hi=>exact rI))|(refine ag rfl _ _ _ rfl _ rfl _ rfl _ _ r rI (by simp only[ex]) (kl _) ?_))
   refine bodyPost_ret (aq rfl _ _ _ _ _ _ _ rfl (r.row (cH X)) ye rfl rI) rfl ?_;refine⟨?_,Below.setRow hB oa _⟩
   rfl
end Go.Proofs.YtbhahonkhiiilaaGreat
