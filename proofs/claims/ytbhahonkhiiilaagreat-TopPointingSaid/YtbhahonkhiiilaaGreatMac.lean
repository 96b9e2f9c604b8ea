/-
  Short ways through regions: what closes the goals that every region has.
-/
import Derived.Test.YtbhahonkhiiilaaGreatInv
set_option linter.unusedSimpArgs false
set_option linter.unusedVariables false
set_option maxRecDepth 100000
set_option maxHeartbeats 2000000
namespace Go.Proofs.YtbhahonkhiiilaaGreat
open Go.RowKit PM Dt
theorem JF {c:Bool} {B q:Nat} {w1 w2:World} {a:Array Value} {t:TypeId} (h:c=true->B<=q/\af w1 q a t) (hm:Below w1.heap.size w1 w2):c=true->B<=q/\af w2 q a t:=fun hl=>⟨(h hl).1,(h hl).2.below hm (h hl).2.lt⟩
theorem cg {d:Bool} {x y:Array Value} {w:World} {q:Nat} {t:TypeId} (h:af w q (bif d then x else y) t) (hd:d=false):af w q y t:=by rw[hd]at h;exact h
theorem nL {a b c:Nat} (h:a<b) (k:b<=c):a≠c:=nN (nq h k)
theorem rA {p:Prop} (h:p:=by first
 |(intro p;simp only[rB,Act.put,aL,aM,aN,Lq,K6];exact rfl)
 |kernel_rfl):p:=h
theorem rH {p:Prop} (h:p:=by intro p;(repeat' with_reducible apply And.intro)<;>first
 |exact ns _
 |assumption
 |exact Below.drew (by assumption)
 |exact af.drew (by assumption)
 |exact gh.drew (by assumption)
 |exact co.drew (by assumption)
 |exact fun h=>absurd h (by decide)):p:=h
theorem rM {p:Prop} (h:p:=by intro p L w1 w2 h hm;(repeat(have h1:=And.left h;have h:=And.right h));(repeat' with_reducible apply And.intro)<;>first
 |exact nk (by assumption) hm.size
 |exact Below.trans (by assumption) (hm.mono (nk hW0 (by assumption)))
 |exact af.below (by assumption) hm (af.lt (by assumption))
 |exact JF (by assumption) hm
 |exact gh.below (by assumption) hm (gh.lt (by assumption))
 |assumption):p:=h
theorem rV {p:Prop} (h:p:=by intro p q;repeat'(first
 |exact aw.nil
 |refine aw.cons ?_ ?_
 |exact .inl rfl
 |(refine .inr ?_;simp only[Lq,K6];done)
 |exact .inr rfl)):p:=h
theorem rZ {p:Prop} (h:p:=by intro p w1;go_simp;first
 |rfl
 |rw[aQ]
 |rw[bP]
 |rw[dp]):p:=h
theorem rC {p:Prop} (h:p:=by rintro e w2 ⟨rfl,h2⟩;first
 |exact⟨rfl,h2⟩
 |(subst h2;exact⟨rfl,Below.refl _ _⟩)):p:=h
theorem rW {p:Prop} (h:p:=by first
 |rfl
 |(simp[Region.wanted,yielded];done)):p:=h
theorem rI {p:Prop} (h:p:=by first
 |kernel_rfl
 |(rw[ak];kernel_rfl)
 |(rw[ad];kernel_rfl)
 |(rw[ex];kernel_rfl)
 |(rw[bZ];kernel_rfl)):p:=h
def lW (f g:Nat->Int):Nat->Int:=fun i=>f i+g i
theorem vr (x er:Nat->Int) (c1 c2:Value) (w:World)
 (hf:Hid (∀i:Nat,i<3->∀w1,Below w.heap.size w w1->Calls Tryz.prog 98 #[.int .i64 i,c1,c2] w1 fun e w'=>e=.returned (.tuple #[.int .i64 (x i),.int .i64 (er i)])/\Below w1.heap.size w1 w')):
 Calls Tryz.prog 86 #[.bool true,.func (.func 98) #[] #[c1,c2]] w fun e w'=>e=.returned (.tuple #[.agg (ah (dP x er)),.int .i64 (dO x er)])/\Below w.heap.size w w':=by
 go_enter Tryz.func86,Tryz.ntmps86
 go_upto_region 2 with(fail)
 rw[aQ]
 have p:af ((w.alloc (.cells (ah fun _=>0) 25)).alloc (.cells (ah fun _=>0) 25)) w.heap.size (ah fun _=>0) 25:=(af.new _ _ _).alloc _
 have q:af ((w.alloc (.cells (ah fun _=>0) 25)).alloc (.cells (ah fun _=>0) 25)) (w.heap.size+1) (ah fun _=>0) 25:=af.new' sd
 have hB:Below w.heap.size w ((w.alloc (.cells (ah fun _=>0) 25)).alloc (.cells (ah fun _=>0) 25)):=by go_grown
 generalize(w.alloc (.cells (ah fun _=>0) 25)).alloc (.cells (ah fun _=>0) 25)=w0 at *
 go_wp2_with (fail)
 go_loopg [13] 3 (fun g iv wr=>∃k:Nat,g+k=3/\iv=.int .i64 k/\Hid (∀j,j<k->er j=0/\vb (x j)=true)/\af wr w.heap.size (ah fun _=>0) 25/\af wr (w.heap.size+1) (ah (dC x k)) 25/\Below w.heap.size w wr)
 case atStart=>exact⟨0,rfl,rfl,fun j hj=>by omega,p,by rw[show ah (dC x 0)=ah (fun _=>0)from dD fun i _=>by simp[dC]];exact q,hB⟩
 case round=>
  clear p q hB
  obtain⟨k,hk,rfl,hall,p,q,hB⟩:=hrel
  by_cases hkn:k<3
  ·have hdk:decide ((k:Int)<3)=true:=dT oa
   have hdk':decide (k<3)=true:=dT oa
   have hw3:IntKind.i64.wrap ((k:Int)+1)=((k+1:Nat):Int):=by rw[wI];omega
   have W0:=aa (fun w=>ej (x k) w)
   have HC:=aa (hf.out k hkn)
   by_cases he:er k=0
   ·have de:(er k !=0)=false:=by simp[he]
    have HE:=aa he
    obtain⟨b,hb⟩:∃b,vb (x k)=b:=⟨_,rfl⟩
    rw[hb]at W0
    have HVB:=aa hb
    clear hb he
    cases b
    ·have HG:=aa (show ga x er=false from eI hkn (by rintro⟨_,h⟩;rw[HVB.out]at h;cases h))
     go_wp2_with (first
      |(go_at_call 98;refine(HC.out _ hB).mono ?_;rintro e w1 ⟨rfl,hb⟩;replace hB:=hB.trans (hb.mono hB.size);replace p:=p.below hb p.lt;replace q:=q.below hb q.lt;clear hb)
      |(go_at_call 70;refine(W0.out _).mono ?_;rintro e w1 ⟨rfl,rfl⟩)
      |(rw[aQ];refine ag rfl _ _ _ rfl _ rfl _ rfl _ _ p rI (by simp only[ad]) (aG _) ?_))
     refine bodyPost_ret (aq rfl _ _ _ _ _ _ _ rfl (p.row (ah (fun _=>0))) yc rfl rI) rfl ?_;refine⟨?_,Below.setRow hB (ns _) _⟩
     unfold dP dO;rw[HG.out];rfl
    ·go_upto_region 8 with(go_at_call 98;refine(HC.out _ hB).mono ?_;rintro e w1 ⟨rfl,hb⟩;replace hB:=hB.trans (hb.mono hB.size);replace p:=p.below hb p.lt;replace q:=q.below hb q.lt;clear hb)
     have fz:w1.frozen? ⟨w.heap.size+1,k,none⟩=false:=q.free _
     have cz:w1.cell? ⟨w.heap.size+1,k,none⟩=some (.int .i64 (dC x k k)):=q.cellIs (az _ hkn)
     go_wp2_with (go_at_call 70;refine(W0.out _).mono ?_;rintro e w1 ⟨rfl,rfl⟩)
     go_roundg (3-(k+1))
     case rel=>
      refine⟨k+1,oa,rfl,fun j hj=>?_,p.setOther sd _,q.set' (kF hkn ?_ ?_),hB.setCell sd _⟩
      ·by_cases e:j=k
       ·subst e;exact⟨HE.out,HVB.out⟩
       ·exact hall.out j oa
      ·simp[dC]
      ·intro j hj hne;simp only[dC];split<;>split<;>first|rfl|omega
     case measure=>omega
   ·have de:(er k !=0)=true:=by simpa using he
    have HG:=aa (show ga x er=false from eI hkn (by rintro⟨h,_⟩;exact he h))
    clear he
    go_wp2_with (first
     |(go_at_call 98;refine(HC.out _ hB).mono ?_;rintro e w1 ⟨rfl,hb⟩;replace hB:=hB.trans (hb.mono hB.size);replace p:=p.below hb p.lt;replace q:=q.below hb q.lt;clear hb)
     |(rw[aQ];refine ag rfl _ _ _ rfl _ rfl _ rfl _ _ p rI (by simp only[ad]) (aG _) ?_))
    refine bodyPost_ret (aq rfl _ _ _ _ _ _ _ rfl (p.row (ah (fun _=>0))) yc rfl rI) rfl ?_;refine⟨?_,Below.setRow hB (ns _) _⟩
    unfold dP dO;rw[HG.out];rfl
  ·obtain rfl:k=3:=oa
   have HG:=aa ((fO x er).2 hall.out)
   have e3:ah (dC x 3)=ah x:=dD fun i hi=>by simp[dC,hi]
   rw[e3]at q
   go_wp2_with (first|(refine ac ?hw _ _ rfl _ rfl _ _ _ _ q yc rfl ?hi ?_;(case hw=>exact rW);(case hi=>exact rI))|(refine ag rfl _ _ _ rfl _ rfl _ rfl _ _ p rI (by simp only[ad]) (aG _) ?_))
   refine bodyPost_ret (aq rfl _ _ _ _ _ _ _ rfl (p.row (ah x)) yc rfl rI) rfl ?_;refine⟨?_,Below.setRow hB (ns _) _⟩
   unfold dP dO;rw[HG.out];rfl
theorem Dc (f g:Nat->Int) (b c:Nat) (w:World) (hf:cx f=true) (hg:cx g=true) (p:af w b (ah f) 25) (q:af w c (ah g) 25) (i:Nat) (hi:i<3):
 Calls Tryz.prog 98 #[.int .i64 i,.pointer (some ⟨b,0,none⟩),.pointer (some ⟨c,0,none⟩)] w fun e w'=>e=.returned (.tuple #[.int .i64 (lW f g i),.int .i64 0])/\Below w.heap.size w w':=by
 have h1:=(bE _).1 ((bK f).1 hf i hi)
 have h2:=(bE _).1 ((bK g).1 hg i hi)
 have hw2:IntKind.i64.wrap (f i+g i)=lW f g i:=by rw[wI];unfold lW;omega
 have hw3:wrap64 (f i+g i)=lW f g i:=by unfold wrap64 lW;omega
 have hdk:decide ((i:Int)<3)=true:=dT oa
 have hdk':decide (i<3)=true:=dT hi
 have hi3:(i:Int)<3:=oa
 clear h1 h2 hf hg
 go_enter Tryz.func98,Tryz.ntmps98
 go_upto_region 1 with(fail)
 have hB:bl w w:=Below.refl _ _
 refine bV 99 9 rfl ke ?_
 replace p:=p.drew
 replace q:=q.drew
 replace hB:bl w w.drew:=hB.drew
 generalize w.drew=wo at *
 refine ai 0 (.int .i64 i) rfl rfl ke (fun w1=>by go_simp;exact⟨rfl,Below.refl _ _⟩) ?_
 simp only[Act.put,aL,aM,aN]
 refine ai 1 (.pointer (some ⟨b,i,none⟩)) rfl rfl ke (fun w1=>by go_simp;first|exact⟨rfl,Below.refl _ _⟩|(rw[if_pos hi3];exact⟨rfl,Below.refl _ _⟩)) ?_
 simp only[Act.put,aL,aM,aN]
 refine aV 2 (.int .i64 (f i)) rfl rfl ke ke (fun w1 h1=>by have hc:w1.cell? ⟨b,i,none⟩=some (.int .i64 (f i)):=(p.below h1 p.lt).cellIs (az _ hi);go_simp;exact⟨rfl,Below.refl _ _⟩) ?_
 simp only[Act.put,aL,aM,aN]
 refine ai 3 (.int .i64 i) rfl rfl ke (fun w1=>by go_simp;exact⟨rfl,Below.refl _ _⟩) ?_
 simp only[Act.put,aL,aM,aN]
 refine ai 4 (.pointer (some ⟨c,i,none⟩)) rfl rfl ke (fun w1=>by go_simp;first|exact⟨rfl,Below.refl _ _⟩|(rw[if_pos hi3];exact⟨rfl,Below.refl _ _⟩)) ?_
 simp only[Act.put,aL,aM,aN]
 refine aV 5 (.int .i64 (g i)) rfl rfl ke ke (fun w1 h1=>by have hc:w1.cell? ⟨c,i,none⟩=some (.int .i64 (g i)):=(q.below h1 q.lt).cellIs (az _ hi);go_simp;exact⟨rfl,Below.refl _ _⟩) ?_
 simp only[Act.put,aL,aM,aN]
 refine ai 6 (.int .i64 (lW f g i)) rfl rfl ke (fun w1=>by go_simp;exact⟨by first|rfl|rw[hw2]|rw[hw3],Below.refl _ _⟩) ?_
 simp only[Act.put,aL,aM,aN]
 refine ai 7 (.int .i64 (lW f g i)) rfl rfl ke (fun w1=>by go_simp;exact⟨rfl,Below.refl _ _⟩) ?_
 simp only[Act.put,aL,aM,aN]
 refine ai 8 (.int .i64 0) rfl rfl ke (fun w1=>by go_simp;exact⟨rfl,Below.refl _ _⟩) ?_
 simp only[Act.put,aL,aM,aN]
 refine dq ke (fun w3 h3=>?_)
 replace hB:=bl.trans hB h3
 go_wp2_with (fail)
 go_ret2
 exact⟨rfl,hB⟩
def dS (f g:Nat->Int):Nat->Int:=if cx f&&cx g then iV (lW f g)else fun _=>0
def y9 (f g:Nat->Int):Int:=if cx f&&cx g then m6 (lW f g)else 2
set_option maxHeartbeats 2000000 in
theorem Ee (f g:Nat->Int) (w:World):Calls Tryz.prog 67 #[.agg (ah f),.agg (ah g)] w fun e w'=>e=.returned (.tuple #[.agg (ah (dS f g)),.int .i64 (y9 f g)])/\Below w.heap.size w w':=by
 have V1:=Lib.hid (fun w=>cd f w)
 have V2:=Lib.hid (fun w=>cd g w)
 have hk:∃F E,(cx f=true->cx g=true->F=iV (lW f g)/\E=m6 (lW f g))/\dS f g=(if cx f&&cx g then F else fun _=>0)/\y9 f g=(if cx f&&cx g then E else 2):=⟨_,_,fun _ _=>⟨rfl,rfl⟩,rfl,rfl⟩
 obtain⟨F,E,hk,e1,e2⟩:=hk
 rw[e1,e2]
 clear e1 e2
 have HK:=Lib.hid hk
 clear hk
 obtain⟨bf,hf⟩:∃b,cx f=b:=⟨_,rfl⟩
 obtain⟨bg,hg⟩:∃b,cx g=b:=⟨_,rfl⟩
 rw[hf]at V1 HK|-
 rw[hg]at V2 HK|-
 have HF:=Lib.hid hf
 have HG:=Lib.hid hg
 clear hf hg
 go_enter Tryz.func67,Tryz.ntmps67
 go_upto_region 1 with(fail)
 rw[aQ]
 have p:af (((w.alloc (.cells (ah f) 25)).alloc (.cells (ah g) 25)).alloc (.cells (ah fun _=>0) 25)) w.heap.size (ah f) 25:=((af.new _ _ _).alloc _).alloc _
 have q:af (((w.alloc (.cells (ah f) 25)).alloc (.cells (ah g) 25)).alloc (.cells (ah fun _=>0) 25)) (w.heap.size+1) (ah g) 25:=(af.new' (by simp)).alloc _
 have r:af (((w.alloc (.cells (ah f) 25)).alloc (.cells (ah g) 25)).alloc (.cells (ah fun _=>0) 25)) (w.heap.size+1+1) (ah fun _=>0) 25:=af.new' (by simp)
 have hB:Below w.heap.size w (((w.alloc (.cells (ah f) 25)).alloc (.cells (ah g) 25)).alloc (.cells (ah fun _=>0) 25)):=by go_grown
 generalize((w.alloc (.cells (ah f) 25)).alloc (.cells (ah g) 25)).alloc (.cells (ah fun _=>0) 25)=w0 at *
 cases bf
 ·go_wp2_with (first
   |(refine ac ?hw _ _ rfl _ rfl _ _ _ _ p Tryz.underlying25 rfl ?hi ?_;(case hw=>(first|rfl|(simp[Region.wanted,yielded];done)));(case hi=>(rw[ad];kernel_rfl)))
   |(refine ac ?hw _ _ rfl _ rfl _ _ _ _ q Tryz.underlying25 rfl ?hi ?_;(case hw=>(first|rfl|(simp[Region.wanted,yielded];done)));(case hi=>(rw[ad];kernel_rfl)))
   |(go_at_call 32;with_reducible refine(V1.out _).mono ?_;rintro e w1 ⟨rfl,hb⟩;replace hB:=hB.trans (hb.mono hB.size);replace p:=p.below hb p.lt;replace q:=q.below hb q.lt;replace r:=r.below hb r.lt;clear hb)
   |(go_at_call 32;with_reducible refine(V2.out _).mono ?_;rintro e w1 ⟨rfl,hb⟩;replace hB:=hB.trans (hb.mono hB.size);replace p:=p.below hb p.lt;replace q:=q.below hb q.lt;replace r:=r.below hb r.lt;clear hb)
   |(go_at_call 86;refine(gD _ _).mono ?_;rintro e w2 ⟨rfl,hb⟩;replace hB:=hB.trans (hb.mono hB.size);replace r:=r.below hb r.lt;clear hb)
   |(refine ag rfl _ _ _ rfl _ rfl _ rfl _ _ r (by rw[ad];kernel_rfl) (by simp only[ad]) (aG _) ?_))
  refine bodyPost_ret (aq rfl _ _ _ _ _ _ _ rfl (r.row (ah (fun _=>0))) Tryz.underlying25 rfl (by rw[ad];kernel_rfl)) rfl ?_;refine⟨?_,Below.setRow hB (by omega) _⟩
  rfl
 cases bg
 ·go_wp2_with (first
   |(refine ac ?hw _ _ rfl _ rfl _ _ _ _ p Tryz.underlying25 rfl ?hi ?_;(case hw=>(first|rfl|(simp[Region.wanted,yielded];done)));(case hi=>(rw[ad];kernel_rfl)))
   |(refine ac ?hw _ _ rfl _ rfl _ _ _ _ q Tryz.underlying25 rfl ?hi ?_;(case hw=>(first|rfl|(simp[Region.wanted,yielded];done)));(case hi=>(rw[ad];kernel_rfl)))
   |(go_at_call 32;with_reducible refine(V1.out _).mono ?_;rintro e w1 ⟨rfl,hb⟩;replace hB:=hB.trans (hb.mono hB.size);replace p:=p.below hb p.lt;replace q:=q.below hb q.lt;replace r:=r.below hb r.lt;clear hb)
   |(go_at_call 32;with_reducible refine(V2.out _).mono ?_;rintro e w1 ⟨rfl,hb⟩;replace hB:=hB.trans (hb.mono hB.size);replace p:=p.below hb p.lt;replace q:=q.below hb q.lt;replace r:=r.below hb r.lt;clear hb)
   |(go_at_call 86;refine(gD _ _).mono ?_;rintro e w2 ⟨rfl,hb⟩;replace hB:=hB.trans (hb.mono hB.size);replace r:=r.below hb r.lt;clear hb)
   |(refine ag rfl _ _ _ rfl _ rfl _ rfl _ _ r (by rw[ad];kernel_rfl) (by simp only[ad]) (aG _) ?_))
  refine bodyPost_ret (aq rfl _ _ _ _ _ _ _ rfl (r.row (ah (fun _=>0))) Tryz.underlying25 rfl (by rw[ad];kernel_rfl)) rfl ?_;refine⟨?_,Below.setRow hB (by omega) _⟩
  rfl
 obtain⟨hF,hE⟩:=HK.out rfl rfl
 have HFE:=Lib.hid (And.intro hF hE)
 clear HK hF hE
 go_wp2_with (first
  |(refine ac ?hw _ _ rfl _ rfl _ _ _ _ p Tryz.underlying25 rfl ?hi ?_;(case hw=>(first|rfl|(simp[Region.wanted,yielded];done)));(case hi=>(rw[ad];kernel_rfl)))
  |(refine ac ?hw _ _ rfl _ rfl _ _ _ _ q Tryz.underlying25 rfl ?hi ?_;(case hw=>(first|rfl|(simp[Region.wanted,yielded];done)));(case hi=>(rw[ad];kernel_rfl)))
  |(go_at_call 32;with_reducible refine(V1.out _).mono ?_;rintro e w1 ⟨rfl,hb⟩;replace hB:=hB.trans (hb.mono hB.size);replace p:=p.below hb p.lt;replace q:=q.below hb q.lt;replace r:=r.below hb r.lt;clear hb)
  |(go_at_call 32;with_reducible refine(V2.out _).mono ?_;rintro e w1 ⟨rfl,hb⟩;replace hB:=hB.trans (hb.mono hB.size);replace p:=p.below hb p.lt;replace q:=q.below hb q.lt;replace r:=r.below hb r.lt;clear hb)
  |(go_at_call 86;refine(vr (lW f g) (fun _=>0) _ _ _ (fun i hi wx hx=>Dc f g _ _ wx HF.out HG.out (p.below hx p.lt) (q.below hx q.lt) i hi)).mono ?_;rintro e w2 ⟨rfl,hb⟩;rw[(fC _).1,(fC _).2,<-HFE.out.1,<-HFE.out.2];replace hB:=hB.trans (hb.mono hB.size);replace r:=r.below hb r.lt;clear hb)
  |(refine ag rfl _ _ _ rfl _ rfl _ rfl _ _ r (by rw[ad];kernel_rfl) (by simp only[ad]) (aG _) ?_))
 refine bodyPost_ret (aq rfl _ _ _ _ _ _ _ rfl (r.row (ah F)) Tryz.underlying25 rfl (by rw[ad];kernel_rfl)) rfl ?_;refine⟨?_,Below.setRow hB (by omega) _⟩
 rfl
def sb (m a:Int):Bool:=decide (-m<=a)&&decide (a<=m)
theorem cR (m a:Int):sb m a=true↔(-m<=a/\a<=m):=by unfold sb;rw[Bool.and_eq_true,decide_eq_true_eq,decide_eq_true_eq]
def aE (f:Nat->Int) (m:Int):Bool:=sb m (f 0)&&(sb m (f 1)&&sb m (f 2))
theorem bp (f:Nat->Int) (m:Int):aE f m=true↔∀i,i<3->sb m (f i)=true:=by
 unfold aE
 rw[Bool.and_eq_true,Bool.and_eq_true]
 constructor
 ·rintro⟨h0,h1,h2⟩ i hi
  have:i=0\/i=1\/i=2:=oa
  rcases this with rfl|rfl|rfl<;>assumption
 ·intro h;exact⟨h 0 oa,h 1 oa,h 2 oa⟩
theorem im {f:Nat->Int} {m:Int} {i:Nat} (h:i<3) (hb:¬(-m<=f i/\f i<=m)):aE f m=false:=by
 rw[Bool.eq_false_iff];intro h2
 exact hb ((cR _ _).1 ((bp f m).1 h2 i h))
def kO (f g:Nat->Int):Nat->Int:=fun i=>f i-g i
theorem uF (x er:Nat->Int) (c1 c2:Value) (w:World)
 (hf:Hid (∀i:Nat,i<3->∀w1,Below w.heap.size w w1->Calls Tryz.prog 87 #[.int .i64 i,c1,c2] w1 fun e w'=>e=.returned (.tuple #[.int .i64 (x i),.int .i64 (er i)])/\Below w1.heap.size w1 w')):
 Calls Tryz.prog 86 #[.bool true,.func (.func 87) #[] #[c1,c2]] w fun e w'=>e=.returned (.tuple #[.agg (ah (dP x er)),.int .i64 (dO x er)])/\Below w.heap.size w w':=by
 go_enter Tryz.func86,Tryz.ntmps86
 go_upto_region 2 with(fail)
 rw[aQ]
 have p:af ((w.alloc (.cells (ah fun _=>0) 25)).alloc (.cells (ah fun _=>0) 25)) w.heap.size (ah fun _=>0) 25:=(af.new _ _ _).alloc _
 have q:af ((w.alloc (.cells (ah fun _=>0) 25)).alloc (.cells (ah fun _=>0) 25)) (w.heap.size+1) (ah fun _=>0) 25:=af.new' sd
 have hB:Below w.heap.size w ((w.alloc (.cells (ah fun _=>0) 25)).alloc (.cells (ah fun _=>0) 25)):=by go_grown
 generalize(w.alloc (.cells (ah fun _=>0) 25)).alloc (.cells (ah fun _=>0) 25)=w0 at *
 go_wp2_with (fail)
 go_loopg [13] 3 (fun g iv wr=>∃k:Nat,g+k=3/\iv=.int .i64 k/\Hid (∀j,j<k->er j=0/\vb (x j)=true)/\af wr w.heap.size (ah fun _=>0) 25/\af wr (w.heap.size+1) (ah (dC x k)) 25/\Below w.heap.size w wr)
 case atStart=>exact⟨0,rfl,rfl,fun j hj=>by omega,p,by rw[show ah (dC x 0)=ah (fun _=>0)from dD fun i _=>by simp[dC]];exact q,hB⟩
 case round=>
  clear p q hB
  obtain⟨k,hk,rfl,hall,p,q,hB⟩:=hrel
  by_cases hkn:k<3
  ·have hdk:decide ((k:Int)<3)=true:=dT oa
   have hdk':decide (k<3)=true:=dT oa
   have hw3:IntKind.i64.wrap ((k:Int)+1)=((k+1:Nat):Int):=by rw[wI];omega
   have W0:=aa (fun w=>ej (x k) w)
   have HC:=aa (hf.out k hkn)
   by_cases he:er k=0
   ·have de:(er k !=0)=false:=by simp[he]
    have HE:=aa he
    obtain⟨b,hb⟩:∃b,vb (x k)=b:=⟨_,rfl⟩
    rw[hb]at W0
    have HVB:=aa hb
    clear hb he
    cases b
    ·have HG:=aa (show ga x er=false from eI hkn (by rintro⟨_,h⟩;rw[HVB.out]at h;cases h))
     go_wp2_with (first
      |(go_at_call 87;refine(HC.out _ hB).mono ?_;rintro e w1 ⟨rfl,hb⟩;replace hB:=hB.trans (hb.mono hB.size);replace p:=p.below hb p.lt;replace q:=q.below hb q.lt;clear hb)
      |(go_at_call 70;refine(W0.out _).mono ?_;rintro e w1 ⟨rfl,rfl⟩)
      |(rw[aQ];refine ag rfl _ _ _ rfl _ rfl _ rfl _ _ p rI (by simp only[ad]) (aG _) ?_))
     refine bodyPost_ret (aq rfl _ _ _ _ _ _ _ rfl (p.row (ah (fun _=>0))) yc rfl rI) rfl ?_;refine⟨?_,Below.setRow hB (ns _) _⟩
     unfold dP dO;rw[HG.out];rfl
    ·go_upto_region 8 with(go_at_call 87;refine(HC.out _ hB).mono ?_;rintro e w1 ⟨rfl,hb⟩;replace hB:=hB.trans (hb.mono hB.size);replace p:=p.below hb p.lt;replace q:=q.below hb q.lt;clear hb)
     have fz:w1.frozen? ⟨w.heap.size+1,k,none⟩=false:=q.free _
     have cz:w1.cell? ⟨w.heap.size+1,k,none⟩=some (.int .i64 (dC x k k)):=q.cellIs (az _ hkn)
     go_wp2_with (go_at_call 70;refine(W0.out _).mono ?_;rintro e w1 ⟨rfl,rfl⟩)
     go_roundg (3-(k+1))
     case rel=>
      refine⟨k+1,oa,rfl,fun j hj=>?_,p.setOther sd _,q.set' (kF hkn ?_ ?_),hB.setCell sd _⟩
      ·by_cases e:j=k
       ·subst e;exact⟨HE.out,HVB.out⟩
       ·exact hall.out j oa
      ·simp[dC]
      ·intro j hj hne;simp only[dC];split<;>split<;>first|rfl|omega
     case measure=>omega
   ·have de:(er k !=0)=true:=by simpa using he
    have HG:=aa (show ga x er=false from eI hkn (by rintro⟨h,_⟩;exact he h))
    clear he
    go_wp2_with (first
     |(go_at_call 87;refine(HC.out _ hB).mono ?_;rintro e w1 ⟨rfl,hb⟩;replace hB:=hB.trans (hb.mono hB.size);replace p:=p.below hb p.lt;replace q:=q.below hb q.lt;clear hb)
     |(rw[aQ];refine ag rfl _ _ _ rfl _ rfl _ rfl _ _ p rI (by simp only[ad]) (aG _) ?_))
    refine bodyPost_ret (aq rfl _ _ _ _ _ _ _ rfl (p.row (ah (fun _=>0))) yc rfl rI) rfl ?_;refine⟨?_,Below.setRow hB (ns _) _⟩
    unfold dP dO;rw[HG.out];rfl
  ·obtain rfl:k=3:=oa
   have HG:=aa ((fO x er).2 hall.out)
   have e3:ah (dC x 3)=ah x:=dD fun i hi=>by simp[dC,hi]
   rw[e3]at q
   go_wp2_with (first|(refine ac ?hw _ _ rfl _ rfl _ _ _ _ q yc rfl ?hi ?_;(case hw=>exact rW);(case hi=>exact rI))|(refine ag rfl _ _ _ rfl _ rfl _ rfl _ _ p rI (by simp only[ad]) (aG _) ?_))
   refine bodyPost_ret (aq rfl _ _ _ _ _ _ _ rfl (p.row (ah x)) yc rfl rI) rfl ?_;refine⟨?_,Below.setRow hB (ns _) _⟩
   unfold dP dO;rw[HG.out];rfl
theorem DU (f g:Nat->Int) (b c:Nat) (w:World) (hf:cx f=true) (hg:cx g=true) (p:af w b (ah f) 25) (q:af w c (ah g) 25) (i:Nat) (hi:i<3):
 Calls Tryz.prog 87 #[.int .i64 i,.pointer (some ⟨b,0,none⟩),.pointer (some ⟨c,0,none⟩)] w fun e w'=>e=.returned (.tuple #[.int .i64 (kO f g i),.int .i64 0])/\Below w.heap.size w w':=by
 have h1:=(bE _).1 ((bK f).1 hf i hi)
 have h2:=(bE _).1 ((bK g).1 hg i hi)
 have hw2:IntKind.i64.wrap (f i-g i)=kO f g i:=by rw[wI];unfold kO;omega
 have hw3:wrap64 (f i-g i)=kO f g i:=by unfold wrap64 kO;omega
 have hdk:decide ((i:Int)<3)=true:=dT oa
 have hdk':decide (i<3)=true:=dT hi
 have hi3:(i:Int)<3:=oa
 clear h1 h2 hf hg
 go_enter Tryz.func87,Tryz.ntmps87
 go_upto_region 1 with(fail)
 have hB:bl w w:=Below.refl _ _
 refine bV 99 9 rfl ke ?_
 replace p:=p.drew
 replace q:=q.drew
 replace hB:bl w w.drew:=hB.drew
 generalize w.drew=wo at *
 refine ai 0 (.int .i64 i) rfl rfl ke (fun w1=>by go_simp;exact⟨rfl,Below.refl _ _⟩) ?_
 simp only[Act.put,aL,aM,aN]
 refine ai 1 (.pointer (some ⟨b,i,none⟩)) rfl rfl ke (fun w1=>by go_simp;first|exact⟨rfl,Below.refl _ _⟩|(rw[if_pos hi3];exact⟨rfl,Below.refl _ _⟩)) ?_
 simp only[Act.put,aL,aM,aN]
 refine aV 2 (.int .i64 (f i)) rfl rfl ke ke (fun w1 h1=>by have hc:w1.cell? ⟨b,i,none⟩=some (.int .i64 (f i)):=(p.below h1 p.lt).cellIs (az _ hi);go_simp;exact⟨rfl,Below.refl _ _⟩) ?_
 simp only[Act.put,aL,aM,aN]
 refine ai 3 (.int .i64 i) rfl rfl ke (fun w1=>by go_simp;exact⟨rfl,Below.refl _ _⟩) ?_
 simp only[Act.put,aL,aM,aN]
 refine ai 4 (.pointer (some ⟨c,i,none⟩)) rfl rfl ke (fun w1=>by go_simp;first|exact⟨rfl,Below.refl _ _⟩|(rw[if_pos hi3];exact⟨rfl,Below.refl _ _⟩)) ?_
 simp only[Act.put,aL,aM,aN]
 refine aV 5 (.int .i64 (g i)) rfl rfl ke ke (fun w1 h1=>by have hc:w1.cell? ⟨c,i,none⟩=some (.int .i64 (g i)):=(q.below h1 q.lt).cellIs (az _ hi);go_simp;exact⟨rfl,Below.refl _ _⟩) ?_
 simp only[Act.put,aL,aM,aN]
 refine ai 6 (.int .i64 (kO f g i)) rfl rfl ke (fun w1=>by go_simp;exact⟨by first|rfl|rw[hw2]|rw[hw3],Below.refl _ _⟩) ?_
 simp only[Act.put,aL,aM,aN]
 refine ai 7 (.int .i64 (kO f g i)) rfl rfl ke (fun w1=>by go_simp;exact⟨rfl,Below.refl _ _⟩) ?_
 simp only[Act.put,aL,aM,aN]
 refine ai 8 (.int .i64 0) rfl rfl ke (fun w1=>by go_simp;exact⟨rfl,Below.refl _ _⟩) ?_
 simp only[Act.put,aL,aM,aN]
 refine dq ke (fun w3 h3=>?_)
 replace hB:=bl.trans hB h3
 go_wp2_with (fail)
 go_ret2
 exact⟨rfl,hB⟩
def cu (f g:Nat->Int):Nat->Int:=if cx f&&cx g then iV (kO f g)else fun _=>0
def GA (f g:Nat->Int):Int:=if cx f&&cx g then m6 (kO f g)else 2
set_option maxHeartbeats 2000000 in
theorem pH (f g:Nat->Int) (w:World):Calls Tryz.prog 55 #[.agg (ah f),.agg (ah g)] w fun e w'=>e=.returned (.tuple #[.agg (ah (cu f g)),.int .i64 (GA f g)])/\Below w.heap.size w w':=by
 have V1:=Lib.hid (fun w=>cd f w)
 have V2:=Lib.hid (fun w=>cd g w)
 have hk:∃F E,(cx f=true->cx g=true->F=iV (kO f g)/\E=m6 (kO f g))/\cu f g=(if cx f&&cx g then F else fun _=>0)/\GA f g=(if cx f&&cx g then E else 2):=⟨_,_,fun _ _=>⟨rfl,rfl⟩,rfl,rfl⟩
 obtain⟨F,E,hk,e1,e2⟩:=hk
 rw[e1,e2]
 clear e1 e2
 have HK:=Lib.hid hk
 clear hk
 obtain⟨bf,hf⟩:∃b,cx f=b:=⟨_,rfl⟩
 obtain⟨bg,hg⟩:∃b,cx g=b:=⟨_,rfl⟩
 rw[hf]at V1 HK|-
 rw[hg]at V2 HK|-
 have HF:=Lib.hid hf
 have HG:=Lib.hid hg
 clear hf hg
 go_enter Tryz.func55,Tryz.ntmps55
 go_upto_region 1 with(fail)
 rw[aQ]
 have p:af (((w.alloc (.cells (ah f) 25)).alloc (.cells (ah g) 25)).alloc (.cells (ah fun _=>0) 25)) w.heap.size (ah f) 25:=((af.new _ _ _).alloc _).alloc _
 have q:af (((w.alloc (.cells (ah f) 25)).alloc (.cells (ah g) 25)).alloc (.cells (ah fun _=>0) 25)) (w.heap.size+1) (ah g) 25:=(af.new' (by simp)).alloc _
 have r:af (((w.alloc (.cells (ah f) 25)).alloc (.cells (ah g) 25)).alloc (.cells (ah fun _=>0) 25)) (w.heap.size+1+1) (ah fun _=>0) 25:=af.new' (by simp)
 have hB:Below w.heap.size w (((w.alloc (.cells (ah f) 25)).alloc (.cells (ah g) 25)).alloc (.cells (ah fun _=>0) 25)):=by go_grown
 generalize((w.alloc (.cells (ah f) 25)).alloc (.cells (ah g) 25)).alloc (.cells (ah fun _=>0) 25)=w0 at *
 cases bf
 ·go_wp2_with (first
   |(refine ac ?hw _ _ rfl _ rfl _ _ _ _ p Tryz.underlying25 rfl ?hi ?_;(case hw=>(first|rfl|(simp[Region.wanted,yielded];done)));(case hi=>(rw[ad];kernel_rfl)))
   |(refine ac ?hw _ _ rfl _ rfl _ _ _ _ q Tryz.underlying25 rfl ?hi ?_;(case hw=>(first|rfl|(simp[Region.wanted,yielded];done)));(case hi=>(rw[ad];kernel_rfl)))
   |(go_at_call 32;with_reducible refine(V1.out _).mono ?_;rintro e w1 ⟨rfl,hb⟩;replace hB:=hB.trans (hb.mono hB.size);replace p:=p.below hb p.lt;replace q:=q.below hb q.lt;replace r:=r.below hb r.lt;clear hb)
   |(go_at_call 32;with_reducible refine(V2.out _).mono ?_;rintro e w1 ⟨rfl,hb⟩;replace hB:=hB.trans (hb.mono hB.size);replace p:=p.below hb p.lt;replace q:=q.below hb q.lt;replace r:=r.below hb r.lt;clear hb)
   |(go_at_call 86;refine(gD _ _).mono ?_;rintro e w2 ⟨rfl,hb⟩;replace hB:=hB.trans (hb.mono hB.size);replace r:=r.below hb r.lt;clear hb)
   |(refine ag rfl _ _ _ rfl _ rfl _ rfl _ _ r (by rw[ad];kernel_rfl) (by simp only[ad]) (aG _) ?_))
  refine bodyPost_ret (aq rfl _ _ _ _ _ _ _ rfl (r.row (ah (fun _=>0))) Tryz.underlying25 rfl (by rw[ad];kernel_rfl)) rfl ?_;refine⟨?_,Below.setRow hB (by omega) _⟩
  rfl
 cases bg
 ·go_wp2_with (first
   |(refine ac ?hw _ _ rfl _ rfl _ _ _ _ p Tryz.underlying25 rfl ?hi ?_;(case hw=>(first|rfl|(simp[Region.wanted,yielded];done)));(case hi=>(rw[ad];kernel_rfl)))
   |(refine ac ?hw _ _ rfl _ rfl _ _ _ _ q Tryz.underlying25 rfl ?hi ?_;(case hw=>(first|rfl|(simp[Region.wanted,yielded];done)));(case hi=>(rw[ad];kernel_rfl)))
   |(go_at_call 32;with_reducible refine(V1.out _).mono ?_;rintro e w1 ⟨rfl,hb⟩;replace hB:=hB.trans (hb.mono hB.size);replace p:=p.below hb p.lt;replace q:=q.below hb q.lt;replace r:=r.below hb r.lt;clear hb)
   |(go_at_call 32;with_reducible refine(V2.out _).mono ?_;rintro e w1 ⟨rfl,hb⟩;replace hB:=hB.trans (hb.mono hB.size);replace p:=p.below hb p.lt;replace q:=q.below hb q.lt;replace r:=r.below hb r.lt;clear hb)
   |(go_at_call 86;refine(gD _ _).mono ?_;rintro e w2 ⟨rfl,hb⟩;replace hB:=hB.trans (hb.mono hB.size);replace r:=r.below hb r.lt;clear hb)
   |(refine ag rfl _ _ _ rfl _ rfl _ rfl _ _ r (by rw[ad];kernel_rfl) (by simp only[ad]) (aG _) ?_))
  refine bodyPost_ret (aq rfl _ _ _ _ _ _ _ rfl (r.row (ah (fun _=>0))) Tryz.underlying25 rfl (by rw[ad];kernel_rfl)) rfl ?_;refine⟨?_,Below.setRow hB (by omega) _⟩
  rfl
 obtain⟨hF,hE⟩:=HK.out rfl rfl
 have HFE:=Lib.hid (And.intro hF hE)
 clear HK hF hE
 go_wp2_with (first
  |(refine ac ?hw _ _ rfl _ rfl _ _ _ _ p Tryz.underlying25 rfl ?hi ?_;(case hw=>(first|rfl|(simp[Region.wanted,yielded];done)));(case hi=>(rw[ad];kernel_rfl)))
  |(refine ac ?hw _ _ rfl _ rfl _ _ _ _ q Tryz.underlying25 rfl ?hi ?_;(case hw=>(first|rfl|(simp[Region.wanted,yielded];done)));(case hi=>(rw[ad];kernel_rfl)))
  |(go_at_call 32;with_reducible refine(V1.out _).mono ?_;rintro e w1 ⟨rfl,hb⟩;replace hB:=hB.trans (hb.mono hB.size);replace p:=p.below hb p.lt;replace q:=q.below hb q.lt;replace r:=r.below hb r.lt;clear hb)
  |(go_at_call 32;with_reducible refine(V2.out _).mono ?_;rintro e w1 ⟨rfl,hb⟩;replace hB:=hB.trans (hb.mono hB.size);replace p:=p.below hb p.lt;replace q:=q.below hb q.lt;replace r:=r.below hb r.lt;clear hb)
  |(go_at_call 86;refine(uF (kO f g) (fun _=>0) _ _ _ (fun i hi wx hx=>DU f g _ _ wx HF.out HG.out (p.below hx p.lt) (q.below hx q.lt) i hi)).mono ?_;rintro e w2 ⟨rfl,hb⟩;rw[(fC _).1,(fC _).2,<-HFE.out.1,<-HFE.out.2];replace hB:=hB.trans (hb.mono hB.size);replace r:=r.below hb r.lt;clear hb)
  |(refine ag rfl _ _ _ rfl _ rfl _ rfl _ _ r (by rw[ad];kernel_rfl) (by simp only[ad]) (aG _) ?_))
 refine bodyPost_ret (aq rfl _ _ _ _ _ _ _ rfl (r.row (ah F)) Tryz.underlying25 rfl (by rw[ad];kernel_rfl)) rfl ?_;refine⟨?_,Below.setRow hB (by omega) _⟩
 rfl
end Go.Proofs.YtbhahonkhiiilaaGreat
