/-
  Regions that draw their order, by an invariant: what every operation gives, and what memory holds by what has come up. No program in sight.
-/
import Derived.Test.YtbhahonkhiiilaaGreatFrameV
set_option linter.unusedSimpArgs false
set_option linter.unusedVariables false
namespace Go.Proofs.YtbhahonkhiiilaaGreat
open Go.RowKit PM Dt
def mV (ms:List Nat) (o:Oper):Nat:=o.after.toList.foldl (fun m e=>if Region.binds .any e then m|||(ms.getD e.on 0|||1<<<e.on)else m) 0
def mc:List Oper->List Nat->List Nat
 |[],ms=>ms
 |o::l,ms=>mc l (ms++[mV ms o])
theorem qg {ms:List Nat} {j:Nat}:∀(es:List Edge) (m:Nat),(es.foldl (fun m e=>if Region.binds .any e then m|||(ms.getD e.on 0|||1<<<e.on)else m) m).testBit j=true->
 m.testBit j=true\/∃e∈es,Region.binds .any e=true/\(e.on=j\/(ms.getD e.on 0).testBit j=true)
 |[],m,h=>.inl h
 | e ::es,m,h=>by
   rw[List.foldl_cons]at h
   rcases qg es _ h with h|⟨e',he,hb,h⟩
   ·by_cases hb:Region.binds .any e=true
    ·rw[if_pos hb]at h
     simp only[Nat.testBit_or,Bool.or_eq_true]at h
     rcases h with h|h|h
     ·exact .inl h
     ·exact .inr ⟨e,List.mem_cons_self ..,hb,.inr h⟩
     ·refine .inr ⟨e,List.mem_cons_self ..,hb,.inl ?_⟩
      rw[Nat.one_shiftLeft,Nat.testBit_two_pow]at h
      simpa using h
    ·rw[if_neg hb]at h;exact .inl h
   ·exact .inr ⟨e',List.mem_cons_of_mem _ he,hb,h⟩
theorem gq {α:Type} (a b:List α) (i:Nat) (d:α) (h:i<a.length):(a++b).getD i d=a.getD i d:=by
 simp[List.getD,List.getElem?_append_left h]
def CN (l:List Oper) (ms:List Nat):Prop:=∀i j,(ms.getD i 0).testBit j=true->i<l.length/\∃o,l[i]?=some o/\∃e∈o.after,Region.binds .any e=true/\(e.on=j\/(e.on<i/\(ms.getD e.on 0).testBit j=true))
theorem uM:∀(l pre:List Oper) (ms:List Nat),ms.length=pre.length->CN pre ms->CN (pre++l) (mc l ms)
 |[],pre,ms,_,h=>by simpa[mc]using h
 | o ::l,pre,ms,hl,h=>by
   have:=uM l (pre++[o]) (ms++[mV ms o]) (by simp[hl]) ?_
   ·simpa[mc]using this
   intro i j hb
   rcases Nat.lt_or_ge i ms.length with hi|hi
   ·rw[gq _ _ _ _ hi]at hb
    obtain⟨h1,o',ho',e,he,hbe,h2⟩:=h i j hb
    refine⟨by simp;omega,o',by rw[List.getElem?_append_left h1];exact ho',e,he,hbe,h2.imp id fun h3=>⟨h3.1,?_⟩⟩
    rw[gq _ _ _ _ oa];exact h3.2
   ·by_cases hi2:i=ms.length
    ·subst hi2
     have e1:(ms++[mV ms o]).getD ms.length 0=mV ms o:=by simp[List.getD]
     rw[e1]at hb
     unfold mV at hb
     rcases qg _ _ hb with h0|⟨e,he,hbe,h2⟩
     ·simp at h0
     ·refine⟨by simp[hl],o,by rw[hl];simp,e,by simpa using he,hbe,h2.imp id fun h3=>?_⟩
      have hlt:e.on<ms.length:=by
       rcases Nat.lt_or_ge e.on ms.length with hx|hx
       ·exact hx
       ·simp[List.getD,List.getElem?_eq_none hx]at h3
      exact⟨hlt,by rw[gq _ _ _ _ hlt];exact h3⟩
    ·simp[List.getD,List.getElem?_eq_none (show(ms++[mV ms o]).length<=i by simp;omega)]at hb
theorem nH {l:List Oper} {listed:Array Bool} (hc:iI l.toArray listed):∀(i j:Nat),((mc l []).getD i 0).testBit j=true->
 (∀o,l[i]?=some o->∀d∈o.after,Region.binds .any d=true->listed.getD d.on false=true)->listed.getD j false=true:=by
 have hok:CN l (mc l []):=by
  have:=uM l [] [] rfl (fun i j h=>by simp[List.getD]at h)
  simpa using this
 intro i
 induction i using Nat.strongRecOn with
 | ind i ih=>
   intro j hb hr
   obtain⟨_,o,ho,e,he,hbe,h2⟩:=hok i j hb
   have h1:=hr o ho e he hbe
   rcases h2 with rfl|⟨hlt,h3⟩
   ·exact h1
   ·exact ih e.on hlt j h3 fun o' ho' d hd hbd=>hc e.on o' (by simpa using ho') h1 d hd hbd
/-! ###The law-/
def rh (p:Nat->Nat) (i q:Nat):Nat->Nat:=fun j=>match Nat.beq j i with|true=>q|false=>p j
def cD (L:Nat->Bool) (i:Nat):Nat->Bool:=fun j=>match Nat.beq j i with|true=>true|false=>L j
theorem DM (p:Nat->Nat) (i q j:Nat):rh p i q j=if j=i then q else p j:=by
 unfold rh
 by_cases h:j=i
 ·subst h;simp
 ·have:Nat.beq j i=false:=by cases hb:Nat.beq j i with|false=>rfl|true=>exact absurd (Nat.eq_of_beq_eq_true hb) h
  simp[this,h]
theorem Ds (L:Nat->Bool) (i j:Nat):cD L i j=if j=i then true else L j:=by
 unfold cD
 by_cases h:j=i
 ·subst h;simp
 ·have:Nat.beq j i=false:=by cases hb:Nat.beq j i with|false=>rfl|true=>exact absurd (Nat.eq_of_beq_eq_true hb) h
  simp[this,h]
theorem bX (p:Nat->Nat) (i:Nat):rh p i (p i)=p:=by funext j;rw[DM];split<;>simp_all
theorem uf (p:Nat->Nat) (i q:Nat):rh p i q i=q:=by rw[DM,if_pos rfl]
def vI:(Nat->Nat)->Value:=fun _=>undef
def iS (P:Program) (G:Value->World->Prop):Result Next->Prop
 |.ok (.value u) w=>G u w
 |.ok .skip w=>G undef w
 |.ok (.enter f args) w=>Calls P f args w fun e w'=>∃u,e=.returned u/\G u w'
 |_=>False
def fk (P:Program) (l:List Oper) (M:List Nat) (vs:List ((Nat->Nat)->Value)) (R:(Nat->Nat)->(Nat->Bool)->World->Prop) (A:(Nat->Nat)->Act) (fr:List Nat) (i:Nat):Prop:=
 ∃o,l[i]?=some o/\∀p L w1,R p L w1->L i=false->(∀j,(M.getD i 0).testBit j=true->L j=true)->(∀j,(M.getD j 0).testBit i=true->L j=false)->
  (Region.wanted o (yielded l.toArray (A p).tmps)=true/\iS P (fun u w2=>∃q,(fr.contains i=false->q=p i)/\u=(vs.getD i vI) (rh p i q)/\R (rh p i q) (cD L i) w2) ((execOp (A p).eval o).run P w1))\/
  (Region.wanted o (yielded l.toArray (A p).tmps)=false/\(vs.getD i vI) p=undef/\R p (cD L i) w1)
def aw (Φ:Nat->Prop):List Nat->Prop
 |[]=>True
 |i::r=>Φ i/\aw Φ r
theorem aw.cons {Φ:Nat->Prop} {i:Nat} {r:List Nat} (h:Φ i) (k:aw Φ r):aw Φ (i::r):=⟨h,k⟩
theorem aw.nil {Φ:Nat->Prop}:aw Φ []:=trivial
theorem iz {Φ:Nat->Prop}:∀(r:List Nat),aw Φ r->∀i∈r,Φ i
 |[],_,i,h=>by cases h
 | j::r,ha,i,h=>by
   rcases List.mem_cons.1 h with rfl|h
   ·exact ha.1
   ·exact iz r ha.2 i h
def dQ (l:List Oper):List Nat:=(List.range l.length).filter fun i=>(dZ l i).isSome
def sI (l:List Oper) (M:List Nat):Bool:=(List.range l.length).all fun i=>match l[i]? with
 | some o=>let s:=o.looksAt l.toArray;(List.range l.length).all fun k=>match dZ l k with
   |some d=>!s.contains d||(M.getD i 0).testBit k
   |none=>true
 |none=>true
def Dd (l:List Oper) (M:List Nat):Bool:=
 Region.noSelect l.toArray&&DN l.toArray l.length&&jq l (dQ l)&&(mc l []==M)&&sI l M
section
variable{P:Program} {Q:Exit->Act->World->Prop}
theorem lu {l:List Oper} {v v':Nat->Value} {o:Oper} (ho:∀cs b,o.op≠.select cs b):∀(r:List Nat) (a:Act),jq l r=true->
 (∀k∈r,v k=v' k\/∀d,dZ l k=some d->d∉o.looksAt l.toArray)->
 execOp (dA l v r a).eval o=execOp (dA l v' r a).eval o/\Region.wanted o (yielded l.toArray (dA l v r a).tmps)=Region.wanted o (yielded l.toArray (dA l v' r a).tmps)
 |[],_,_,_=>⟨rfl,rfl⟩
 | k::r,a,hB,h=>by
   simp only[jq,Bool.and_eq_true,List.all_eq_true,bne_iff_ne,ne_eq]at hB
   obtain⟨⟨_,hne⟩,hr⟩:=hB
   unfold dA
   obtain⟨h1,h2⟩:=lu ho r (a.put (dZ l k) (v k)) hr fun j hj=>h j (List.mem_cons_of_mem _ hj)
   rw[h1,h2]
   rcases h k (List.mem_cons_self ..)with he|hd
   ·rw[he];exact⟨rfl,rfl⟩
   ·rw[<-kf r a (fun j hj=>hne j hj),<-kf r a (fun j hj=>hne j hj),execOp_put o ho _ _ _ hd,execOp_put o ho _ _ _ hd,wanted_put o _ _ _ hd,wanted_put o _ _ _ hd]
    exact⟨rfl,rfl⟩
theorem xH {l:List Oper} {listed:Array Bool} (ht:DN l.toArray l.length=true) (hsz:listed.size=l.length) (hr:Region.ready .any l.toArray listed=[]):∀i,i<l.length->listed.getD i true=true:=by
 intro i
 induction i using Nat.strongRecOn with
 | ind i ih=>
   intro hi
   cases hb:listed.getD i true with
   |true=>rfl
   | false=>
     exfalso
     have:i∈Region.ready .any l.toArray listed:=by
      rw[mem_ready]
      refine⟨hb,l[i],by simp[hi],fun e he hbe=>?_⟩
      unfold DN at ht
      simp only[List.all_eq_true]at ht
      have:=ht i (List.mem_range.2 hi)
      simp only[List.getElem?_toArray,List.getElem?_eq_getElem hi]at this
      simp only[Array.all_eq_true_iff_forall_mem,Bool.or_eq_true,Bool.not_eq_true',decide_eq_true_eq]at this
      have hlt:e.on<i:=by
       rcases this e he with h|h
       ·rw[h]at hbe;cases hbe
       ·exact h
      have hl:=ih e.on hlt oa
      have hlt2:e.on<listed.size:=oa
      simp[hlt2]at hl|-;exact hl
     rw[hr]at this;cases this
theorem iS.oper {o:Oper} {a b:Act} {w:World} {G:Value->World->Prop} {K:Act->World->Prop} (he:execOp a.eval o=execOp b.eval o) (h:iS P G ((execOp b.eval o).run P w)) (hK:∀u w',G u w'->K (a.put o.dst u) w'):o.wp P a w K qy:=by
 unfold Oper.wp
 rw[he]
 generalize(execOp b.eval o).run P w=r at *
 cases r with
 | ok n w'=>
   cases n<;>simp only[iS]at h<;>simp only[Oper.upon]
   case value u=>exact hK _ _ h
   case skip=>exact hK _ _ h
   case enter f args=>
    refine Calls.mono h fun e w'' ⟨u,he,hg⟩=>?_
    subst he
    exact hK _ _ hg
 |halt x w'=>exact h.elim
theorem a_ {id:Nat} {a:Act} {w:World} {l:List Oper} (n:Nat) (M:List Nat) (fr:List Nat) (vs:List ((Nat->Nat)->Value)) (R:(Nat->Nat)->(Nat->Bool)->World->Prop) (A:(Nat->Nat)->Act) (ds:List (Nat×Nat)) (idx:List Nat)
 (hn:l.length=n) (hm:P.follows .mixedOrders=true) (hB:Dd l M=true)
 (hds:(sr l ds&&(ds.map (·.1)==dQ l)&&(idx==List.range n))=true)
 (hA:∀p,A p=rB (fun j=>(vs.getD j vI) p) ds a)
 (hV0:∀p q,aw (fun i=>aw (fun j=>(Nat.beq j i||(M.getD j 0).testBit i)=true\/(vs.getD j vI) (rh p i q)=(vs.getD j vI) p) idx) fr)
 (h0:∀p,R p (fun _=>false) w.drew)
 (hmore:∀p L w1 w2,R p L w1->bl w1 w2->R p L w2)
 (hs:(∀p L w1 w2,R p L w1->bl w1 w2->R p L w2)->aw (fk P l M vs R A fr) idx)
 (he:∀p w1,R p (fun j=>decide (j<n)) w1->wpList P l.toArray Q [] (A p) w1):(Code.region id l.toArray true).wp P Q a w:=by
 simp only[Bool.and_eq_true,beq_iff_eq]at hds
 obtain⟨⟨hds1,hds2⟩,rfl⟩:=hds
 have hA:∀p,A p=dA l (fun j=>(vs.getD j vI) p) (dQ l) a:=fun p=>by rw[hA p,<-hds2,tD ds a hds1]
 have hV:∀i∈fr,∀p q j,j<n->(j=i\/(M.getD j 0).testBit i=true)\/(vs.getD j vI) (rh p i q)=(vs.getD j vI) p:=fun i hi p q j hj=>by
  have:=iz _ (iz _ (hV0 p q) i hi) j (List.mem_range.2 hj)
  refine this.imp (fun h=>?_) (fun h=>h)
  rcases Bool.or_eq_true_iff.1 h with h|h
  ·exact .inl (Nat.eq_of_beq_eq_true h)
  ·exact .inr h
 simp only[Dd,Bool.and_eq_true,beq_iff_eq]at hB
 obtain⟨⟨⟨⟨hsel,htopo⟩,hap⟩,hM⟩,hlook⟩:=hB
 subst hM
 have hsel':=Region.noSelect_spec hsel
 have hs':=iz _ (hs hmore)
 have hsize:l.toArray.size=n:=by simpa using hn
 refine wp_region_any hm ?_
 rw[hsize]
 obtain⟨v0,hv0⟩:=oN l (dQ l) a hap
 have hmem:∀k,k∈dQ l↔k<l.length/\(dZ l k).isSome=true:=fun k=>by simp[dQ]
 have main:∀(f:Nat) (listed:Array Bool) (v:Nat->Value) (p:Nat->Nat) (w':World),iI l.toArray listed->listed.size=n->
  (∀k,listed.getD k false=true->v k=(vs.getD k vI) p)->R p (fun j=>listed.getD j false) w'->Jk listed n=f->
  wpAny P .any l.toArray Q f listed (dA l v (dQ l) a) w':=by
  have hdone:∀(listed:Array Bool) (v:Nat->Value) (p:Nat->Nat) (w':World),listed.size=n->(∀i,i<n->listed.getD i true=true)->
   (∀k,listed.getD k false=true->v k=(vs.getD k vI) p)->R p (fun j=>listed.getD j false) w'->Q .normal (dA l v (dQ l) a) w':=by
   intro listed v p w' hsz hall hv hR
   have hLt:∀j,j<n->listed.getD j false=true:=fun j hj=>by
    have h1:=hall j hj
    have h2:j<listed.size:=oa
    simp[h2]at h1|-;exact h1
   have hL:(fun j=>listed.getD j false)=fun j=>decide (j<n):=by
    funext j
    by_cases hj:j<n
    ·rw[hLt j hj];simp[hj]
    ·simp[hj,Array.getElem?_eq_none (show listed.size<=j by omega)]
   rw[hL]at hR
   have:=he p w' hR
   rw[hA p,<-fd (v:=v) (dQ l) a (fun k hk=>hv k (hLt k (by have:=((hmem k).1 hk).1;omega)))]at this
   exact this
  intro f
  induction f with
  | zero=>
    intro listed v p w' hcl hsz hv hR hc
    have hall:=CD hc
    refine⟨?_,hdone listed v p w' hsz hall hv hR⟩
    apply List.eq_nil_iff_forall_not_mem.2
    intro j hj
    obtain⟨hun,o,ho,_⟩:=mem_ready.1 hj
    have hjn:j<n:=by have:=(Array.getElem?_eq_some_iff.1 ho).1;omega
    rw[hall j hjn]at hun;cases hun
  | succ f ih=>
    intro listed v p w' hcl hsz hv hR hc
    refine⟨fun hr=>hdone listed v p w' hsz (fun i hi=>xH htopo oa hr i oa) hv hR,fun i hi=>?_⟩
    have hi':=hi
    obtain⟨hun,o,ho,hafter⟩:=mem_ready.1 hi
    have hin:i<n:=by have:=(Array.getElem?_eq_some_iff.1 ho).1;omega
    have ho':l[i]?=some o:=by simpa using ho
    obtain⟨o2,ho2,hst⟩:=hs' i (List.mem_range.2 hin)
    obtain rfl:o=o2:=Option.some.inj (ho'.symm.trans ho2)
    have hunf:listed.getD i false=false:=by
     have h2:i<listed.size:=oa
     simp[h2]at hun|-;exact hun
    have hdeps:∀j,((mc l []).getD i 0).testBit j=true->listed.getD j false=true:=fun j hb=>
     nH hcl i j hb fun o' ho'' d hd hbd=>hafter d (by rw[ho']at ho'';cases ho'';exact hd) hbd
    have hnot:∀j,((mc l []).getD j 0).testBit i=true->listed.getD j false=false:=fun j hb=>by
     cases hl:listed.getD j false with
     |false=>rfl
     | true=>
       have:=nH hcl j i hb fun o' ho'' d hd hbd=>hcl j o' (by simpa using ho'') hl d hd hbd
       rw[hunf]at this;cases this
    have hsame:=lu (l:=l) (v:=v) (v':=fun j=>(vs.getD j vI) p) (o:=o) (fun cs b=>hsel' i o cs b ho) (dQ l) a hap fun k hk=>by
     by_cases hlk:listed.getD k false=true
     ·exact .inl (hv k hlk)
     ·refine .inr fun d hd hin'=>hlk (hdeps k ?_)
      unfold sI at hlook
      simp only[List.all_eq_true,List.mem_range]at hlook
      have h3:=hlook i oa
      rw[ho']at h3
      simp only[List.all_eq_true,List.mem_range]at h3
      have h4:=h3 k ((hmem k).1 hk).1
      rw[hd]at h4
      simp only[Bool.or_eq_true,Bool.not_eq_true']at h4
      rcases h4 with h4|h4
      ·have:(o.looksAt l.toArray).contains d=true:=List.contains_iff_mem.2 hin'
       rw[h4]at this;cases this
      ·exact h4
    rw[<-hA p]at hsame
    have hdst:dZ l i=o.dst:=by unfold dZ;rw[ho'];rfl
    have hgo:∀(q:Nat) (u:Value) (w2:World),(fr.contains i=false->q=p i)->u=(vs.getD i vI) (rh p i q)->R (rh p i q) (cD (fun j=>listed.getD j false) i) w2->
     wpAny P .any l.toArray Q f (listed.setIfInBounds i true) ((dA l v (dQ l) a).put o.dst u) w2:=by
     intro q u w2 hq hu hR2
     have hput:(dA l v (dQ l) a).put o.dst u=dA l (jE v i u) (dQ l) a:=by
      rw[<-hdst]
      by_cases hd:(dZ l i).isSome=true
      ·exact mZ (dQ l) a hap ((hmem i).2 ⟨oa,hd⟩)
      ·have hnone:dZ l i=none:=by cases h:dZ l i with|none=>rfl|some d=>rw[h]at hd;exact absurd rfl hd
       rw[hnone]
       show dA l v (dQ l) a=_
       refine fd _ _ fun k hk=>?_
       unfold jE
       rw[if_neg]
       rintro rfl
       exact hd ((hmem k).1 hk).2
     rw[hput]
     have hLs:∀k,(listed.setIfInBounds i true).getD k false=cD (fun j=>listed.getD j false) i k:=fun k=>by
      rw[Ds]
      by_cases hk:k=i
      ·subst hk
       have h2:k<listed.size:=oa
       simp[h2]
      ·rw[if_neg hk,getD_set_ne false (Ne.symm hk)]
     refine ih (listed.setIfInBounds i true) (jE v i u) (rh p i q) w2 (hcl.set hi') (by simpa using hsz) (fun k hk=>?_) ?_ ?_
     ·unfold jE
      by_cases hki:k=i
      ·subst hki;rw[if_pos rfl,hu]
      ·rw[if_neg hki]
       have hlk:listed.getD k false=true:=by rw[getD_set_ne false (Ne.symm hki)]at hk;exact hk
       rw[hv k hlk]
       by_cases hfr:fr.contains i=true
       ·have hkn:k<n:=by
         rcases Nat.lt_or_ge k n with hx|hx
         ·exact hx
         ·simp[Array.getElem?_eq_none (show listed.size<=k by omega)]at hlk
        rcases hV i (by simpa using hfr) p q k hkn with(h|h)|h
        ·exact absurd h hki
        ·have:=nH hcl k i h fun o' ho'' d hd hbd=>hcl k o' (by simpa using ho'') hlk d hd hbd
         rw[hunf]at this;cases this
        ·exact h.symm
       ·have:q=p i:=hq (by cases hx:fr.contains i with|false=>rfl|true=>exact absurd hx hfr)
        rw[this,bX]
     ·have:(fun j=>(listed.setIfInBounds i true).getD j false)=cD (fun j=>listed.getD j false) i:=funext hLs
      rw[this];exact hR2
     ·have:=Fk hin hun;omega
    refine jV ?_
    unfold Go.wpOp
    simp only[ho]
    rcases hst p (fun j=>listed.getD j false) w' hR hunf hdeps hnot with⟨hw,hstep⟩|⟨hw,hu,hR2⟩
    ·rw[hsame.2,if_pos hw]
     exact .inl (iS.oper (K:=wpAny P .any l.toArray Q f (listed.setIfInBounds i true)) hsame.1 hstep (fun u w2 ⟨q,hq,hu,hR2⟩=>hgo q u w2 hq hu hR2))
    ·rw[hsame.2,if_neg (by rw[hw];decide)]
     exact hgo (p i) undef w' (fun _=>rfl) (by rw[bX];exact hu.symm) (by rw[bX];exact hR2)
 have hcnt:Jk (Array.replicate n false) n=n:=by
  unfold Jk
  rw[List.countP_eq_length.2 (fun i hi=>?_),List.length_range]
  have:i<n:=List.mem_range.1 hi
  simp[this]
 rw[hv0]
 refine main n (Array.replicate n false) v0 (fun _=>0) w.drew (fun j oj _ hl=>?_) sd (fun k hk=>?_) ?_ hcnt
 ·rw[getD_replicate_false]at hl;cases hl
 ·rw[getD_replicate_false]at hk;cases hk
 ·have:(fun j=>(Array.replicate n false).getD j false)=fun _=>false:=by funext j;rw[getD_replicate_false]
  rw[this];exact h0 _
def uh (n:Nat):List Nat:=(List.range n).map fun i=>2^i-1
theorem kH {n i j:Nat} (h:((uh n).getD i 0).testBit j=true):i<n/\j<i:=by
 unfold uh at h
 rcases Nat.lt_or_ge i n with hi|hi
 ·rw[List.getD,List.getElem?_map,List.getElem?_range hi]at h
  simp only[Option.map_some,Option.getD_some,Nat.testBit_two_pow_sub_one,decide_eq_true_eq]at h
  exact⟨hi,h⟩
 ·rw[List.getD,List.getElem?_map,List.getElem?_eq_none (by simp[hi])]at h
  simp at h
def Cl (l:List Oper) (M:List Nat):Bool:=Region.noSelect l.toArray&&jq l (dQ l)&&(uh l.length==M)&&sI l M
theorem ay {id:Nat} {a:Act} {w:World} {l:List Oper} (n:Nat) (M:List Nat) (fr:List Nat) (vs:List ((Nat->Nat)->Value)) (R:(Nat->Nat)->(Nat->Bool)->World->Prop) (A:(Nat->Nat)->Act) (ds:List (Nat×Nat)) (idx:List Nat)
 (hn:l.length=n) (hB:Cl l M=true)
 (hds:(sr l ds&&(ds.map (·.1)==dQ l)&&(idx==List.range n))=true)
 (hA:∀p,A p=rB (fun j=>(vs.getD j vI) p) ds a)
 (hV0:∀p q,aw (fun i=>aw (fun j=>(Nat.beq j i||(M.getD j 0).testBit i)=true\/(vs.getD j vI) (rh p i q)=(vs.getD j vI) p) idx) fr)
 (h0:∀p,R p (fun _=>false) w)
 (hmore:∀p L w1 w2,R p L w1->bl w1 w2->R p L w2)
 (hs:(∀p L w1 w2,R p L w1->bl w1 w2->R p L w2)->aw (fk P l M vs R A fr) idx)
 (he:∀p w1,R p (fun j=>decide (j<n)) w1->wpList P l.toArray Q [] (A p) w1):(Code.region id l.toArray false).wp P Q a w:=by
 simp only[Bool.and_eq_true,beq_iff_eq]at hds
 obtain⟨⟨hds1,hds2⟩,rfl⟩:=hds
 have hA:∀p,A p=dA l (fun j=>(vs.getD j vI) p) (dQ l) a:=fun p=>by rw[hA p,<-hds2,tD ds a hds1]
 have hV:∀i∈fr,∀p q j,j<n->(j=i\/(M.getD j 0).testBit i=true)\/(vs.getD j vI) (rh p i q)=(vs.getD j vI) p:=fun i hi p q j hj=>by
  have:=iz _ (iz _ (hV0 p q) i hi) j (List.mem_range.2 hj)
  refine this.imp (fun h=>?_) (fun h=>h)
  rcases Bool.or_eq_true_iff.1 h with h|h
  ·exact .inl (Nat.eq_of_beq_eq_true h)
  ·exact .inr h
 simp only[Cl,Bool.and_eq_true,beq_iff_eq]at hB
 obtain⟨⟨⟨hsel,hap⟩,hM⟩,hlook⟩:=hB
 subst hM
 have hsel':=Region.noSelect_spec hsel
 have hs':=iz _ (hs hmore)
 have hsize:l.toArray.size=n:=by simpa using hn
 refine wp_region ?_
 rw[hsize]
 obtain⟨v0,hv0⟩:=oN l (dQ l) a hap
 have hmem:∀k,k∈dQ l↔k<l.length/\(dZ l k).isSome=true:=fun k=>by simp[dQ]
 have main:∀(r i:Nat) (v:Nat->Value) (p:Nat->Nat) (w':World),i+r=n->(∀k,k<i->v k=(vs.getD k vI) p)->R p (fun j=>decide (j<i)) w'->
  wpOps P l.toArray Q (List.range' i r) (dA l v (dQ l) a) w':=by
  intro r
  induction r with
  | zero=>
    intro i v p w' hir hv hR
    obtain rfl:i=n:=oa
    have:=he p w' hR
    rw[hA p,<-fd (v:=v) (dQ l) a (fun k hk=>hv k (by have:=((hmem k).1 hk).1;omega))]at this
    exact this
  | succ r ih=>
    intro i v p w' hir hv hR
    have hin:i<n:=oa
    rw[List.range'_succ,wpOps_cons]
    obtain⟨o,ho',hst⟩:=hs' i (List.mem_range.2 hin)
    have ho:l.toArray[i]?=some o:=by simpa using ho'
    have hlen:(uh l.length)=uh n:=by rw[hn]
    have hsame:=lu (l:=l) (v:=v) (v':=fun j=>(vs.getD j vI) p) (o:=o) (fun cs b=>hsel' i o cs b ho) (dQ l) a hap fun k hk=>by
     by_cases hlk:k<i
     ·exact .inl (hv k hlk)
     ·refine .inr fun d hd hin'=>hlk ?_
      unfold sI at hlook
      simp only[List.all_eq_true,List.mem_range]at hlook
      have h3:=hlook i oa
      rw[ho']at h3
      simp only[List.all_eq_true,List.mem_range]at h3
      have h4:=h3 k ((hmem k).1 hk).1
      rw[hd]at h4
      simp only[Bool.or_eq_true,Bool.not_eq_true']at h4
      rcases h4 with h4|h4
      ·have:(o.looksAt l.toArray).contains d=true:=List.contains_iff_mem.2 hin'
       rw[h4]at this;cases this
      ·exact(kH h4).2
    rw[<-hA p]at hsame
    have hdst:dZ l i=o.dst:=by unfold dZ;rw[ho'];rfl
    have hgo:∀(q:Nat) (u:Value) (w2:World),(fr.contains i=false->q=p i)->u=(vs.getD i vI) (rh p i q)->R (rh p i q) (cD (fun j=>decide (j<i)) i) w2->
     wpOps P l.toArray Q (List.range' (i+1) r) ((dA l v (dQ l) a).put o.dst u) w2:=by
     intro q u w2 hq hu hR2
     have hput:(dA l v (dQ l) a).put o.dst u=dA l (jE v i u) (dQ l) a:=by
      rw[<-hdst]
      by_cases hd:(dZ l i).isSome=true
      ·exact mZ (dQ l) a hap ((hmem i).2 ⟨oa,hd⟩)
      ·have hnone:dZ l i=none:=by cases h:dZ l i with|none=>rfl|some d=>rw[h]at hd;exact absurd rfl hd
       rw[hnone]
       show dA l v (dQ l) a=_
       refine fd _ _ fun k hk=>?_
       unfold jE
       rw[if_neg]
       rintro rfl
       exact hd ((hmem k).1 hk).2
     rw[hput]
     refine ih (i+1) (jE v i u) (rh p i q) w2 oa (fun k hk=>?_) ?_
     ·unfold jE
      by_cases hki:k=i
      ·subst hki;rw[if_pos rfl,hu]
      ·rw[if_neg hki,hv k oa]
       by_cases hfr:fr.contains i=true
       ·rcases hV i (by simpa using hfr) p q k oa with(h|h)|h
        ·exact absurd h hki
        ·have:=(kH h).2;omega
        ·exact h.symm
       ·have:q=p i:=hq (by cases hx:fr.contains i with|false=>rfl|true=>exact absurd hx hfr)
        rw[this,bX]
     ·have:cD (fun j=>decide (j<i)) i=fun j=>decide (j<i+1):=by
       funext j
       rw[Ds]
       by_cases hj:j=i
       ·simp[hj]
       ·rw[if_neg hj]
        have:(j<i)=(j<i+1):=by apply propext;omega
        simp[this]
      rw[this]at hR2;exact hR2
    refine jV ?_
    unfold Go.wpOp
    simp only[ho]
    rcases hst p (fun j=>decide (j<i)) w' hR sd (fun j hb=>dT (kH hb).2) (fun j hb=>dF (by have:=(kH hb).2;omega))with⟨hw,hstep⟩|⟨hw,hu,hR2⟩
    ·rw[hsame.2,if_pos hw]
     exact .inl (iS.oper (K:=wpOps P l.toArray Q (List.range' (i+1) r)) hsame.1 hstep (fun u w2 ⟨q,hq,hu,hR2⟩=>hgo q u w2 hq hu hR2))
    ·rw[hsame.2,if_neg (by rw[hw];decide)]
     exact hgo (p i) undef w' (fun _=>rfl) (by rw[bX];exact hu.symm) (by rw[bX];exact hR2)
 rw[List.range_eq_range',hv0]
 refine main n 0 v0 (fun _=>0) w oa (fun k hk=>by omega) ?_
 have:(fun j=>decide (j<0))=fun _=>false:=by funext j;simp
 rw[this];exact h0 _
/-! ###The steps-/
variable{l:List Oper} {M:List Nat} {vs:List ((Nat->Nat)->Value)} {R:(Nat->Nat)->(Nat->Bool)->World->Prop} {A:(Nat->Nat)->Act} {fr:List Nat} {o:Oper}
abbrev gd (M:List Nat) (R:(Nat->Nat)->(Nat->Bool)->World->Prop) (i:Nat) (L:Nat->Bool):Prop:=L i=false/\(∀j,(M.getD i 0).testBit j=true->L j=true)/\(∀j,(M.getD j 0).testBit i=true->L j=false)
theorem fR (i:Nat) (ho:l[i]?=some o) (hw:∀p,Region.wanted o (yielded l.toArray (A p).tmps)=true)
 (h:∀p L w1,R p L w1->gd M R i L->iS P (fun u w2=>∃q,(fr.contains i=false->q=p i)/\u=(vs.getD i vI) (rh p i q)/\R (rh p i q) (cD L i) w2) ((execOp (A p).eval o).run P w1)):fk P l M vs R A fr i:=
 ⟨o,ho,fun p L w1 hR h1 h2 h3=>.inl ⟨hw p,h p L w1 hR ⟨h1,h2,h3⟩⟩⟩
theorem eK (i:Nat) (ho:l[i]?=some o) (hw:∀p,Region.wanted o (yielded l.toArray (A p).tmps)=true)
 (h:∀p L w1,R p L w1->gd M R i L->m8 ((vs.getD i vI) p) w1 ((execOp (A p).eval o).run P w1)) (hR:∀p L w1,R p L w1->R p (cD L i) w1):fk P l M vs R A fr i:=
 fR i ho hw fun p L w1 hr hk=>by
  rw[(h p L w1 hr hk).eq]
  exact⟨p i,fun _=>rfl,by rw[bX],by rw[bX];exact hR _ _ _ hr⟩
theorem A6 (i:Nat) (ho:l[i]?=some o) (hw:∀p,Region.wanted o (yielded l.toArray (A p).tmps)=true)
 (h:∀p L w1,R p L w1->gd M R i L->gU P (bl w1) ((vs.getD i vI) p) ((execOp (A p).eval o).run P w1)) (hR:∀p L w1 w2,R p L w1->bl w1 w2->R p (cD L i) w2):fk P l M vs R A fr i:=
 fR i ho hw fun p L w1 hr hk=>by
  have h1:=h p L w1 hr hk
  generalize(execOp (A p).eval o).run P w1=r at *
  cases r with
  | ok n w'=>
    cases n<;>simp only[gU]at h1<;>simp only[iS]
    case value u=>exact⟨p i,fun _=>rfl,by rw[bX];exact h1.1,by rw[bX];exact hR _ _ _ _ hr h1.2⟩
    case skip=>exact⟨p i,fun _=>rfl,by rw[bX];exact h1.1.symm,by rw[bX];exact hR _ _ _ _ hr h1.2⟩
    case enter f args=>exact h1.mono fun e w'' ⟨he,hs⟩=>⟨_,he,p i,fun _=>rfl,by rw[bX],by rw[bX];exact hR _ _ _ _ hr hs⟩
  |halt x w'=>exact h1.elim
theorem GQ (i:Nat) {r:List Nat} (ho:l[i]?=some o) (hg:o.guard=none) (hR:∀p L w1,R p L w1->R p (cD L i) w1)
 (h:∀p L w1,R p L w1->gd M R i L->m8 ((vs.getD i vI) p) w1 ((execOp (A p).eval o).run P w1)) (k:aw (fk P l M vs R A fr) r):aw (fk P l M vs R A fr) (i::r):=
 ⟨eK i ho (fun p=>by simp[Region.wanted,hg]) h hR,k⟩
theorem aH {i:Nat} {r:List Nat} (k:aw (fk P l M vs R A fr) r) (ho:l[i]?=some o:=by exact rfl) (hg:o.guard=none:=by exact rfl) (hR:∀p L w1,R p L w1->R p (cD L i) w1:=by exact fun _ _ _ h=>h)
 (h:∀p L w1,R p L w1->gd M R i L->m8 ((vs.getD i vI) p) w1 ((execOp (A p).eval o).run P w1):=by intros;go_simp;exact⟨rfl,rfl⟩):aw (fk P l M vs R A fr) (i::r):=GQ i ho hg hR h k
theorem cm {i:Nat} {r:List Nat} (h:∀p L w1,R p L w1->gd M R i L->m8 ((vs.getD i vI) p) w1 ((execOp (A p).eval o).run P w1)) (k:aw (fk P l M vs R A fr) r) (ho:l[i]?=some o:=by exact rfl) (hg:o.guard=none:=by exact rfl)
 (hR:∀p L w1,R p L w1->R p (cD L i) w1:=by exact fun _ _ _ h=>h):aw (fk P l M vs R A fr) (i::r):=GQ i ho hg hR h k
theorem bQ (i:Nat) {r:List Nat} (ho:l[i]?=some o) (hw:∀p,Region.wanted o (yielded l.toArray (A p).tmps)=true) (hR:∀p L w1,R p L w1->R p (cD L i) w1)
 (h:∀p L w1,R p L w1->gd M R i L->m8 ((vs.getD i vI) p) w1 ((execOp (A p).eval o).run P w1)) (k:aw (fk P l M vs R A fr) r):aw (fk P l M vs R A fr) (i::r):=
 ⟨eK i ho hw h hR,k⟩
theorem bS (i:Nat) {r:List Nat} (ho:l[i]?=some o) (hw:∀p,Region.wanted o (yielded l.toArray (A p).tmps)=true) (hR:∀p L w1,R p L w1->R p (cD L i) w1) (hm:∀p L w1 w2,R p L w1->bl w1 w2->R p L w2)
 (h:∀p L w1,R p L w1->gd M R i L->gU P (bl w1) ((vs.getD i vI) p) ((execOp (A p).eval o).run P w1)) (k:aw (fk P l M vs R A fr) r):aw (fk P l M vs R A fr) (i::r):=
 ⟨A6 i ho hw h (fun p L w1 w2 h1 h2=>hR _ _ _ (hm _ _ _ _ h1 h2)),k⟩
theorem fQ (i:Nat) (ho:l[i]?=some o) (hw:∀p,Region.wanted o (yielded l.toArray (A p).tmps)=false) (hv:∀p,(vs.getD i vI) p=undef) (hR:∀p L w1,R p L w1->R p (cD L i) w1):fk P l M vs R A fr i:=
 ⟨o,ho,fun p L w1 hr _ _ _=>.inr ⟨hw p,hv p,hR _ _ _ hr⟩⟩
theorem aP (i:Nat) (ho:l[i]?=some o) (hw:∀p,Region.wanted o (yielded l.toArray (A p).tmps)=true) (hfr:fr.contains i=true) (c:Array Value) (t:TypeId)
 (hv:∀p,(vs.getD i vI) p=.pointer (some ⟨p i,0,none⟩))
 (h:∀p w1,(execOp (A p).eval o).run P w1=.ok (.value (.pointer (some ⟨w1.heap.size,0,none⟩))) (w1.alloc (.cells c t)))
 (hR:∀p L w1,R p L w1->gd M R i L->R (rh p i w1.heap.size) (cD L i) (w1.alloc (.cells c t))):fk P l M vs R A fr i:=
 fR i ho hw fun p L w1 hr hk=>by
  rw[h p w1]
  exact⟨w1.heap.size,fun h=>(by rw[hfr]at h;cases h),by rw[hv,uf],hR _ _ _ hr hk⟩
theorem fT (i:Nat) (ho:l[i]?=some o) (hw:∀p,Region.wanted o (yielded l.toArray (A p).tmps)=true) (hfr:fr.contains i=true) (mk:Nat->Value) (c:(Nat->Nat)->Array Value) (t:TypeId)
 (hv:∀p,(vs.getD i vI) p=mk (p i))
 (h:∀p w1,(execOp (A p).eval o).run P w1=.ok (.value (mk w1.heap.size)) (w1.alloc (.cells (c p) t)))
 (hR:∀p L w1,R p L w1->gd M R i L->R (rh p i w1.heap.size) (cD L i) (w1.alloc (.cells (c p) t))):fk P l M vs R A fr i:=
 fR i ho hw fun p L w1 hr hk=>by
  rw[h p w1]
  exact⟨w1.heap.size,fun h=>(by rw[hfr]at h;cases h),by rw[hv,uf],hR _ _ _ hr hk⟩
theorem gw (i:Nat) (ho:l[i]?=some o) (hw:∀p,Region.wanted o (yielded l.toArray (A p).tmps)=true) (g:(Nat->Nat)->Nat) (c':(Nat->Nat)->Array Value)
 (h:∀p L w1,R p L w1->gd M R i L->gU P (fun w2=>Below w1.heap.size (w1.setRow (g p) (c' p)) w2) ((vs.getD i vI) p) ((execOp (A p).eval o).run P w1))
 (hR:∀p L w1 w2,R p L w1->gd M R i L->Below w1.heap.size (w1.setRow (g p) (c' p)) w2->R p (cD L i) w2):fk P l M vs R A fr i:=
 fR i ho hw fun p L w1 hr hk=>by
  have h1:=h p L w1 hr hk
  generalize(execOp (A p).eval o).run P w1=r at *
  cases r with
  | ok n w'=>
    cases n<;>simp only[gU]at h1<;>simp only[iS]
    case value u=>exact⟨p i,fun _=>rfl,by rw[bX];exact h1.1,by rw[bX];exact hR _ _ _ _ hr hk h1.2⟩
    case skip=>exact⟨p i,fun _=>rfl,by rw[bX];exact h1.1.symm,by rw[bX];exact hR _ _ _ _ hr hk h1.2⟩
    case enter f args=>exact h1.mono fun e w'' ⟨he,hs⟩=>⟨_,he,p i,fun _=>rfl,by rw[bX],by rw[bX];exact hR _ _ _ _ hr hk hs⟩
  |halt x w'=>exact h1.elim
theorem fJ (i:Nat) (ho:l[i]?=some o) (hw:∀p,Region.wanted o (yielded l.toArray (A p).tmps)=true) (hv:∀p,(vs.getD i vI) p=undef)
 (g:(Nat->Nat)->Nat) (off:Nat) (v:(Nat->Nat)->Value) (c c':(Nat->Nat)->Array Value) (t:TypeId) (hc:∀p,(c p).setIfInBounds off (v p)=c' p)
 (hg:∀p L w1,R p L w1->gd M R i L->af w1 (g p) (c p) t)
 (h:∀p w1,af w1 (g p) (c p) t->∃n,(execOp (A p).eval o).run P w1=.ok n (w1.setCell ⟨g p,off,none⟩ (v p))/\(n=.value undef\/n=.skip))
 (hR:∀p L w1,R p L w1->gd M R i L->R p (cD L i) (w1.setRow (g p) (c' p))):fk P l M vs R A fr i:=
 fR i ho hw fun p L w1 hr hk=>by
  have hb:=hg p L w1 hr hk
  obtain⟨n,hn,hs⟩:=h p w1 hb
  rw[hn]
  have:=hR p L w1 hr hk
  rw[<-hc p,<-setCell_eq_setRow w1 (g p) off (c p) t _ (v p) hb]at this
  rcases hs with rfl|rfl<;>exact⟨p i,fun _=>rfl,by rw[bX,hv],by rw[bX];exact this⟩
theorem aA (i:Nat) (ho:l[i]?=some o) (hw:∀p,Region.wanted o (yielded l.toArray (A p).tmps)=true) (hv:∀p,(vs.getD i vI) p=undef)
 (ty:TypeId) (x y:Operand) (hop:o.op=.store ty x y) (g:(Nat->Nat)->Nat) (off:Nat) (hx:∀p,(A p).eval x=.pointer (some ⟨g p,off,none⟩)) (cs:(Nat->Nat)->Array Value) (hy:∀p,(A p).eval y=.agg (cs p))
 (c c':(Nat->Nat)->Array Value) (t:TypeId) (hc:∀p,gc (c p) off (cs p).toList=c' p) (hn:∀p,off+(cs p).size<=(c p).size) (hi:∀p,(P.info? ty).map (·.size)=some (cs p).size) (h1:∀p,(cs p).all (·.oneCell')=true)
 (hg:∀p L w1,R p L w1->gd M R i L->af w1 (g p) (c p) t) (hR:∀p L w1,R p L w1->gd M R i L->R p (cD L i) (w1.setRow (g p) (c' p))):fk P l M vs R A fr i:=
 fR i ho hw fun p L w1 hr hk=>by
  unfold execOp
  simp only[hop,hx,hy,run_storeAt_mid w1 (g p) off ty (cs p) ((hg p L w1 hr hk).there (hn p)) (hi p) (h1 p),Sem.run_bind,Sem.run_pure,Result.andThen_ok]
  refine⟨p i,fun _=>rfl,by rw[bX,hv],?_⟩
  rw[bX,l6 _ _ _ _ (hg p L w1 hr hk),hc]
  exact hR _ _ _ hr hk
end
theorem uj:∀(l:List Value) (c:Array Value) (o i:Nat),o+l.length<=c.size->(gc c o l)[i]?=if o<=i/\i<o+l.length then l[i-o]? else c[i]?
 | [],c,o,i,h=>by
   rw[gc]
   have:¬(o<=i/\i<o+([]:List Value).length):=by simp<;>omega
   rw[if_neg this]
 | v ::l,c,o,i,h=>by
   simp only[List.length_cons]at h
   rw[gc,uj l _ (o+1) i (by simp;omega)]
   simp only[List.length_cons]
   by_cases h1:o+1<=i/\i<o+1+l.length
   ·rw[if_pos h1,if_pos oa,show i-o=(i-(o+1))+1 by omega,List.getElem?_cons_succ]
   ·rw[if_neg h1]
    by_cases h2:i=o
    ·subst h2
     rw[if_pos oa,Nat.sub_self,List.getElem?_cons_zero,Array.getElem?_setIfInBounds,if_pos rfl,if_pos oa]
    ·rw[if_neg oa,Array.getElem?_setIfInBounds,if_neg oa]
theorem rl {c d:Array Value} (h:d.size=c.size):gc c 0 d.toList=d:=by
 apply Array.ext_getElem?
 intro i
 rw[uj d.toList c 0 i (by simp[h])]
 by_cases hi:i<d.size
 ·rw[if_pos (by simp;omega),Nat.sub_zero,Array.getElem?_toList]
 ·rw[if_neg (by simp;omega),Array.getElem?_eq_none oa,Array.getElem?_eq_none oa]
theorem lM {B:Nat} {a w:World} (h:Below B a w) (g:Nat) (c:Array Value):Below B (a.setRow g c) (w.setRow g c):=
 ⟨h.os,h.tape,h.output,by simpa using h.size,fun k hk=>by
   by_cases hkg:k=g
   ·subst hkg
    unfold World.setRow
    simp only[Array.getElem?_modify,if_true,h.block k hk]
   ·rw[setRow_other _ _ _ _ hkg,setRow_other _ _ _ _ hkg,h.block k hk]⟩
end Go.Proofs.YtbhahonkhiiilaaGreat
