/-
  Plain laws on products and quotients: Mul commutes, One is neutral, signs, and the way back from a quotient. No program in sight. Sums of products and their two's complement in 192 bits. No program in sight. Polynomials with integer coefficients as lists, and the sum of the squares of two of them with the errors of rounding. No program in sight.
-/
import Derived.Test.YtbhahonkhiiilaaGreatHyp
set_option linter.unusedSimpArgs false
set_option linter.unusedVariables false
set_option maxRecDepth 100000
set_option maxHeartbeats 4000000
namespace Go.Proofs.YtbhahonkhiiilaaGreat.PM
theorem r9 (q:Int):jA q=true↔(-9223372036854775808<=q/\q<=9223372036854775807):=by
 unfold jA;rw[Bool.and_eq_true,decide_eq_true_eq,decide_eq_true_eq]
theorem nB {q:Int} (h1:-9223372036854775808<=q) (h2:q<=9223372036854775807):dG q=q/\gu q=0:=by
 have h:jA q=true:=(r9 q).2 ⟨h1,h2⟩
 unfold dG gu;rw[h];exact⟨rfl,rfl⟩
def du:List Int->List Int->Int
 |x::xs,y::ys=>x*y+du xs ys
 |_,_=>0
theorem cJ (ys:List Int):du [] ys=0:=by cases ys<;>rfl
theorem aK (x y:Int) (xs ys:List Int):du (x::xs) (y::ys)=x*y+du xs ys:=rfl
theorem jR:∀(xs ys:List Int) (k:Nat),k<xs.length->k<ys.length->du (xs.take (k+1)) (ys.take (k+1))=du (xs.take k) (ys.take k)+xs.getD k 0*ys.getD k 0
 |[],_,k,h,_=>absurd h sd
 |_::_,[],k,_,h=>absurd h sd
 |x::xs,y::ys,0,_,_=>by simp[du]
 | x::xs,y::ys,k+1,h,h'=>by
   have:=jR xs ys k (by simpa using h) (by simpa using h')
   simp only[List.take_succ_cons,du,this,K6]
   omega
theorem v7 {T w0 w1 w2 n h s:Int} (t0:-1569275433846670190958947355801916604025588861116008628224<=T) (t1:T<1569275433846670190958947355801916604025588861116008628224)
 (h0:0<=w0/\w0<18446744073709551616) (h1:0<=w1/\w1<18446744073709551616) (h2:0<=w2/\w2<18446744073709551616)
 (hW:w0+w1*18446744073709551616+w2*340282366920938463463374607431768211456=T % 6277101735386680763835789423207666416102355444464034512896)
 (hn:n=(w0/1073741824+w1 % 1073741824*17179869184+9223372036854775808) % 18446744073709551616-9223372036854775808)
 (hh:h=(w1/1073741824+w2 % 1073741824*17179869184+9223372036854775808) % 18446744073709551616-9223372036854775808)
 (hs:s=((w2+9223372036854775808) % 18446744073709551616-9223372036854775808)/1073741824):
 (jA (T/1073741824)=true/\n=T/1073741824/\h=n/9223372036854775808/\s=n/9223372036854775808)\/
 (jA (T/1073741824)=false/\(h≠n/9223372036854775808\/s≠n/9223372036854775808)):=by
 obtain⟨q,hq⟩:∃q,q=T/1073741824:=⟨_,rfl⟩
 obtain⟨H,hH⟩:∃H,H=T/19807040628566084398385987584:=⟨_,rfl⟩
 have e1:s=T/365375409332725729550921208179070754913983135744:=oa
 have e2:H % 18446744073709551616=w1/1073741824+w2 % 1073741824*17179869184:=oa
 have e3:q % 18446744073709551616=w0/1073741824+w1 % 1073741824*17179869184:=oa
 have e4:H=q/18446744073709551616:=oa
 have e5:s=H/18446744073709551616:=oa
 rw[<-e3]at hn
 rw[<-e2]at hh
 rw[<-hq]
 clear hW e1 e2 e3 h0 h1 h2 t0 t1 hs hH hq
 cases hi:jA q with
 | true=>
   have:=(r9 _).1 hi
   left
   refine⟨rfl,?_,?_,?_⟩<;>omega
 | false=>
   right
   refine⟨rfl,?_⟩
   have hno:¬(-9223372036854775808<=q/\q<=9223372036854775807):=fun h=>by
    rw[(r9 _).2 h]at hi;cases hi
   omega
def ev:List Int->Int->Int
 |[],_=>0
 |a::l,y=>a+y*ev l y
theorem bR {a b P R:Int} (h1:-P<=a) (h2:a<=P) (h3:-R<=b) (h4:b<=R):-(P*R)<=a*b/\a*b<=P*R:=by
 have k:(a.natAbs*b.natAbs:Nat)<=P.natAbs*R.natAbs:=Nat.mul_le_mul oa oa
 have e1:((P.natAbs*R.natAbs:Nat):Int)=P*R:=by
  rw[Int.natCast_mul,Int.natAbs_of_nonneg (show 0<=P by omega),Int.natAbs_of_nonneg (show 0<=R by omega)]
 have e2:(a*b).natAbs=a.natAbs*b.natAbs:=Int.natAbs_mul a b
 omega
def D5:Int:=1427247692705959881058285969449495136382746624
def D6:Int:=1532495540865888858358347027150309183618739122183602176
end Go.Proofs.YtbhahonkhiiilaaGreat.PM
namespace Go.Proofs.YtbhahonkhiiilaaGreat
open Go.RowKit PM Dt
def JZ:Array Value->Sem Value:=(Extern.MathBitsCarry.rows.getD 1 ("",fun _=>default)).2
theorem BK {P:Program} (x y k:Nat) (hk:k<=1) (w:World):
 (JZ #[.int .u64 (x:Int),.int .u64 (y:Int),.int .u64 (k:Int)]).run P w=.ok (.tuple #[.int .u64 (((x+18446744073709551616-y-k) % 18446744073709551616:Nat):Int),.int .u64 (((if x<y+k then 1 else 0:Nat)):Int)]) w:=by
 have:k=0\/k=1:=oa
 rcases this with rfl|rfl<;>rfl
theorem mT (x y b r c:Nat) (hx:x<18446744073709551616) (hy:y<18446744073709551616) (hb:b<=1) (h:x+c*18446744073709551616=r+y+b) (hr:r<18446744073709551616) (w:World):
 (callFunc 104 #[.int .u64 x,.int .u64 y,.int .u64 b]).run Tryz.prog w=.ok (.value (.tuple #[.int .u64 (r:Int),.int .u64 (c:Int)])) w:=by
 rw[run_callFunc_extern Tryz.func104 ke ke ke (e:=JZ) ke,BK x y b hb]
 have h1:(x+18446744073709551616-y-b) % 18446744073709551616=r:=oa
 have h2:(if x<y+b then 1 else 0:Nat)=c:=by split<;>omega
 rw[h1,h2];rfl
theorem lz (x y b r c:Nat) (hx:x<18446744073709551616) (hy:y<18446744073709551616) (hb:b<=1) (h:x+y+b=c*18446744073709551616+r) (hr:r<18446744073709551616) (w:World):
 (callFunc 38 #[.int .u64 x,.int .u64 y,.int .u64 b]).run Tryz.prog w=.ok (.value (.tuple #[.int .u64 (r:Int),.int .u64 (c:Int)])) w:=by
 rw[run_callFunc_extern Tryz.func38 ke ke ke (e:=add64Entry) ke,run_add64 x y b oa oa oa oa]
 have h1:((x:Int)+(y:Int)+(b:Int)) % 18446744073709551616=(r:Int):=oa
 have h2:((x:Int)+(y:Int)+(b:Int))/18446744073709551616=(c:Int):=oa
 rw[h1,h2];rfl
def lU (T:Int):Array Value:=#[.int .u64 (T % 18446744073709551616),.int .u64 (T/18446744073709551616 % 18446744073709551616),.int .u64 (T/340282366920938463463374607431768211456 % 18446744073709551616)]
def gT (g:Nat) (w w':World):Prop:=Below 0 w w'/\w.heap.size<=w'.heap.size/\∀k,k<w.heap.size->k≠g->w'.heap[k]?=w.heap[k]?
theorem gT.of_more {g:Nat} {w w':World} (h:bl w w'):gT g w w':=⟨Below.mono h (Nat.zero_le _),h.size,fun k hk _=>h.block k hk⟩
theorem gT.trans {g:Nat} {a b c:World} (h:gT g a b) (k:gT g b c):gT g a c:=
 ⟨h.1.trans k.1,nk h.2.1 k.2.1,fun i hi hne=>(k.2.2 i (nq hi h.2.1) hne).trans (h.2.2 i hi hne)⟩
theorem gT.set {g i:Nat} {w:World} (v:Value):gT g w (w.setCell ⟨g,i,none⟩ v):=
 ⟨(Below.refl 0 w).setCell (Nat.zero_le _) v,by simp,fun k hk hne=>heap_setCell_other _ _ _ _ (by simpa using hne)⟩
theorem Ai {T hi lo a0 a1 a2 r0 c0 r1 c1 r2 c2:Int} (h0:a0=T % 18446744073709551616) (h1:a1=T/18446744073709551616 % 18446744073709551616) (h2:a2=T/340282366920938463463374607431768211456 % 18446744073709551616)
 (e0:a0+lo=c0*18446744073709551616+r0) (e1:a1+hi+c0=c1*18446744073709551616+r1) (e2:a2+c1=c2*18446744073709551616+r2)
 (b0:0<=r0/\r0<18446744073709551616) (b1:0<=r1/\r1<18446744073709551616) (b2:0<=r2/\r2<18446744073709551616):
 r0=(T+(hi*18446744073709551616+lo)) % 18446744073709551616/\r1=(T+(hi*18446744073709551616+lo))/18446744073709551616 % 18446744073709551616/\r2=(T+(hi*18446744073709551616+lo))/340282366920938463463374607431768211456 % 18446744073709551616:=by
 refine⟨?_,?_,?_⟩<;>omega
theorem v_ {T hi lo a0 a1 a2 r0 c0 r1 c1 r2 c2:Int} (h0:a0=T % 18446744073709551616) (h1:a1=T/18446744073709551616 % 18446744073709551616) (h2:a2=T/340282366920938463463374607431768211456 % 18446744073709551616)
 (e0:a0+c0*18446744073709551616=r0+lo) (e1:a1+c1*18446744073709551616=r1+hi+c0) (e2:a2+c2*18446744073709551616=r2+c1)
 (b0:0<=r0/\r0<18446744073709551616) (b1:0<=r1/\r1<18446744073709551616) (b2:0<=r2/\r2<18446744073709551616):
 r0=(T-(hi*18446744073709551616+lo)) % 18446744073709551616/\r1=(T-(hi*18446744073709551616+lo))/18446744073709551616 % 18446744073709551616/\r2=(T-(hi*18446744073709551616+lo))/340282366920938463463374607431768211456 % 18446744073709551616:=by
 refine⟨?_,?_,?_⟩<;>omega
theorem sX (g hi lo a0 a1 a2 r0 c0 r1 c1 r2 c2:Nat) (w:World)
 (R0:Hid (∀w1,(callFunc 38 #[.int .u64 a0,.int .u64 lo,.int .u64 0]).run Tryz.prog w1=.ok (.value (.tuple #[.int .u64 (r0:Int),.int .u64 (c0:Int)])) w1))
 (R1:Hid (∀w1,(callFunc 38 #[.int .u64 a1,.int .u64 hi,.int .u64 c0]).run Tryz.prog w1=.ok (.value (.tuple #[.int .u64 (r1:Int),.int .u64 (c1:Int)])) w1))
 (R2:Hid (∀w1,(callFunc 38 #[.int .u64 a2,.int .u64 0,.int .u64 c1]).run Tryz.prog w1=.ok (.value (.tuple #[.int .u64 (r2:Int),.int .u64 (c2:Int)])) w1))
 (hb0:af w g #[.int .u64 (a0:Nat),.int .u64 (a1:Nat),.int .u64 (a2:Nat)] 134):
 Calls Tryz.prog 83 #[.pointer (some ⟨g,0,none⟩),.bool false,.int .u64 hi,.int .u64 lo] w fun e w'=>e=.returned (.tuple #[])/\gT g w w'/\af w' g #[.int .u64 (r0:Nat),.int .u64 (r1:Nat),.int .u64 (r2:Nat)] 134:=by
 go_enter Tryz.func83,Tryz.ntmps83
 go_upto_region 4 with(fail)
 have hO:gT g w w:=gT.of_more (Below.refl _ _)
 obtain⟨wo,hwo⟩:∃wo,wo=w:=⟨_,rfl⟩
 rw[<-hwo]at hb0
 have hO:gT g w wo:=by rw[hwo];exact hO
 first|rw[<-hwo]|skip
 clear hwo
 refine bV 13 15 rfl ke ?_
 replace hb0:=hb0.drew
 replace hO:gT g w _:=hO.trans (gT.of_more (Below.drew (Below.refl _ wo)))
 generalize wo.drew=wd at *
 clear wo
 refine ai 0 (.pointer (some ⟨g,0,none⟩)) rfl rfl ke (fun w1=>by go_simp;exact⟨rfl,Below.refl _ _⟩) ?_
 simp only[Act.put,aL,aM,aN]
 refine ai 1 (.func (.func 38) #[] #[]) rfl rfl ke (fun w1=>by go_simp;exact⟨rfl,Below.refl _ _⟩) ?_
 simp only[Act.put,aL,aM,aN]
 refine ai 2 (.pointer (some ⟨g,0,none⟩)) rfl rfl ke (fun w1=>by go_simp;exact⟨rfl,Below.refl _ _⟩) ?_
 simp only[Act.put,aL,aM,aN]
 refine ai 3 (.pointer (some ⟨g,0,none⟩)) rfl rfl ke (fun w1=>by go_simp;exact⟨rfl,Below.refl _ _⟩) ?_
 simp only[Act.put,aL,aM,aN]
 refine ai 4 (.pointer (some ⟨g,0,none⟩)) rfl rfl ke (fun w1=>by go_simp;exact⟨rfl,Below.refl _ _⟩) ?_
 simp only[Act.put,aL,aM,aN]
 refine aV 5 (.int .u64 (a0:Nat)) rfl rfl ke ke (fun w1 h1=>by have hc:w1.cell? ⟨g,0,none⟩=some (.int .u64 (a0:Nat)):=(hb0.below h1 hb0.lt).cellIs rfl;go_simp;exact⟨rfl,Below.refl _ _⟩) ?_
 simp only[Act.put,aL,aM,aN]
 refine ai 6 (.int .u64 (lo:Nat)) rfl rfl ke (fun w1=>by go_simp;exact⟨rfl,Below.refl _ _⟩) ?_
 simp only[Act.put,aL,aM,aN]
 refine aV 7 (.tuple #[.int .u64 (r0:Nat),.int .u64 (c0:Nat)]) rfl rfl ke ke (fun w1 h1=>by go_simp;rw[R0.out];exact⟨rfl,Below.refl _ _⟩) ?_
 simp only[Act.put,aL,aM,aN]
 refine ai 8 (.tuple #[.int .u64 (r0:Nat),.int .u64 (c0:Nat)]) rfl rfl ke (fun w1=>by go_simp;exact⟨rfl,Below.refl _ _⟩) ?_
 simp only[Act.put,aL,aM,aN]
 refine ai 9 (.int .u64 (r0:Nat)) rfl rfl ke (fun w1=>by go_simp;exact⟨rfl,Below.refl _ _⟩) ?_
 simp only[Act.put,aL,aM,aN]
 refine ai 10 (.int .u64 (c0:Nat)) rfl rfl ke (fun w1=>by go_simp;exact⟨rfl,Below.refl _ _⟩) ?_
 simp only[Act.put,aL,aM,aN]
 refine ai 11 (.pointer (some ⟨g,0,none⟩)) rfl rfl ke (fun w1=>by go_simp;exact⟨rfl,Below.refl _ _⟩) ?_
 simp only[Act.put,aL,aM,aN]
 refine ai 12 (.pointer (some ⟨g,0,none⟩)) rfl rfl ke (fun w1=>by go_simp;exact⟨rfl,Below.refl _ _⟩) ?_
 simp only[Act.put,aL,aM,aN]
 refine gC rfl rfl ke (fun w1 h1=>?_)
 replace hO:=hO.trans (gT.of_more h1)
 replace hb0:=hb0.below h1 hb0.lt
 clear h1
 have fz:w1.frozen? ⟨g,0,none⟩=false:=hb0.free _
 have cz:w1.cell? ⟨g,0,none⟩=some (.int .u64 (a0:Nat)):=hb0.cellIs rfl
 go_simp
 clear fz cz
 replace hO:=hO.trans (gT.set (i:=0) (.int .u64 (r0:Nat)))
 replace hb0:=hb0.set' (i:=0) (v:=.int .u64 (r0:Nat)) (c':=#[.int .u64 (r0:Nat),.int .u64 (a1:Nat),.int .u64 (a2:Nat)]) rfl
 generalize w1.setCell ⟨g,0,none⟩ (.int .u64 (r0:Nat))=w2 at *
 clear wd
 refine ai 14 (.int .u64 (c0:Nat)) rfl rfl ke (fun w1=>by go_simp;exact⟨rfl,Below.refl _ _⟩) ?_
 simp only[Act.put,aL,aM,aN]
 refine dq ke (fun w1 h1=>?_)
 replace hO:=hO.trans (gT.of_more h1)
 replace hb0:=hb0.below h1 hb0.lt
 clear h1
 go_upto_region 5 with(fail)
 clear w2
 obtain⟨wo,hwo⟩:∃wo,wo=w1:=⟨_,rfl⟩
 rw[<-hwo]at hb0 hO|-
 clear hwo
 refine bV 14 16 rfl ke ?_
 replace hb0:=hb0.drew
 replace hO:gT g w _:=hO.trans (gT.of_more (Below.drew (Below.refl _ wo)))
 generalize wo.drew=wd at *
 clear wo
 refine ai 0 (.pointer (some ⟨g,0,none⟩)) rfl rfl ke (fun w1=>by go_simp;exact⟨rfl,Below.refl _ _⟩) ?_
 simp only[Act.put,aL,aM,aN]
 refine ai 1 (.func (.func 38) #[] #[]) rfl rfl ke (fun w1=>by go_simp;exact⟨rfl,Below.refl _ _⟩) ?_
 simp only[Act.put,aL,aM,aN]
 refine ai 2 (.pointer (some ⟨g,0,none⟩)) rfl rfl ke (fun w1=>by go_simp;exact⟨rfl,Below.refl _ _⟩) ?_
 simp only[Act.put,aL,aM,aN]
 refine ai 3 (.pointer (some ⟨g,0,none⟩)) rfl rfl ke (fun w1=>by go_simp;exact⟨rfl,Below.refl _ _⟩) ?_
 simp only[Act.put,aL,aM,aN]
 refine ai 4 (.pointer (some ⟨g,1,none⟩)) rfl rfl ke (fun w1=>by go_simp;exact⟨rfl,Below.refl _ _⟩) ?_
 simp only[Act.put,aL,aM,aN]
 refine aV 5 (.int .u64 (a1:Nat)) rfl rfl ke ke (fun w1 h1=>by have hc:w1.cell? ⟨g,1,none⟩=some (.int .u64 (a1:Nat)):=(hb0.below h1 hb0.lt).cellIs rfl;go_simp;exact⟨rfl,Below.refl _ _⟩) ?_
 simp only[Act.put,aL,aM,aN]
 refine ai 6 (.int .u64 (hi:Nat)) rfl rfl ke (fun w1=>by go_simp;exact⟨rfl,Below.refl _ _⟩) ?_
 simp only[Act.put,aL,aM,aN]
 refine ai 7 (.int .u64 (c0:Nat)) rfl rfl ke (fun w1=>by go_simp;exact⟨rfl,Below.refl _ _⟩) ?_
 simp only[Act.put,aL,aM,aN]
 refine aV 8 (.tuple #[.int .u64 (r1:Nat),.int .u64 (c1:Nat)]) rfl rfl ke ke (fun w1 h1=>by go_simp;rw[R1.out];exact⟨rfl,Below.refl _ _⟩) ?_
 simp only[Act.put,aL,aM,aN]
 refine ai 9 (.tuple #[.int .u64 (r1:Nat),.int .u64 (c1:Nat)]) rfl rfl ke (fun w1=>by go_simp;exact⟨rfl,Below.refl _ _⟩) ?_
 simp only[Act.put,aL,aM,aN]
 refine ai 10 (.int .u64 (r1:Nat)) rfl rfl ke (fun w1=>by go_simp;exact⟨rfl,Below.refl _ _⟩) ?_
 simp only[Act.put,aL,aM,aN]
 refine ai 11 (.int .u64 (c1:Nat)) rfl rfl ke (fun w1=>by go_simp;exact⟨rfl,Below.refl _ _⟩) ?_
 simp only[Act.put,aL,aM,aN]
 refine ai 12 (.pointer (some ⟨g,0,none⟩)) rfl rfl ke (fun w1=>by go_simp;exact⟨rfl,Below.refl _ _⟩) ?_
 simp only[Act.put,aL,aM,aN]
 refine ai 13 (.pointer (some ⟨g,1,none⟩)) rfl rfl ke (fun w1=>by go_simp;exact⟨rfl,Below.refl _ _⟩) ?_
 simp only[Act.put,aL,aM,aN]
 refine gC rfl rfl ke (fun w1 h1=>?_)
 replace hO:=hO.trans (gT.of_more h1)
 replace hb0:=hb0.below h1 hb0.lt
 clear h1
 have fz:w1.frozen? ⟨g,1,none⟩=false:=hb0.free _
 have cz:w1.cell? ⟨g,1,none⟩=some (.int .u64 (a1:Nat)):=hb0.cellIs rfl
 go_simp
 clear fz cz
 replace hO:=hO.trans (gT.set (i:=1) (.int .u64 (r1:Nat)))
 replace hb0:=hb0.set' (i:=1) (v:=.int .u64 (r1:Nat)) (c':=#[.int .u64 (r0:Nat),.int .u64 (r1:Nat),.int .u64 (a2:Nat)]) rfl
 generalize w1.setCell ⟨g,1,none⟩ (.int .u64 (r1:Nat))=w2 at *
 clear wd
 refine ai 15 (.int .u64 (c1:Nat)) rfl rfl ke (fun w1=>by go_simp;exact⟨rfl,Below.refl _ _⟩) ?_
 simp only[Act.put,aL,aM,aN]
 refine dq ke (fun w1 h1=>?_)
 replace hO:=hO.trans (gT.of_more h1)
 replace hb0:=hb0.below h1 hb0.lt
 clear h1
 go_upto_region 6 with(fail)
 clear w2
 obtain⟨wo,hwo⟩:∃wo,wo=w1:=⟨_,rfl⟩
 rw[<-hwo]at hb0 hO|-
 clear hwo
 refine bV 13 14 rfl ke ?_
 replace hb0:=hb0.drew
 replace hO:gT g w _:=hO.trans (gT.of_more (Below.drew (Below.refl _ wo)))
 generalize wo.drew=wd at *
 clear wo
 refine ai 0 (.pointer (some ⟨g,0,none⟩)) rfl rfl ke (fun w1=>by go_simp;exact⟨rfl,Below.refl _ _⟩) ?_
 simp only[Act.put,aL,aM,aN]
 refine ai 1 (.func (.func 38) #[] #[]) rfl rfl ke (fun w1=>by go_simp;exact⟨rfl,Below.refl _ _⟩) ?_
 simp only[Act.put,aL,aM,aN]
 refine ai 2 (.pointer (some ⟨g,0,none⟩)) rfl rfl ke (fun w1=>by go_simp;exact⟨rfl,Below.refl _ _⟩) ?_
 simp only[Act.put,aL,aM,aN]
 refine ai 3 (.pointer (some ⟨g,0,none⟩)) rfl rfl ke (fun w1=>by go_simp;exact⟨rfl,Below.refl _ _⟩) ?_
 simp only[Act.put,aL,aM,aN]
 refine ai 4 (.pointer (some ⟨g,2,none⟩)) rfl rfl ke (fun w1=>by go_simp;exact⟨rfl,Below.refl _ _⟩) ?_
 simp only[Act.put,aL,aM,aN]
 refine aV 5 (.int .u64 (a2:Nat)) rfl rfl ke ke (fun w1 h1=>by have hc:w1.cell? ⟨g,2,none⟩=some (.int .u64 (a2:Nat)):=(hb0.below h1 hb0.lt).cellIs rfl;go_simp;exact⟨rfl,Below.refl _ _⟩) ?_
 simp only[Act.put,aL,aM,aN]
 refine ai 6 (.int .u64 (c1:Nat)) rfl rfl ke (fun w1=>by go_simp;exact⟨rfl,Below.refl _ _⟩) ?_
 simp only[Act.put,aL,aM,aN]
 refine aV 7 (.tuple #[.int .u64 (r2:Nat),.int .u64 (c2:Nat)]) rfl rfl ke ke (fun w1 h1=>by go_simp;rw[R2.out];exact⟨rfl,Below.refl _ _⟩) ?_
 simp only[Act.put,aL,aM,aN]
 refine ai 8 (.tuple #[.int .u64 (r2:Nat),.int .u64 (c2:Nat)]) rfl rfl ke (fun w1=>by go_simp;exact⟨rfl,Below.refl _ _⟩) ?_
 simp only[Act.put,aL,aM,aN]
 refine ai 9 (.int .u64 (r2:Nat)) rfl rfl ke (fun w1=>by go_simp;exact⟨rfl,Below.refl _ _⟩) ?_
 simp only[Act.put,aL,aM,aN]
 refine ai 10 (.int .u64 (c2:Nat)) rfl rfl ke (fun w1=>by go_simp;exact⟨rfl,Below.refl _ _⟩) ?_
 simp only[Act.put,aL,aM,aN]
 refine ai 11 (.pointer (some ⟨g,0,none⟩)) rfl rfl ke (fun w1=>by go_simp;exact⟨rfl,Below.refl _ _⟩) ?_
 simp only[Act.put,aL,aM,aN]
 refine ai 12 (.pointer (some ⟨g,2,none⟩)) rfl rfl ke (fun w1=>by go_simp;exact⟨rfl,Below.refl _ _⟩) ?_
 simp only[Act.put,aL,aM,aN]
 refine gC rfl rfl ke (fun w1 h1=>?_)
 replace hO:=hO.trans (gT.of_more h1)
 replace hb0:=hb0.below h1 hb0.lt
 clear h1
 have fz:w1.frozen? ⟨g,2,none⟩=false:=hb0.free _
 have cz:w1.cell? ⟨g,2,none⟩=some (.int .u64 (a2:Nat)):=hb0.cellIs rfl
 go_simp
 clear fz cz
 replace hO:=hO.trans (gT.set (i:=2) (.int .u64 (r2:Nat)))
 replace hb0:=hb0.set' (i:=2) (v:=.int .u64 (r2:Nat)) (c':=#[.int .u64 (r0:Nat),.int .u64 (r1:Nat),.int .u64 (r2:Nat)]) rfl
 generalize w1.setCell ⟨g,2,none⟩ (.int .u64 (r2:Nat))=w2 at *
 clear wd
 refine dq ke (fun w1 h1=>?_)
 replace hO:=hO.trans (gT.of_more h1)
 replace hb0:=hb0.below h1 hb0.lt
 clear h1
 go_wp2_with (fail)
 go_end0
 exact⟨rfl,hO,hb0⟩
theorem sA (g hi lo a0 a1 a2 r0 c0 r1 c1 r2 c2:Nat) (w:World)
 (R0:Hid (∀w1,(callFunc 104 #[.int .u64 a0,.int .u64 lo,.int .u64 0]).run Tryz.prog w1=.ok (.value (.tuple #[.int .u64 (r0:Int),.int .u64 (c0:Int)])) w1))
 (R1:Hid (∀w1,(callFunc 104 #[.int .u64 a1,.int .u64 hi,.int .u64 c0]).run Tryz.prog w1=.ok (.value (.tuple #[.int .u64 (r1:Int),.int .u64 (c1:Int)])) w1))
 (R2:Hid (∀w1,(callFunc 104 #[.int .u64 a2,.int .u64 0,.int .u64 c1]).run Tryz.prog w1=.ok (.value (.tuple #[.int .u64 (r2:Int),.int .u64 (c2:Int)])) w1))
 (hb0:af w g #[.int .u64 (a0:Nat),.int .u64 (a1:Nat),.int .u64 (a2:Nat)] 134):
 Calls Tryz.prog 83 #[.pointer (some ⟨g,0,none⟩),.bool true,.int .u64 hi,.int .u64 lo] w fun e w'=>e=.returned (.tuple #[])/\gT g w w'/\af w' g #[.int .u64 (r0:Nat),.int .u64 (r1:Nat),.int .u64 (r2:Nat)] 134:=by
 go_enter Tryz.func83,Tryz.ntmps83
 go_upto_region 4 with(fail)
 have hO:gT g w w:=gT.of_more (Below.refl _ _)
 obtain⟨wo,hwo⟩:∃wo,wo=w:=⟨_,rfl⟩
 rw[<-hwo]at hb0
 have hO:gT g w wo:=by rw[hwo];exact hO
 first|rw[<-hwo]|skip
 clear hwo
 refine bV 13 15 rfl ke ?_
 replace hb0:=hb0.drew
 replace hO:gT g w _:=hO.trans (gT.of_more (Below.drew (Below.refl _ wo)))
 generalize wo.drew=wd at *
 clear wo
 refine ai 0 (.pointer (some ⟨g,0,none⟩)) rfl rfl ke (fun w1=>by go_simp;exact⟨rfl,Below.refl _ _⟩) ?_
 simp only[Act.put,aL,aM,aN]
 refine ai 1 (.func (.func 104) #[] #[]) rfl rfl ke (fun w1=>by go_simp;exact⟨rfl,Below.refl _ _⟩) ?_
 simp only[Act.put,aL,aM,aN]
 refine ai 2 (.pointer (some ⟨g,0,none⟩)) rfl rfl ke (fun w1=>by go_simp;exact⟨rfl,Below.refl _ _⟩) ?_
 simp only[Act.put,aL,aM,aN]
 refine ai 3 (.pointer (some ⟨g,0,none⟩)) rfl rfl ke (fun w1=>by go_simp;exact⟨rfl,Below.refl _ _⟩) ?_
 simp only[Act.put,aL,aM,aN]
 refine ai 4 (.pointer (some ⟨g,0,none⟩)) rfl rfl ke (fun w1=>by go_simp;exact⟨rfl,Below.refl _ _⟩) ?_
 simp only[Act.put,aL,aM,aN]
 refine aV 5 (.int .u64 (a0:Nat)) rfl rfl ke ke (fun w1 h1=>by have hc:w1.cell? ⟨g,0,none⟩=some (.int .u64 (a0:Nat)):=(hb0.below h1 hb0.lt).cellIs rfl;go_simp;exact⟨rfl,Below.refl _ _⟩) ?_
 simp only[Act.put,aL,aM,aN]
 refine ai 6 (.int .u64 (lo:Nat)) rfl rfl ke (fun w1=>by go_simp;exact⟨rfl,Below.refl _ _⟩) ?_
 simp only[Act.put,aL,aM,aN]
 refine aV 7 (.tuple #[.int .u64 (r0:Nat),.int .u64 (c0:Nat)]) rfl rfl ke ke (fun w1 h1=>by go_simp;rw[R0.out];exact⟨rfl,Below.refl _ _⟩) ?_
 simp only[Act.put,aL,aM,aN]
 refine ai 8 (.tuple #[.int .u64 (r0:Nat),.int .u64 (c0:Nat)]) rfl rfl ke (fun w1=>by go_simp;exact⟨rfl,Below.refl _ _⟩) ?_
 simp only[Act.put,aL,aM,aN]
 refine ai 9 (.int .u64 (r0:Nat)) rfl rfl ke (fun w1=>by go_simp;exact⟨rfl,Below.refl _ _⟩) ?_
 simp only[Act.put,aL,aM,aN]
 refine ai 10 (.int .u64 (c0:Nat)) rfl rfl ke (fun w1=>by go_simp;exact⟨rfl,Below.refl _ _⟩) ?_
 simp only[Act.put,aL,aM,aN]
 refine ai 11 (.pointer (some ⟨g,0,none⟩)) rfl rfl ke (fun w1=>by go_simp;exact⟨rfl,Below.refl _ _⟩) ?_
 simp only[Act.put,aL,aM,aN]
 refine ai 12 (.pointer (some ⟨g,0,none⟩)) rfl rfl ke (fun w1=>by go_simp;exact⟨rfl,Below.refl _ _⟩) ?_
 simp only[Act.put,aL,aM,aN]
 refine gC rfl rfl ke (fun w1 h1=>?_)
 replace hO:=hO.trans (gT.of_more h1)
 replace hb0:=hb0.below h1 hb0.lt
 clear h1
 have fz:w1.frozen? ⟨g,0,none⟩=false:=hb0.free _
 have cz:w1.cell? ⟨g,0,none⟩=some (.int .u64 (a0:Nat)):=hb0.cellIs rfl
 go_simp
 clear fz cz
 replace hO:=hO.trans (gT.set (i:=0) (.int .u64 (r0:Nat)))
 replace hb0:=hb0.set' (i:=0) (v:=.int .u64 (r0:Nat)) (c':=#[.int .u64 (r0:Nat),.int .u64 (a1:Nat),.int .u64 (a2:Nat)]) rfl
 generalize w1.setCell ⟨g,0,none⟩ (.int .u64 (r0:Nat))=w2 at *
 clear wd
 refine ai 14 (.int .u64 (c0:Nat)) rfl rfl ke (fun w1=>by go_simp;exact⟨rfl,Below.refl _ _⟩) ?_
 simp only[Act.put,aL,aM,aN]
 refine dq ke (fun w1 h1=>?_)
 replace hO:=hO.trans (gT.of_more h1)
 replace hb0:=hb0.below h1 hb0.lt
 clear h1
 go_upto_region 5 with(fail)
 clear w2
 obtain⟨wo,hwo⟩:∃wo,wo=w1:=⟨_,rfl⟩
 rw[<-hwo]at hb0 hO|-
 clear hwo
 refine bV 14 16 rfl ke ?_
 replace hb0:=hb0.drew
 replace hO:gT g w _:=hO.trans (gT.of_more (Below.drew (Below.refl _ wo)))
 generalize wo.drew=wd at *
 clear wo
 refine ai 0 (.pointer (some ⟨g,0,none⟩)) rfl rfl ke (fun w1=>by go_simp;exact⟨rfl,Below.refl _ _⟩) ?_
 simp only[Act.put,aL,aM,aN]
 refine ai 1 (.func (.func 104) #[] #[]) rfl rfl ke (fun w1=>by go_simp;exact⟨rfl,Below.refl _ _⟩) ?_
 simp only[Act.put,aL,aM,aN]
 refine ai 2 (.pointer (some ⟨g,0,none⟩)) rfl rfl ke (fun w1=>by go_simp;exact⟨rfl,Below.refl _ _⟩) ?_
 simp only[Act.put,aL,aM,aN]
 refine ai 3 (.pointer (some ⟨g,0,none⟩)) rfl rfl ke (fun w1=>by go_simp;exact⟨rfl,Below.refl _ _⟩) ?_
 simp only[Act.put,aL,aM,aN]
 refine ai 4 (.pointer (some ⟨g,1,none⟩)) rfl rfl ke (fun w1=>by go_simp;exact⟨rfl,Below.refl _ _⟩) ?_
 simp only[Act.put,aL,aM,aN]
 refine aV 5 (.int .u64 (a1:Nat)) rfl rfl ke ke (fun w1 h1=>by have hc:w1.cell? ⟨g,1,none⟩=some (.int .u64 (a1:Nat)):=(hb0.below h1 hb0.lt).cellIs rfl;go_simp;exact⟨rfl,Below.refl _ _⟩) ?_
 simp only[Act.put,aL,aM,aN]
 refine ai 6 (.int .u64 (hi:Nat)) rfl rfl ke (fun w1=>by go_simp;exact⟨rfl,Below.refl _ _⟩) ?_
 simp only[Act.put,aL,aM,aN]
 refine ai 7 (.int .u64 (c0:Nat)) rfl rfl ke (fun w1=>by go_simp;exact⟨rfl,Below.refl _ _⟩) ?_
 simp only[Act.put,aL,aM,aN]
 refine aV 8 (.tuple #[.int .u64 (r1:Nat),.int .u64 (c1:Nat)]) rfl rfl ke ke (fun w1 h1=>by go_simp;rw[R1.out];exact⟨rfl,Below.refl _ _⟩) ?_
 simp only[Act.put,aL,aM,aN]
 refine ai 9 (.tuple #[.int .u64 (r1:Nat),.int .u64 (c1:Nat)]) rfl rfl ke (fun w1=>by go_simp;exact⟨rfl,Below.refl _ _⟩) ?_
 simp only[Act.put,aL,aM,aN]
 refine ai 10 (.int .u64 (r1:Nat)) rfl rfl ke (fun w1=>by go_simp;exact⟨rfl,Below.refl _ _⟩) ?_
 simp only[Act.put,aL,aM,aN]
 refine ai 11 (.int .u64 (c1:Nat)) rfl rfl ke (fun w1=>by go_simp;exact⟨rfl,Below.refl _ _⟩) ?_
 simp only[Act.put,aL,aM,aN]
 refine ai 12 (.pointer (some ⟨g,0,none⟩)) rfl rfl ke (fun w1=>by go_simp;exact⟨rfl,Below.refl _ _⟩) ?_
 simp only[Act.put,aL,aM,aN]
 refine ai 13 (.pointer (some ⟨g,1,none⟩)) rfl rfl ke (fun w1=>by go_simp;exact⟨rfl,Below.refl _ _⟩) ?_
 simp only[Act.put,aL,aM,aN]
 refine gC rfl rfl ke (fun w1 h1=>?_)
 replace hO:=hO.trans (gT.of_more h1)
 replace hb0:=hb0.below h1 hb0.lt
 clear h1
 have fz:w1.frozen? ⟨g,1,none⟩=false:=hb0.free _
 have cz:w1.cell? ⟨g,1,none⟩=some (.int .u64 (a1:Nat)):=hb0.cellIs rfl
 go_simp
 clear fz cz
 replace hO:=hO.trans (gT.set (i:=1) (.int .u64 (r1:Nat)))
 replace hb0:=hb0.set' (i:=1) (v:=.int .u64 (r1:Nat)) (c':=#[.int .u64 (r0:Nat),.int .u64 (r1:Nat),.int .u64 (a2:Nat)]) rfl
 generalize w1.setCell ⟨g,1,none⟩ (.int .u64 (r1:Nat))=w2 at *
 clear wd
 refine ai 15 (.int .u64 (c1:Nat)) rfl rfl ke (fun w1=>by go_simp;exact⟨rfl,Below.refl _ _⟩) ?_
 simp only[Act.put,aL,aM,aN]
 refine dq ke (fun w1 h1=>?_)
 replace hO:=hO.trans (gT.of_more h1)
 replace hb0:=hb0.below h1 hb0.lt
 clear h1
 go_upto_region 6 with(fail)
 clear w2
 obtain⟨wo,hwo⟩:∃wo,wo=w1:=⟨_,rfl⟩
 rw[<-hwo]at hb0 hO|-
 clear hwo
 refine bV 13 14 rfl ke ?_
 replace hb0:=hb0.drew
 replace hO:gT g w _:=hO.trans (gT.of_more (Below.drew (Below.refl _ wo)))
 generalize wo.drew=wd at *
 clear wo
 refine ai 0 (.pointer (some ⟨g,0,none⟩)) rfl rfl ke (fun w1=>by go_simp;exact⟨rfl,Below.refl _ _⟩) ?_
 simp only[Act.put,aL,aM,aN]
 refine ai 1 (.func (.func 104) #[] #[]) rfl rfl ke (fun w1=>by go_simp;exact⟨rfl,Below.refl _ _⟩) ?_
 simp only[Act.put,aL,aM,aN]
 refine ai 2 (.pointer (some ⟨g,0,none⟩)) rfl rfl ke (fun w1=>by go_simp;exact⟨rfl,Below.refl _ _⟩) ?_
 simp only[Act.put,aL,aM,aN]
 refine ai 3 (.pointer (some ⟨g,0,none⟩)) rfl rfl ke (fun w1=>by go_simp;exact⟨rfl,Below.refl _ _⟩) ?_
 simp only[Act.put,aL,aM,aN]
 refine ai 4 (.pointer (some ⟨g,2,none⟩)) rfl rfl ke (fun w1=>by go_simp;exact⟨rfl,Below.refl _ _⟩) ?_
 simp only[Act.put,aL,aM,aN]
 refine aV 5 (.int .u64 (a2:Nat)) rfl rfl ke ke (fun w1 h1=>by have hc:w1.cell? ⟨g,2,none⟩=some (.int .u64 (a2:Nat)):=(hb0.below h1 hb0.lt).cellIs rfl;go_simp;exact⟨rfl,Below.refl _ _⟩) ?_
 simp only[Act.put,aL,aM,aN]
 refine ai 6 (.int .u64 (c1:Nat)) rfl rfl ke (fun w1=>by go_simp;exact⟨rfl,Below.refl _ _⟩) ?_
 simp only[Act.put,aL,aM,aN]
 refine aV 7 (.tuple #[.int .u64 (r2:Nat),.int .u64 (c2:Nat)]) rfl rfl ke ke (fun w1 h1=>by go_simp;rw[R2.out];exact⟨rfl,Below.refl _ _⟩) ?_
 simp only[Act.put,aL,aM,aN]
 refine ai 8 (.tuple #[.int .u64 (r2:Nat),.int .u64 (c2:Nat)]) rfl rfl ke (fun w1=>by go_simp;exact⟨rfl,Below.refl _ _⟩) ?_
 simp only[Act.put,aL,aM,aN]
 refine ai 9 (.int .u64 (r2:Nat)) rfl rfl ke (fun w1=>by go_simp;exact⟨rfl,Below.refl _ _⟩) ?_
 simp only[Act.put,aL,aM,aN]
 refine ai 10 (.int .u64 (c2:Nat)) rfl rfl ke (fun w1=>by go_simp;exact⟨rfl,Below.refl _ _⟩) ?_
 simp only[Act.put,aL,aM,aN]
 refine ai 11 (.pointer (some ⟨g,0,none⟩)) rfl rfl ke (fun w1=>by go_simp;exact⟨rfl,Below.refl _ _⟩) ?_
 simp only[Act.put,aL,aM,aN]
 refine ai 12 (.pointer (some ⟨g,2,none⟩)) rfl rfl ke (fun w1=>by go_simp;exact⟨rfl,Below.refl _ _⟩) ?_
 simp only[Act.put,aL,aM,aN]
 refine gC rfl rfl ke (fun w1 h1=>?_)
 replace hO:=hO.trans (gT.of_more h1)
 replace hb0:=hb0.below h1 hb0.lt
 clear h1
 have fz:w1.frozen? ⟨g,2,none⟩=false:=hb0.free _
 have cz:w1.cell? ⟨g,2,none⟩=some (.int .u64 (a2:Nat)):=hb0.cellIs rfl
 go_simp
 clear fz cz
 replace hO:=hO.trans (gT.set (i:=2) (.int .u64 (r2:Nat)))
 replace hb0:=hb0.set' (i:=2) (v:=.int .u64 (r2:Nat)) (c':=#[.int .u64 (r0:Nat),.int .u64 (r1:Nat),.int .u64 (r2:Nat)]) rfl
 generalize w1.setCell ⟨g,2,none⟩ (.int .u64 (r2:Nat))=w2 at *
 clear wd
 refine dq ke (fun w1 h1=>?_)
 replace hO:=hO.trans (gT.of_more h1)
 replace hb0:=hb0.below h1 hb0.lt
 clear h1
 go_wp2_with (fail)
 go_end0
 exact⟨rfl,hO,hb0⟩
theorem j_ {T:Int} {a0 a1 a2:Nat} (h0:(a0:Int)=T % 18446744073709551616) (h1:(a1:Int)=T/18446744073709551616 % 18446744073709551616) (h2:(a2:Int)=T/340282366920938463463374607431768211456 % 18446744073709551616):
 lU T=#[.int .u64 (a0:Nat),.int .u64 (a1:Nat),.int .u64 (a2:Nat)]:=by unfold lU;rw[<-h0,<-h1,<-h2]
theorem pX (a x c:Nat) (ha:a<18446744073709551616) (hx:x<18446744073709551616) (hc:c<=1):∃r d:Nat,a+x+c=d*18446744073709551616+r/\r<18446744073709551616/\d<=1:=
 ⟨(a+x+c) % 18446744073709551616,(a+x+c)/18446744073709551616,oa,oa,oa⟩
theorem pQ (a x c:Nat) (ha:a<18446744073709551616) (hx:x<18446744073709551616) (hc:c<=1):∃r d:Nat,a+d*18446744073709551616=r+x+c/\r<18446744073709551616/\d<=1:=by
 rcases Nat.lt_or_ge a (x+c)with h|h
 ·exact⟨a+18446744073709551616-(x+c),1,oa,oa,oa⟩
 ·exact⟨a-(x+c),0,oa,oa,oa⟩
theorem FC {a x c d r:Nat} (h:a+x+c=d*18446744073709551616+r):(a:Int)+(x:Int)+(c:Int)=(d:Int)*18446744073709551616+(r:Int):=oa
theorem ED {a x c d r:Nat} (h:a+d*18446744073709551616=r+x+c):(a:Int)+(d:Int)*18446744073709551616=(r:Int)+(x:Int)+(c:Int):=oa
theorem Ce {a x d r:Nat} (h:a+x+0=d*18446744073709551616+r):(a:Int)+(x:Int)=(d:Int)*18446744073709551616+(r:Int):=oa
theorem Dx {a c d r:Nat} (h:a+0+c=d*18446744073709551616+r):(a:Int)+(c:Int)=(d:Int)*18446744073709551616+(r:Int):=oa
theorem Cs {a x d r:Nat} (h:a+d*18446744073709551616=r+x+0):(a:Int)+(d:Int)*18446744073709551616=(r:Int)+(x:Int):=oa
theorem BT {a c d r:Nat} (h:a+d*18446744073709551616=r+0+c):(a:Int)+(d:Int)*18446744073709551616=(r:Int)+(c:Int):=oa
theorem jy {r:Nat} (h:r<18446744073709551616):0<=(r:Int)/\(r:Int)<18446744073709551616:=oa
theorem kp (T:Int):∃a:Nat,(a:Int)=T % 18446744073709551616/\a<18446744073709551616:=⟨(T % 18446744073709551616).toNat,oa,oa⟩
theorem ro (hi lo:Nat):((hi*18446744073709551616+lo:Nat):Int)=(hi:Int)*18446744073709551616+(lo:Int):=oa
theorem Hn (a x r d:Nat) (ha:a<18446744073709551616) (hx:x<18446744073709551616) (h:a+x+0=d*18446744073709551616+r) (hr:r<18446744073709551616):
 Hid (∀w1,(callFunc 38 #[.int .u64 a,.int .u64 x,.int .u64 0]).run Tryz.prog w1=.ok (.value (.tuple #[.int .u64 (r:Int),.int .u64 (d:Int)])) w1):=by
 intro w1
 have h:=lz a x 0 r d ha hx (Nat.zero_le _) h hr w1
 rw[show((0:Nat):Int)=0 from rfl]at h
 exact h
theorem Ib (a c r d:Nat) (ha:a<18446744073709551616) (hc:c<=1) (h:a+0+c=d*18446744073709551616+r) (hr:r<18446744073709551616):
 Hid (∀w1,(callFunc 38 #[.int .u64 a,.int .u64 0,.int .u64 c]).run Tryz.prog w1=.ok (.value (.tuple #[.int .u64 (r:Int),.int .u64 (d:Int)])) w1):=by
 intro w1
 have h:=lz a 0 c r d ha oa hc h hr w1
 rw[show((0:Nat):Int)=0 from rfl]at h
 exact h
theorem IX (a x r d:Nat) (ha:a<18446744073709551616) (hx:x<18446744073709551616) (h:a+d*18446744073709551616=r+x+0) (hr:r<18446744073709551616):
 Hid (∀w1,(callFunc 104 #[.int .u64 a,.int .u64 x,.int .u64 0]).run Tryz.prog w1=.ok (.value (.tuple #[.int .u64 (r:Int),.int .u64 (d:Int)])) w1):=by
 intro w1
 have h:=mT a x 0 r d ha hx (Nat.zero_le _) h hr w1
 rw[show((0:Nat):Int)=0 from rfl]at h
 exact h
theorem Im (a c r d:Nat) (ha:a<18446744073709551616) (hc:c<=1) (h:a+d*18446744073709551616=r+0+c) (hr:r<18446744073709551616):
 Hid (∀w1,(callFunc 104 #[.int .u64 a,.int .u64 0,.int .u64 c]).run Tryz.prog w1=.ok (.value (.tuple #[.int .u64 (r:Int),.int .u64 (d:Int)])) w1):=by
 intro w1
 have h:=mT a 0 c r d ha oa hc h hr w1
 rw[show((0:Nat):Int)=0 from rfl]at h
 exact h
theorem Bo (g hi lo:Nat) (neg:Bool) (T:Int) (w:World) (hh:hi<18446744073709551616) (hl:lo<18446744073709551616) (hb0:af w g (lU T) 134):
 Calls Tryz.prog 83 #[.pointer (some ⟨g,0,none⟩),.bool neg,.int .u64 hi,.int .u64 lo] w fun e w'=>e=.returned (.tuple #[])/\gT g w w'/\af w' g (lU (T+qx neg (hi*18446744073709551616+lo))) 134:=by
 obtain⟨a0,h0,b0⟩:=kp T
 obtain⟨a1,h1,b1⟩:=kp (T/18446744073709551616)
 obtain⟨a2,h2,b2⟩:=kp (T/340282366920938463463374607431768211456)
 rw[j_ h0 h1 h2]at hb0
 cases neg
 ·obtain⟨r0,c0,e0,l0,k0⟩:=pX a0 lo 0 b0 hl (Nat.zero_le _)
  obtain⟨r1,c1,e1,l1,k1⟩:=pX a1 hi c0 b1 hh k0
  obtain⟨r2,c2,e2,l2,k2⟩:=pX a2 0 c1 b2 da k1
  have i0:=Ce e0
  have i1:=FC e1
  have i2:=Dx e2
  have key:=Ai h0 h1 h2 i0 i1 i2 (jy l0) (jy l1) (jy l2)
  refine(sX g hi lo a0 a1 a2 r0 c0 r1 c1 r2 c2 w (Hn a0 lo r0 c0 b0 hl e0 l0) (fun w1=>lz a1 hi c0 r1 c1 b1 hh k0 e1 l1 w1) (Ib a2 c1 r2 c2 b2 k1 e2 l2) hb0).mono fun e w' h=>⟨h.1,h.2.1,?_⟩
  have e:T+qx false (hi*18446744073709551616+lo)=T+((hi:Int)*18446744073709551616+(lo:Int)):=congrArg (T+·) (ro hi lo)
  rw[e,j_ key.1 key.2.1 key.2.2];exact h.2.2
 ·obtain⟨r0,c0,e0,l0,k0⟩:=pQ a0 lo 0 b0 hl (Nat.zero_le _)
  obtain⟨r1,c1,e1,l1,k1⟩:=pQ a1 hi c0 b1 hh k0
  obtain⟨r2,c2,e2,l2,k2⟩:=pQ a2 0 c1 b2 da k1
  have i0:=Cs e0
  have i1:=ED e1
  have i2:=BT e2
  have key:=v_ h0 h1 h2 i0 i1 i2 (jy l0) (jy l1) (jy l2)
  refine(sA g hi lo a0 a1 a2 r0 c0 r1 c1 r2 c2 w (IX a0 lo r0 c0 b0 hl e0 l0) (fun w1=>mT a1 hi c0 r1 c1 b1 hh k0 e1 l1 w1) (Im a2 c1 r2 c2 b2 k1 e2 l2) hb0).mono fun e w' h=>⟨h.1,h.2.1,?_⟩
  have e:T+qx true (hi*18446744073709551616+lo)=T-((hi:Int)*18446744073709551616+(lo:Int)):=by
   unfold qx;rw[if_pos rfl,ro,Int.sub_eq_add_neg]
  rw[e,j_ key.1 key.2.1 key.2.2];exact h.2.2
def gK (xs ys:List Int):Int:=if xs.length≠ys.length\/8<xs.length then 0 else dG (gA (du xs ys))
def jY (xs ys:List Int):Int:=if xs.length≠ys.length\/8<xs.length then 2 else gu (gA (du xs ys))
theorem zC {x y:Int} (h:(decide (x<0)==decide (y<0))=true):x*y=((x.natAbs*y.natAbs:Nat):Int):=by
 rw[Int.natCast_mul]
 by_cases hx:x<0<;>by_cases hy:y<0<;>simp[hx,hy]at h
 ·rw[show(x.natAbs:Int)=-x by omega,show(y.natAbs:Int)=-y by omega,Int.neg_mul_neg]
 ·rw[show(x.natAbs:Int)=x by omega,show(y.natAbs:Int)=y by omega]
theorem vT {x y:Int} (h:(decide (x<0)==decide (y<0))=false):x*y=-((x.natAbs*y.natAbs:Nat):Int):=by
 rw[Int.natCast_mul]
 by_cases hx:x<0<;>by_cases hy:y<0<;>simp[hx,hy]at h
 ·rw[show(x.natAbs:Int)=-x by omega,show(y.natAbs:Int)=y by omega,Int.neg_mul,Int.neg_neg]
 ·rw[show(x.natAbs:Int)=x by omega,show(y.natAbs:Int)=-y by omega,Int.mul_neg,Int.neg_neg]
theorem iL.slice {w:World} {v:Value} {xs:List Int} (h:iL w v xs):∃a c,v=.slice a xs.length c:=by
 rcases h with⟨rfl,a,c,h⟩|⟨_,b,off,cap,h,_⟩
 ·exact⟨a,c,h⟩
 ·exact⟨_,_,h⟩
theorem iL.at {w:World} {a:Option Addr} {n c:Nat} {xs:List Int} (h:iL w (.slice a n c) xs) {k:Nat} (hk:k<n):
 ∃b off,a=some ⟨b,off,none⟩/\b<w.heap.size/\w.cell? ⟨b,off+k,none⟩=some (.int .i64 (xs.getD k 0)):=by
 rcases h with⟨_,a',c',hh⟩|⟨_,b,off,cap,hh,hbw,hc⟩
 ·cases hh;omega
 ·cases hh;exact⟨b,off,rfl,hbw,hc k hk⟩
theorem Gu {x y:Int} (hx:bu x) (hy:bu y):x.natAbs*y.natAbs<=85070591730234615865843651857942052864:=by
 have h1:x.natAbs<=9223372036854775808:=by obtain⟨_,_⟩:=hx;omega
 have h2:y.natAbs<=9223372036854775808:=by obtain⟨_,_⟩:=hy;omega
 exact nk (Nat.mul_le_mul h1 h2) da
theorem gT.into {g B:Nat} {a w w':World} (h:gT g w w') (hg:B<=g) (hB:Below B a w) (hs:B<=w.heap.size):Below B a w':=
 hB.trans ⟨h.1.os,h.1.tape,h.1.output,h.2.1,fun k hk=>h.2.2 k oa oa⟩
theorem E9 {k M:Nat} {S z:Int} (h1:-(((k*M:Nat)):Int)<=S) (h2:-(M:Int)<=z):-((((k+1)*M:Nat)):Int)<=S+z:=by
 rw[Nat.succ_mul,Int.natCast_add];generalize((k*M:Nat):Int)=q at *;omega
theorem Fq {k M:Nat} {S z:Int} (h1:S<=(((k*M:Nat)):Int)) (h2:z<=(M:Int)):S+z<=((((k+1)*M:Nat)):Int):=by
 rw[Nat.succ_mul,Int.natCast_add];generalize((k*M:Nat):Int)=q at *;omega
theorem BJ (a0 a1:Nat) (h0:a0<18446744073709551616) (h1:a1<18446744073709551616):
 bits .or .u64 ((a0:Int)/1073741824) (IntKind.u64.wrap ((a1:Int)*17179869184))=((a0/1073741824+a1 % 1073741824*17179869184:Nat):Int):=by
 have e1:(a0:Int)/1073741824=((a0/1073741824:Nat):Int):=oa
 have e2:IntKind.u64.wrap ((a1:Int)*17179869184)=((a1 % 1073741824*17179869184:Nat):Int):=by rw[IntKind.wrap_u64];omega
 rw[e1,e2,bits_or_u64_nat _ _ oa oa,Nat.or_comm]
 have e3:=Nat.two_pow_add_eq_or_of_lt (i:=34) (b:=a0/1073741824) oa (a1 % 1073741824)
 rw[show a1 % 1073741824*17179869184=2^34* (a1 % 1073741824) by omega,<-e3,Nat.add_comm]
theorem yk (a0 a1:Nat) (h0:a0<18446744073709551616) (h1:a1<18446744073709551616):
 wrap64 (bits .or .u64 ((a0:Int)/1073741824) (IntKind.u64.wrap ((a1:Int)*17179869184)))=((a0:Int)/1073741824+(a1:Int) % 1073741824*17179869184+9223372036854775808) % 18446744073709551616-9223372036854775808:=by
 rw[BJ a0 a1 h0 h1]
 unfold wrap64;omega
theorem AM {T:Int} {a0 a1 a2:Nat} (h0:(a0:Int)=T % 18446744073709551616) (h1:(a1:Int)=T/18446744073709551616 % 18446744073709551616) (h2:(a2:Int)=T/340282366920938463463374607431768211456 % 18446744073709551616)
 (b0:a0<18446744073709551616) (b1:a1<18446744073709551616) (b2:a2<18446744073709551616) (t0:-1569275433846670190958947355801916604025588861116008628224<=T) (t1:T<1569275433846670190958947355801916604025588861116008628224):
 ∃ N H A:Int,wrap64 (bits .or .u64 ((a0:Int)/1073741824) (IntKind.u64.wrap ((a1:Int)*17179869184)))=N/\wrap64 (bits .or .u64 ((a1:Int)/1073741824) (IntKind.u64.wrap ((a2:Int)*17179869184)))=H/\wrap64 (a2:Int)=A/\
  ((jA (T/1073741824)=true/\N=T/1073741824/\(H !=N/9223372036854775808)=false/\(A/1073741824 !=N/9223372036854775808)=false)\/
   (jA (T/1073741824)=false/\(H !=N/9223372036854775808)=true)\/(jA (T/1073741824)=false/\(H !=N/9223372036854775808)=false/\(A/1073741824 !=N/9223372036854775808)=true)):=by
 refine⟨_,_,_,rfl,rfl,rfl,?_⟩
 have key:=v7 (T:=T) (w0:=a0) (w1:=a1) (w2:=a2) t0 t1 (jy b0) (jy b1) (jy b2) oa (yk a0 a1 b0 b1) (yk a1 a2 b1 b2) (s:=wrap64 (a2:Int)/1073741824) (by unfold wrap64;rfl)
 generalize wrap64 (bits .or .u64 ((a0:Int)/1073741824) (IntKind.u64.wrap ((a1:Int)*17179869184)))=N at *
 generalize wrap64 (bits .or .u64 ((a1:Int)/1073741824) (IntKind.u64.wrap ((a2:Int)*17179869184)))=H at *
 generalize wrap64 (a2:Int)=A at *
 generalize N/9223372036854775808=s at *
 rcases key with⟨k1,k2,k3,k4⟩|⟨k1,k2⟩
 ·exact Or.inl ⟨k1,k2,by simp[k3],by simp[k4]⟩
 ·by_cases hs:H=s
  ·refine Or.inr (Or.inr ⟨k1,by simp[hs],?_⟩)
   rcases k2 with k2|k2
   ·exact absurd hs k2
   ·simpa using k2
  ·exact Or.inr (Or.inl ⟨k1,by simpa using hs⟩)
theorem wZ {k:Nat} {S T:Int} (h8:k<=8) (l1:-(((k*85070591730234615865843651857942052864:Nat)):Int)<=S) (l2:S<=(((k*85070591730234615865843651857942052864:Nat)):Int)) (hT:T=536870912+S):
 -1569275433846670190958947355801916604025588861116008628224<=T/\T<1569275433846670190958947355801916604025588861116008628224:=by
 have hb:k*85070591730234615865843651857942052864<=8*85070591730234615865843651857942052864:=Nat.mul_le_mul_right _ h8
 obtain⟨q,hq⟩:∃q,q=k*85070591730234615865843651857942052864:=⟨_,rfl⟩
 rw[<-hq]at hb l1 l2
 have hb2:(q:Int)<=680564733841876926926749214863536422912:=by
  have:=Int.ofNat_le.2 hb
  exact iT this da
 clear hb hq h8
 generalize(q:Int)=z at *
 omega
theorem vN:#[Value.int .u64 536870912,.int .u64 0,.int .u64 0]=lU 536870912:=by unfold lU;rfl
theorem Bg (xs ys:List Int) (va ua:Option Addr) (vc uc n:Nat) (w:World) (hv:iL w (.slice va n vc) xs) (hu:iL w (.slice ua n uc) ys) (hn:n=xs.length) (hm:n=ys.length) (h8:n<=8)
 (hx:∀k,k<xs.length->bu (xs.getD k 0)) (hy:∀k,k<ys.length->bu (ys.getD k 0)):
 Calls Tryz.prog 49 #[.slice va n vc,.slice ua n uc] w fun e w'=>e=.returned (.tuple #[.int .i64 (dG (gA (du xs ys))),.int .i64 (gu (gA (du xs ys)))])/\Below w.heap.size w w':=by
 have hd0:((n:Int) !=(n:Int))=false:=by simp
 have hd':decide ((8:Int)<(n:Int))=false:=dF oa
 have HN:=aa hn
 have HM:=aa hm
 have HV:=aa hv
 have HU:=aa hu
 have HX:=aa hx
 have HY:=aa hy
 clear hn hm hv hu hx hy
 go_enter Tryz.func49,Tryz.ntmps49
 go_upto_region 4 with(fail)
 have pw:=af.new w #[Value.int .u64 536870912,.int .u64 0,.int .u64 0] 134
 rw[vN]at pw|-
 have hB:Below w.heap.size w (w.alloc (.cells (lU 536870912) 134)):=by go_grown
 generalize w.alloc (.cells (lU 536870912) 134)=w0 at *
 go_wp2_with (fail)
 go_loopg [26] n (fun g iv wr=>∃k:Nat,g+k=n/\iv=.int .i64 k/\af wr w.heap.size (lU (536870912+du (xs.take k) (ys.take k))) 134/\Hid (-(((k*85070591730234615865843651857942052864:Nat)):Int)<=du (xs.take k) (ys.take k))/\Hid (du (xs.take k) (ys.take k)<=((k*85070591730234615865843651857942052864:Nat):Int))/\Below w.heap.size w wr)
 case atStart=>exact⟨0,rfl,rfl,by rw[List.take_zero,cJ];exact pw,by show _<=_;rw[List.take_zero,cJ];decide,by show _<=_;rw[List.take_zero,cJ];decide,hB⟩
 case round=>
  clear pw hB
  obtain⟨k,hk,rfl,pw,hlo,hhi,hB⟩:=hrel
  by_cases hkn:k<n
  ·have hdk:decide ((k:Int)<(n:Int))=true:=dT oa
   have hdk':decide (k<n)=true:=dT oa
   obtain⟨b,off,rfl,hbw,hcell⟩:=HV.out.at hkn
   obtain⟨b2,off2,rfl,hbw2,hcell2⟩:=HU.out.at hkn
   have hI:=HX.out k (by have:=HN.out;omega)
   have hJ:=HY.out k (by have:=HM.out;omega)
   have hsx:=jR xs ys k (by have:=HN.out;omega) (by have:=HM.out;omega)
   obtain⟨x,hxx⟩:∃x,x=xs.getD k 0:=⟨_,rfl⟩
   obtain⟨y,hyy⟩:∃y,y=ys.getD k 0:=⟨_,rfl⟩
   rw[<-hxx]at hI hsx hcell
   rw[<-hyy]at hJ hsx hcell2
   obtain⟨A,hA⟩:∃A,A=x.natAbs:=⟨_,rfl⟩
   obtain⟨B,hBB⟩:∃B,B=y.natAbs:=⟨_,rfl⟩
   obtain⟨S,hS⟩:∃S,S=du (xs.take k) (ys.take k):=⟨_,rfl⟩
   rw[<-hS]at hsx pw hlo hhi
   have HPL:=aa (show A*B<=85070591730234615865843651857942052864 by rw[hA,hBB];exact Gu hI hJ)
   obtain⟨p,hp⟩:∃p,p=A*B/18446744073709551616:=⟨_,rfl⟩
   obtain⟨q,hq⟩:∃q,q=A*B % 18446744073709551616:=⟨_,rfl⟩
   have HP:=aa hp
   have HQ:=aa hq
   have HPQ:=aa (show p*18446744073709551616+q=A*B by rw[hp,hq];exact Nat.div_add_mod' _ _)
   have HQ64:=aa (show q<18446744073709551616 by rw[hq];exact Nat.mod_lt _ da)
   have HP64:=aa (show p<18446744073709551616 by
    rw[hp];exact Nat.lt_of_le_of_lt (Nat.div_le_div_right HPL.out) da)
   have HSX:=aa hsx
   have HA:=aa hA
   have HBB:=aa hBB
   have HA64:=aa (show A<18446744073709551616 by rw[hA];have:=hI.1;have:=hI.2;omega)
   have HB64:=aa (show B<18446744073709551616 by rw[hBB];have:=hJ.1;have:=hJ.2;omega)
   have HI:=aa hI
   have HJ:=aa hJ
   have hw3:IntKind.i64.wrap ((k:Int)+1)=((k+1:Nat):Int):=by rw[wI];omega
   have cellX:Hid (∀w1,Below w.heap.size w w1->w1.cell? ⟨b,off+k,none⟩=some (.int .i64 x)):=by
    intro w1 h1
    rw[h1.cell (p:=⟨b,off+k,none⟩) hbw];exact hcell
   have cellY:Hid (∀w1,Below w.heap.size w w1->w1.cell? ⟨b2,off2+k,none⟩=some (.int .i64 y)):=by
    intro w1 h1
    rw[h1.cell (p:=⟨b2,off2+k,none⟩) hbw2];exact hcell2
   clear hI hJ hsx hcell hcell2 hxx hyy hA hBB hbw hbw2 hS hp hq
   go_upto_region 7 with(fail)
   refine bV 99 16 rfl ke ?_
   replace pw:=pw.drew
   replace hB:Below w.heap.size w wr.drew:=hB.drew
   generalize wr.drew=wo at *
   refine ai 0 (.slice (some ⟨b,off,none⟩) n vc) rfl rfl ke (fun w1=>by go_simp;exact⟨rfl,Below.refl _ _⟩) ?_
   simp only[Act.put,aL,aM,aN]
   refine ai 1 (.int .i64 k) rfl rfl ke (fun w1=>by go_simp;exact⟨rfl,Below.refl _ _⟩) ?_
   simp only[Act.put,aL,aM,aN]
   refine ai 2 (.pointer (some ⟨b,off+k,none⟩)) rfl rfl ke (fun w1=>by go_simp;exact⟨rfl,Below.refl _ _⟩) ?_
   simp only[Act.put,aL,aM,aN]
   refine aV 3 (.int .i64 x) rfl rfl ke ke (fun w1 h1=>by have hc:=cellX.out w1 (hB.trans (h1.mono (by have:=pw.lt;omega)));go_simp;exact⟨rfl,Below.refl _ _⟩) ?_
   simp only[Act.put,aL,aM,aN]
   refine aV 4 (.int .u64 (A:Nat)) rfl rfl ke ke (fun w1 h1=>?_) ?_
   ·go_simp
    refine(i9 x _ HI.out).mono ?_
    rintro e w2 ⟨rfl,rfl⟩
    exact⟨by rw[<-HA.out],Below.refl _ _⟩
   simp only[Act.put,aL,aM,aN]
   refine ai 5 (.slice (some ⟨b2,off2,none⟩) n uc) rfl rfl ke (fun w1=>by go_simp;exact⟨rfl,Below.refl _ _⟩) ?_
   simp only[Act.put,aL,aM,aN]
   refine ai 6 (.int .i64 k) rfl rfl ke (fun w1=>by go_simp;exact⟨rfl,Below.refl _ _⟩) ?_
   simp only[Act.put,aL,aM,aN]
   refine ai 7 (.pointer (some ⟨b2,off2+k,none⟩)) rfl rfl ke (fun w1=>by go_simp;exact⟨rfl,Below.refl _ _⟩) ?_
   simp only[Act.put,aL,aM,aN]
   refine aV 8 (.int .i64 y) rfl rfl ke ke (fun w1 h1=>by have hc:=cellY.out w1 (hB.trans (h1.mono (by have:=pw.lt;omega)));go_simp;exact⟨rfl,Below.refl _ _⟩) ?_
   simp only[Act.put,aL,aM,aN]
   refine aV 9 (.int .u64 (B:Nat)) rfl rfl ke ke (fun w1 h1=>?_) ?_
   ·go_simp
    refine(i9 y _ HJ.out).mono ?_
    rintro e w2 ⟨rfl,rfl⟩
    exact⟨by rw[<-HBB.out],Below.refl _ _⟩
   simp only[Act.put,aL,aM,aN]
   refine aV 10 (.tuple #[.int .u64 (p:Nat),.int .u64 (q:Nat)]) rfl rfl ke ke (fun w1 h1=>?_) ?_
   ·go_simp
    refine(eJ A B _ HA64.out HB64.out).mono ?_
    rintro e w2 ⟨rfl,rfl⟩
    exact⟨by rw[<-HP.out,<-HQ.out],Below.refl _ _⟩
   simp only[Act.put,aL,aM,aN]
   refine ai 11 (.tuple #[.int .u64 (p:Nat),.int .u64 (q:Nat)]) rfl rfl ke (fun w1=>by go_simp;exact⟨rfl,Below.refl _ _⟩) ?_
   simp only[Act.put,aL,aM,aN]
   refine ai 12 (.int .u64 (p:Nat)) rfl rfl ke (fun w1=>by go_simp;exact⟨rfl,Below.refl _ _⟩) ?_
   simp only[Act.put,aL,aM,aN]
   refine ai 13 (.int .u64 (q:Nat)) rfl rfl ke (fun w1=>by go_simp;exact⟨rfl,Below.refl _ _⟩) ?_
   simp only[Act.put,aL,aM,aN]
   refine ai 14 (.int .u64 (p:Nat)) rfl rfl ke (fun w1=>by go_simp;exact⟨rfl,Below.refl _ _⟩) ?_
   simp only[Act.put,aL,aM,aN]
   refine ai 15 (.int .u64 (q:Nat)) rfl rfl ke (fun w1=>by go_simp;exact⟨rfl,Below.refl _ _⟩) ?_
   simp only[Act.put,aL,aM,aN]
   refine dq ke (fun w3 h3=>?_)
   replace hB:=hB.trans (h3.mono (by have:=pw.lt;omega))
   replace pw:=pw.below h3 pw.lt
   clear h3
   go_upto_region 8 with(fail)
   refine dx 13 ke ke ?_
   replace pw:=pw.drew
   replace hB:Below w.heap.size w w3.drew:=hB.drew
   generalize w3.drew=wo at *
   refine ao 0 (.slice (some ⟨b,off,none⟩) n vc) rfl rfl ke (fun w1 h1=>by go_simp;exact⟨rfl,Below.refl _ _⟩) ?_
   simp only[Act.put,aL,aM,aN]
   refine ao 1 (.int .i64 k) rfl rfl ke (fun w1 h1=>by go_simp;exact⟨rfl,Below.refl _ _⟩) ?_
   simp only[Act.put,aL,aM,aN]
   refine ao 2 (.pointer (some ⟨b,off+k,none⟩)) rfl rfl ke (fun w1 h1=>by go_simp;exact⟨rfl,Below.refl _ _⟩) ?_
   simp only[Act.put,aL,aM,aN]
   refine ao 3 (.int .i64 x) rfl rfl ke (fun w1 h1=>by have hc:=cellX.out w1 (hB.trans (h1.mono (by have:=pw.lt;omega)));go_simp;exact⟨rfl,Below.refl _ _⟩) ?_
   simp only[Act.put,aL,aM,aN]
   refine ao 4 (.bool (decide (x<0))) rfl rfl ke (fun w1 h1=>by go_simp;exact⟨rfl,Below.refl _ _⟩) ?_
   simp only[Act.put,aL,aM,aN]
   refine ao 5 (.slice (some ⟨b2,off2,none⟩) n uc) rfl rfl ke (fun w1 h1=>by go_simp;exact⟨rfl,Below.refl _ _⟩) ?_
   simp only[Act.put,aL,aM,aN]
   refine ao 6 (.int .i64 k) rfl rfl ke (fun w1 h1=>by go_simp;exact⟨rfl,Below.refl _ _⟩) ?_
   simp only[Act.put,aL,aM,aN]
   refine ao 7 (.pointer (some ⟨b2,off2+k,none⟩)) rfl rfl ke (fun w1 h1=>by go_simp;exact⟨rfl,Below.refl _ _⟩) ?_
   simp only[Act.put,aL,aM,aN]
   refine ao 8 (.int .i64 y) rfl rfl ke (fun w1 h1=>by have hc:=cellY.out w1 (hB.trans (h1.mono (by have:=pw.lt;omega)));go_simp;exact⟨rfl,Below.refl _ _⟩) ?_
   simp only[Act.put,aL,aM,aN]
   refine ao 9 (.bool (decide (y<0))) rfl rfl ke (fun w1 h1=>by go_simp;exact⟨rfl,Below.refl _ _⟩) ?_
   simp only[Act.put,aL,aM,aN]
   refine ao 10 (.bool (decide (x<0) !=decide (y<0))) rfl rfl ke (fun w1 h1=>by go_simp;exact⟨rfl,Below.refl _ _⟩) ?_
   simp only[Act.put,aL,aM,aN]
   refine ao 11 (.int .u64 (p:Nat)) rfl rfl ke (fun w1 h1=>by go_simp;exact⟨rfl,Below.refl _ _⟩) ?_
   simp only[Act.put,aL,aM,aN]
   refine ao 12 (.int .u64 (q:Nat)) rfl rfl ke (fun w1 h1=>by go_simp;exact⟨rfl,Below.refl _ _⟩) ?_
   simp only[Act.put,aL,aM,aN]
   refine d8 ke (fun wt ht=>?_)
   simp only[List.drop_succ_cons,List.drop_zero]
   replace hB:=hB.trans (ht.mono (by have:=pw.lt;omega))
   replace pw:=pw.below ht pw.lt
   clear ht cellX cellY
   have HSG:=aa (show x*y=qx (decide (x<0) !=decide (y<0)) (p*18446744073709551616+q) by
    rw[HPQ.out,HA.out,HBB.out]
    cases hs:(decide (x<0)==decide (y<0))with
    |true=>rw[zC hs];rw[show(decide (x<0) !=decide (y<0))=false by rw[bne,hs];rfl];rfl
    |false=>rw[vT hs];rw[show(decide (x<0) !=decide (y<0))=true by rw[bne,hs];rfl];rfl)
   have HBD:=aa (show-((85070591730234615865843651857942052864:Nat):Int)<=x*y/\x*y<=((85070591730234615865843651857942052864:Nat):Int) by
    have h1:=HPL.out
    have h2:(x*y).natAbs=A*B:=by rw[Int.natAbs_mul,HA.out,HBB.out]
    rw[<-h2]at h1
    generalize x*y=z at *
    omega)
   generalize(decide (x<0) !=decide (y<0))=neg at *
   go_wp2_with (go_at_call 83;refine(Bo w.heap.size p q neg _ _ HP64.out HQ64.out pw).mono ?_;rintro e w4 ⟨rfl,hO,pw4⟩)
   replace hB:=gT.into hO (ns _) hB hB.size
   go_roundg (n-(k+1))
   case rel=>
    refine⟨k+1,oa,rfl,?_,?_,?_,hB⟩
    ·rw[HSX.out,HSG.out,<-Int.add_assoc];exact pw4
    ·show _<=_
     rw[HSX.out];exact E9 hlo.out HBD.out.1
    ·show _<=_
     rw[HSX.out];exact Fq hhi.out HBD.out.2
   case measure=>omega
  ·obtain rfl:k=n:=oa
   have hdk:decide ((k:Int)<(k:Int))=false:=dF oa
   have hS:du (xs.take k) (ys.take k)=du xs ys:=by
    rw[show xs.take k=xs by rw[HN.out,List.take_length],show ys.take k=ys by rw[HM.out,List.take_length]]
   rw[hS]at pw hlo hhi
   obtain⟨T,hT⟩:∃T,T=536870912+du xs ys:=⟨_,rfl⟩
   rw[<-hT]at pw
   obtain⟨a0,h0,b0⟩:=kp T
   obtain⟨a1,h1,b1⟩:=kp (T/18446744073709551616)
   obtain⟨a2,h2,b2⟩:=kp (T/340282366920938463463374607431768211456)
   rw[j_ h0 h1 h2]at pw
   have c0:wr.cell? ⟨w.heap.size,0,none⟩=some (.int .u64 (a0:Nat)):=pw.cellIs rfl
   have c1:wr.cell? ⟨w.heap.size,1,none⟩=some (.int .u64 (a1:Nat)):=pw.cellIs rfl
   have c2:wr.cell? ⟨w.heap.size,2,none⟩=some (.int .u64 (a2:Nat)):=pw.cellIs rfl
   obtain⟨t0,t1⟩:=wZ h8 hlo.out hhi.out hT
   obtain⟨N,H,A,f1,f2,f3,key⟩:=AM h0 h1 h2 b0 b1 b2 t0 t1
   have HR:Hid (gA (du xs ys)=T/1073741824):=by show _=_;unfold gA;rw[hT,Int.add_comm]
   clear h0 h1 h2 b0 b1 b2 hT pw t0 t1 hlo hhi hS
   rcases key with⟨k1,k2,d1,d2⟩|⟨k1,d1⟩|⟨k1,d1,d2⟩
   ·have K1:=aa k1
    have K2:=aa k2
    clear k1 k2
    go_wp2_with (fail)
    go_ret2
    exact⟨gP (by rw[HR.out,jP K1.out];first|done|exact K2.out|(rw[f1];exact K2.out)) (by rw[HR.out,lJ K1.out]),hB⟩
   ·have K1:=aa k1
    clear k1
    go_wp2_with (fail)
    go_ret2
    exact⟨gP (by rw[HR.out,ju K1.out]) (by rw[HR.out,iO K1.out]),hB⟩
   ·have K1:=aa k1
    clear k1
    go_wp2_with (fail)
    go_ret2
    exact⟨gP (by rw[HR.out,ju K1.out]) (by rw[HR.out,iO K1.out]),hB⟩
theorem ic (xs ys:List Int) (v u:Value) (w:World) (hv:iL w v xs) (hu:iL w u ys) (hx:∀k,k<xs.length->bu (xs.getD k 0)) (hy:∀k,k<ys.length->bu (ys.getD k 0)):
 Calls Tryz.prog 49 #[v,u] w fun e w'=>e=.returned (.tuple #[.int .i64 (gK xs ys),.int .i64 (jY xs ys)])/\Below w.heap.size w w':=by
 obtain⟨va,vc,rfl⟩:=hv.slice
 obtain⟨ua,uc,rfl⟩:=hu.slice
 unfold gK jY
 by_cases hbad:xs.length≠ys.length\/8<xs.length
 ·rw[if_pos hbad,if_pos hbad]
  generalize xs.length=n at *
  generalize ys.length=m at *
  clear hv hu hx hy
  by_cases hnm:n=m
  ·subst hnm
   have h8:8<n:=oa
   have hd0:((n:Int) !=(n:Int))=false:=by simp
   have hd':decide ((8:Int)<(n:Int))=true:=dT oa
   clear hbad h8
   go_enter Tryz.func49,Tryz.ntmps49
   go_wp2_with (fail)
   go_ret2
   exact⟨rfl,Below.refl _ _⟩
  ·have hd0:((n:Int) !=(m:Int))=true:=by simp;omega
   clear hbad hnm
   go_enter Tryz.func49,Tryz.ntmps49
   go_wp2_with (fail)
   go_ret2
   exact⟨rfl,Below.refl _ _⟩
 ·rw[if_neg hbad,if_neg hbad]
  have e:ys.length=xs.length:=oa
  rw[e]at hu|-
  exact Bg xs ys va ua vc uc xs.length w hv hu rfl e.symm oa hx hy
end Go.Proofs.YtbhahonkhiiilaaGreat
