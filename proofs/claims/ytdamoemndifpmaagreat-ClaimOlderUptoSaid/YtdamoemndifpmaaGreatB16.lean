/-
  Part of the proof of the Claim laws. Conditions: those that stand in each theorem.
-/
import Derived.Test.YtdamoemndifpmaaGreatB15
set_option linter.unusedSimpArgs false
set_option linter.unusedVariables false
set_option maxRecDepth 100000
namespace Go.Proofs.YtdamoemndifpmaaGreat
open Ab Go
noncomputable section
def sift:Nat->List Cast->List Cast
 |0,l=>l
 |j+1,l=>if cmpC (l.getD (j+1) zCast) (l.getD j zCast)<0 then sift j ((l.set (j+1) (l.getD j zCast)).set j (l.getD (j+1) zCast))else l
theorem sift_len:∀(j:Nat) (l:List Cast),(sift j l).length=l.length
 |0,l=>rfl
 |j+1,l=>by
  unfold sift;split
  ·rw[sift_len];simp
  ·rfl
def isortN(l:List Cast)(i:Nat):List Cast:=natF (fun i s=>sift i s) l i
theorem isortN_len(l:List Cast):∀i,(isortN l i).length=l.length
 |0=>rfl
 |i+1=>by
  have e:isortN l (i+1)=sift i (isortN l i):=rfl;rw[e,sift_len,isortN_len l i]
def CastB(c:Cast):Prop:=(0<=c.mould/\c.mould<=1000)/\0<=c.number/\c.number<=1000
theorem castB_get{l:List Cast}(h:∀c∈l,CastB c)(i:Nat):CastB (l.getD i zCast):=by
 by_cases hi:i<l.length
 ·exact h _ (getD_mem zCast l i hi)
 ·rw[gE,List.getElem?_eq_none (by omega)];exact⟨⟨Int.le_refl 0,by show(0:Int)<=1000;decide⟩,Int.le_refl 0,by show(0:Int)<=1000;decide⟩
theorem castB_swap{l:List Cast}(h:∀c∈l,CastB c)(i k:Nat):∀c∈(l.set i (l.getD k zCast)).set k (l.getD i zCast),CastB c:=fun c hc=>by
 rcases List.mem_or_eq_of_mem_set hc with q|q
 ·rcases List.mem_or_eq_of_mem_set q with q|q
  ·exact h c q
  ·rw[q];exact castB_get h k
 ·rw[q];exact castB_get h i
theorem sift_castB:∀(j:Nat) {l:List Cast},(∀c∈l,CastB c)->∀c∈sift j l,CastB c
 |0,_,h=>h
 |j+1,l,h=>by
  unfold sift;split
  ·exact sift_castB j (castB_swap h _ _)
  ·exact h
theorem isort_castB{l:List Cast}(h:∀c∈l,CastB c):∀i,∀c∈isortN l i,CastB c
 |0=>h
 |i+1=>sift_castB i (isort_castB h i)
theorem tel_set2{τ:Type}(E:Ty τ)(l:List τ)(i k:Nat)(x y:τ){n w:Nat}(vs us:List V)(hv:vs=E.cells x)(hw:(E.cells x).length=w)(hu:us=E.cells y)(hw2:(E.cells y).length=w)(hn:n=l.length):∀r j,r<n->j<w->
  VLe ((fun r' j=>if r'=k/\0<=j/\j<0+us.length then us.getD (j-0) uU else(fun r' j=>if r'=i/\0<=j/\j<0+vs.length then vs.getD (j-0) uU else rowsOf E l r' j) r' j) r j) (rowsOf E ((l.set i x).set k y) r j):=fun r j hr hj=>by
 subst hv;subst hu;subst hn;by_cases h:r=k
 ·subst h;simp only[Nat.zero_le,Nat.zero_add,true_and,hw2,hj,if_true,Nat.sub_zero,rowsOf,gE];rw[List.getElem?_set_self (by simpa using hr)];exact VLe.refl _
 ·have:=tel_set E l i x (n:=l.length) (w:=w) _ rfl hw rfl r j hr hj;have e:rowsOf E ((l.set i x).set k y) r j=rowsOf E (l.set i x) r j:=by simp only[rowsOf,gE,sN (Ne.symm h)]
  rw[e];simp only[h,false_and,if_false];exact this
theorem tel_cast2(l:List Cast)(i k:Nat)(x y:Cast){n:Nat}(hn:n=l.length)(r j:Nat)(hr:r<n)(hj:j<2):
  VLe (if r=k/\0<=j/\j<0+([iI y.mould,iI y.number]:List V).length then([iI y.mould,iI y.number]:List V).getD (j-0) uU else if r=i/\0<=j/\j<0+([iI x.mould,iI x.number]:List V).length then([iI x.mould,iI x.number]:List V).getD (j-0) uU else rowsOf tCast l r j)
   (rowsOf tCast ((l.set i x).set k y) r j):=tel_set2 tCast l i k x y (n:=n) (w:=2) _ _ rfl rfl rfl rfl hn r j hr hj
noncomputable def o193_6:Array Oper:=(regOf 6 (Tryz.f193.body.getD .skip)).getD #[]
@[reducible] noncomputable def st193_6 (l:List Cast) (n:Nat) (io:Int) (q:Int) (c:Nat->Bool):St:=⟨([.row 0 n,iI 0,iI (n:Int),fF 106,uU,uU,uU,uU,iI io,iI q]++ud 27++ [(bif c 0 then .row 0 n else(uU)),(bif c 1 then iI q else(uU)),(bif c 2 then .row 0 n else(uU)),(bif c 3 then iI q else(uU)),(bif c 4 then iI (q-(1:Int))else(uU)),(bif c 5 then .row 0 n else(uU)),(bif c 6 then iI q else(uU)),(bif c 7 then iI (q-(1:Int))else(uU)),(bif c 8 then .ref 0 (((q-(1:Int))).toNat) 0 else(uU)),(bif c 9 then .agg [iI ((l.getD ((q-(1:Int))).toNat tCast.zero).mould),iI ((l.getD ((q-(1:Int))).toNat tCast.zero).number)]else(uU)),(bif c 10 then .row 0 n else(uU)),(bif c 11 then iI q else(uU)),(bif c 12 then .ref 0 ((q).toNat) 0 else(uU)),(bif c 13 then .agg [iI ((l.getD (q).toNat tCast.zero).mould),iI ((l.getD (q).toNat tCast.zero).number)]else(uU)),(bif c 14 then .ref 0 ((q).toNat) 0 else(uU)),uU]),[(bif c 15 then .rows 84 2 n (fun r' j=>if r'=(q).toNat/\0<=j/\j<0+([iI ((l.getD ((q-(1:Int))).toNat tCast.zero).mould),iI ((l.getD ((q-(1:Int))).toNat tCast.zero).number)]:List V).length then([iI ((l.getD ((q-(1:Int))).toNat tCast.zero).mould),iI ((l.getD ((q-(1:Int))).toNat tCast.zero).number)]:List V).getD (j-0) uU else(rowsOf tCast l) r' j)else(.rows 84 2 n (rowsOf tCast l)))],[]⟩
def t193_6:Tab:=[([],[1,2,3,4,5,6,7,8,9,10,11,12,13]),([],[0,2,3,4,5,6,7,8,9,10,11,12,13]),([],[0,1,3,4,5,6,7,8,9,10,11,12,13,14,15]),([],[0,1,2,5,6,7,8,9,10,11,12,13,14,15]),([3],[0,1,2,5,6,7,8,9,10,11,12,13,14,15]),([],[0,1,2,3,4,6,7,10,11,12,13]),([],[0,1,2,3,4,5,10,11,12,13]),([6],[0,1,2,3,4,5,10,11,12,13]),([5,6,7],[0,1,2,3,4,10,11,12,13]),([5,6,7,8],[0,1,2,3,4,10,11,12,13]),([],[0,1,2,3,4,5,6,7,8,9,11]),([],[0,1,2,3,4,5,6,7,8,9,10]),([10,11],[0,1,2,3,4,5,6,7,8,9]),([10,11,12],[0,1,2,3,4,5,6,7,8,9]),([0,1,5,6,7,8,9,10,11,12,13],[2,3,4]),([0,1,5,6,7,8,9,10,11,12,13,14],[2,3,4])]
theorem ov193_6(l:List Cast)(n:Nat)(io:Int)(q:Int)(h1:0<=q-1)(h2:q<(n:Int))(h3:inR .i64 (q-1)=true):AWP Tryz.prog ⟨none,1⟩ (regionOf Tryz.f193 6) ⟨([.row 0 n,iI 0,iI (n:Int),fF 106,uU,uU,uU,uU,iI io,iI q]++ud 43),[.rows 84 2 n (rowsOf tCast l)],[]⟩ (fun e T=>e=.normal/\T=⟨([.row 0 n,iI 0,iI (n:Int),fF 106,uU,uU,uU,uU,iI io,iI q]++ud 27++ [.row 0 n,iI q,.row 0 n,iI q,iI (q-(1:Int)),.row 0 n,iI q,iI (q-(1:Int)),.ref 0 (((q-(1:Int))).toNat) 0,.agg [iI ((l.getD ((q-(1:Int))).toNat tCast.zero).mould),iI ((l.getD ((q-(1:Int))).toNat tCast.zero).number)],.row 0 n,iI q,.ref 0 ((q).toNat) 0,.agg [iI ((l.getD (q).toNat tCast.zero).mould),iI ((l.getD (q).toNat tCast.zero).number)],.ref 0 ((q).toNat) 0,.ref 0 (((q-(1:Int))).toNat) 0]),[.rows 84 2 n (fun r' j=>if r'=((q-(1:Int))).toNat/\0<=j/\j<0+([iI ((l.getD (q).toNat tCast.zero).mould),iI ((l.getD (q).toNat tCast.zero).number)]:List V).length then([iI ((l.getD (q).toNat tCast.zero).mould),iI ((l.getD (q).toNat tCast.zero).number)]:List V).getD (j-0) uU else(fun r' j=>if r'=(q).toNat/\0<=j/\j<0+([iI ((l.getD ((q-(1:Int))).toNat tCast.zero).mould),iI ((l.getD ((q-(1:Int))).toNat tCast.zero).number)]:List V).length then([iI ((l.getD ((q-(1:Int))).toNat tCast.zero).mould),iI ((l.getD ((q-(1:Int))).toNat tCast.zero).number)]:List V).getD (j-0) uU else(rowsOf tCast l) r' j) r' j)],[]⟩):=by
 refine AWP.region_bits (ops:=o193_6) 16 0 t193_6 mx (st193_6 l n io q) (fun z_i z_h c=> ?_) ?_
 ·rcases show z_i=0\/z_i=1\/z_i=2\/z_i=3\/z_i=4\/z_i=5\/z_i=6\/z_i=7\/z_i=8\/z_i=9\/z_i=10\/z_i=11\/z_i=12\/z_i=13\/z_i=14\/z_i=15 by omega with rfl|rfl|rfl|rfl|rfl|rfl|rfl|rfl|rfl|rfl|rfl|rfl|rfl|rfl|rfl|rfl
  ·exact AStep.rd true (.row 0 n) rfl
  ·exact AStep.rd true (iI q) rfl
  ·exact AStep.rd true (.row 0 n) rfl
  ·exact AStep.rd true (iI q) rfl
  ·refine AStep.rd (inR .i64 (q-(1:Int))) (iI (q-(1:Int))) ?_;first|assumption|rfl|(simp[*];done)|(simp;omega)|(simp only[Bool.and_eq_true,decide_eq_true_eq];omega)
  ·exact AStep.rd true (.row 0 n) rfl
  ·exact AStep.rd true (iI q) rfl
  ·refine AStep.rd (inR .i64 (q-(1:Int))) (iI (q-(1:Int))) ?_;first|assumption|rfl|(simp[*];done)|(simp;omega)|(simp only[Bool.and_eq_true,decide_eq_true_eq];omega)
  ·refine AStep.rd (((decide (0<=(q-(1:Int)))&&decide ((q-(1:Int))<(n:Int)))&&decide (n<=n))) (.ref 0 (((q-(1:Int))).toNat) 0) ?_;first|assumption|rfl|(simp[*];done)|(simp;omega)|(simp only[Bool.and_eq_true,decide_eq_true_eq];omega)
  ·refine AStep.rd ((decide (((q-(1:Int))).toNat<n)&&decide (0+2<=2))) (.agg [iI ((l.getD ((q-(1:Int))).toNat tCast.zero).mould),iI ((l.getD ((q-(1:Int))).toNat tCast.zero).number)]) ?_;first|assumption|rfl|(simp[*];done)|(simp;omega)|(simp only[Bool.and_eq_true,decide_eq_true_eq];omega)
  ·exact AStep.rd true (.row 0 n) rfl
  ·exact AStep.rd true (iI q) rfl
  ·refine AStep.rd (((decide (0<=q)&&decide (q<(n:Int)))&&decide (n<=n))) (.ref 0 ((q).toNat) 0) ?_;first|assumption|rfl|(simp[*];done)|(simp;omega)|(simp only[Bool.and_eq_true,decide_eq_true_eq];omega)
  ·refine AStep.rd ((decide ((q).toNat<n)&&decide (0+2<=2))) (.agg [iI ((l.getD (q).toNat tCast.zero).mould),iI ((l.getD (q).toNat tCast.zero).number)]) ?_;first|assumption|rfl|(simp[*];done)|(simp;omega)|(simp only[Bool.and_eq_true,decide_eq_true_eq];omega)
  ·refine AStep.rd (((decide (0<=q)&&decide (q<(n:Int)))&&decide (n<=n))) (.ref 0 ((q).toNat) 0) ?_;first|assumption|rfl|(simp[*];done)|(simp;omega)|(simp only[Bool.and_eq_true,decide_eq_true_eq];omega)
  ·refine AStep.tree (g:=(.need ((decide ((q).toNat<n)&&decide (0+([iI ((l.getD ((q-(1:Int))).toNat tCast.zero).mould),iI ((l.getD ((q-(1:Int))).toNat tCast.zero).number)]:List V).length<=2))&&underL 0 ([iI ((l.getD ((q-(1:Int))).toNat tCast.zero).mould),iI ((l.getD ((q-(1:Int))).toNat tCast.zero).number)]:List V)) (.done .normal (st193_6 l n io q (mkb t193_6 15 true c))))) (by kernel_rfl) ?_;simp only[DT.holds]
   repeat' (first|assumption|exact rfl|(with_reducible refine And.intro ?_ ?_))
   all_goals first|(simp[*];done)|(simp only[Bool.and_eq_true,decide_eq_true_eq];refine⟨⟨by omega,by simp⟩,rfl⟩)
 ·refine AOps.tree (g:=(.need ((decide (0<=(q-(1:Int)))&&decide ((q-(1:Int))<(n:Int)))&&decide (n<=n)) (.need ((decide (((q-(1:Int))).toNat<n)&&decide (0+([iI ((l.getD (q).toNat tCast.zero).mould),iI ((l.getD (q).toNat tCast.zero).number)]:List V).length<=2))&&underL 0 ([iI ((l.getD (q).toNat tCast.zero).mould),iI ((l.getD (q).toNat tCast.zero).number)]:List V)) (.done .normal ⟨([.row 0 n,iI 0,iI (n:Int),fF 106,uU,uU,uU,uU,iI io,iI q]++ud 27++ [.row 0 n,iI q,.row 0 n,iI q,iI (q-(1:Int)),.row 0 n,iI q,iI (q-(1:Int)),.ref 0 (((q-(1:Int))).toNat) 0,.agg [iI ((l.getD ((q-(1:Int))).toNat tCast.zero).mould),iI ((l.getD ((q-(1:Int))).toNat tCast.zero).number)],.row 0 n,iI q,.ref 0 ((q).toNat) 0,.agg [iI ((l.getD (q).toNat tCast.zero).mould),iI ((l.getD (q).toNat tCast.zero).number)],.ref 0 ((q).toNat) 0,.ref 0 (((q-(1:Int))).toNat) 0]),[.rows 84 2 n (fun r' j=>if r'=((q-(1:Int))).toNat/\0<=j/\j<0+([iI ((l.getD (q).toNat tCast.zero).mould),iI ((l.getD (q).toNat tCast.zero).number)]:List V).length then([iI ((l.getD (q).toNat tCast.zero).mould),iI ((l.getD (q).toNat tCast.zero).number)]:List V).getD (j-0) uU else(fun r' j=>if r'=(q).toNat/\0<=j/\j<0+([iI ((l.getD ((q-(1:Int))).toNat tCast.zero).mould),iI ((l.getD ((q-(1:Int))).toNat tCast.zero).number)]:List V).length then([iI ((l.getD ((q-(1:Int))).toNat tCast.zero).mould),iI ((l.getD ((q-(1:Int))).toNat tCast.zero).number)]:List V).getD (j-0) uU else(rowsOf tCast l) r' j) r' j)],[]⟩)))) (by kernel_rfl) ?_
  simp only[DT.holds];repeat' (first|exact rfl|refine And.intro ?_ ?_)
  all_goals first|(simp;done)|(simp;omega)|(simp only[Bool.and_eq_true,decide_eq_true_eq];refine⟨⟨by omega,by simp⟩,rfl⟩)
inductive P193
 |e
 |l0 (x0_8:Int) (a0_0:List Cast)
 |l1 (x0_8:Int) (x1_9:Int) (a1_0:List Cast)
inductive R193
 |r0 (r0:List Cast)
noncomputable def T193(n:Nat)(l:List Cast):P193->Tr P193 R193
 |.e=>(.need (inR .i64 ((0:Int)+(1:Int))) (.go (.l0 ((0:Int)+(1:Int)) l)))
 |.l0 x0_8 a0_0=>(.br (decide (x0_8<(n:Int))) (.go (.l1 x0_8 x0_8 a0_0)) (.out (.r0 a0_0)))
 |.l1 x0_8 x1_9 a1_0=>let c2:=a1_0.getD (x1_9).toNat tCast.zero;let c3:=x1_9-(1:Int);let c1:=a1_0.getD (c3).toNat tCast.zero;let c4:List V:=[iI (c2.mould),iI (c2.number)];let c5:List V:=[iI (c1.mould),iI (c1.number)];let c6:Tr P193 R193:=.need (inR .i64 (x0_8+(1:Int))) (.go (.l0 (x0_8+(1:Int)) a1_0));let c7:=decide (x1_9>(0:Int));let c8:=(a1_0.set ((x1_9).toNat) c1).set ((c3).toNat) c2;let c9:=rowsOf tCast a1_0;let c10:=(c5:List V);let c11:=(c4:List V);(.br c7 (.front [(14,106,[.agg c4,.agg c5],iI (cmpC c2 c1))] [(3,true)] (((c7==true)&&(((decide (0<=x1_9)&&decide (x1_9<(n:Int)))&&decide (n<=n))&&((decide ((x1_9).toNat<n)&&decide (0+2<=2))&&((inR .i64 c3)&&(((decide (0<=c3)&&decide (c3<(n:Int)))&&decide (n<=n))&&((decide ((c3).toNat<n)&&decide (0+2<=2))&&true))))))&&true) true (.br (decide ((cmpC c2 c1)<(0:Int))) (.wait 3 (.drop ⟨([.nil,.nil,.nil,.nil,uU,uU,uU,uU,.nil,.nil]++ud 43),[.void],[]⟩ (.over (regionOf Tryz.f193 6) ⟨([.row 0 n,iI 0,iI (n:Int),fF 106,uU,uU,uU,uU,iI x0_8,iI x1_9]++ud 43),[.rows 84 2 n c9],[]⟩ .normal ⟨([.row 0 n,iI 0,iI (n:Int),fF 106,uU,uU,uU,uU,iI x0_8,iI x1_9]++ud 27++ [.row 0 n,iI x1_9,.row 0 n,iI x1_9,iI c3,.row 0 n,iI x1_9,iI c3,.ref 0 ((c3).toNat) 0,.agg c5,.row 0 n,iI x1_9,.ref 0 ((x1_9).toNat) 0,.agg c4,.ref 0 ((x1_9).toNat) 0,.ref 0 ((c3).toNat) 0]),[.rows 84 2 n (fun r' j=>if r'=(c3).toNat/\0<=j/\j<0+c11.length then c11.getD (j-0) uU else(fun r' j=>if r'=(x1_9).toNat/\0<=j/\j<0+c10.length then c10.getD (j-0) uU else c9 r' j) r' j)],[]⟩ true (.telb 0 2 n (fun r' j=>if r'=(c3).toNat/\0<=j/\j<0+c11.length then c11.getD (j-0) uU else(fun r' j=>if r'=(x1_9).toNat/\0<=j/\j<0+c10.length then c10.getD (j-0) uU else c9 r' j) r' j) (rowsOf tCast c8) (.need (inR .i64 c3) (.go (.l1 x0_8 c3 c8))))))) c6)) (.front [] [(3,false)] (((c7==false)&&true)&&true) true (.lit false c6)))
noncomputable def g193(n:Nat)(l:List Cast):P193->List Item × St
 |.e=>([.code (Tryz.f193.body.getD .skip)],⟨[.row 0 n,iI 0,iI (n:Int),fF 106]++List.replicate 49 uU,[.rows 84 2 n (rowsOf tCast l)],[]⟩)
 |.l0 x0_8 a0_0=>(cutOf Tryz.f193 0,⟨mk 53 [(0,.row 0 n),(1,iI 0),(2,iI (n:Int)),(3,fF 106),(8,iI x0_8)],[.rows 84 2 n (rowsOf tCast a0_0)],[]⟩)
 |.l1 x0_8 x1_9 a1_0=>(cutOf Tryz.f193 1,⟨mk 53 [(0,.row 0 n),(1,iI 0),(2,iI (n:Int)),(3,fF 106),(8,iI x0_8),(9,iI x1_9)],[.rows 84 2 n (rowsOf tCast a1_0)],[]⟩)
noncomputable def n193(n:Nat)(l:List Cast):R193->Exit × St
 |.r0 r0=>(.normal,⟨mk 53 [],[.rows 84 2 n (rowsOf tCast r0)],[]⟩)
theorem s193(n:Nat)(l:List Cast):Sm 1 (g193 n l) (T193 n l) (n193 n l)
 |.e=>⟨400,by kernel_rfl⟩
 |.l0 _ _=>⟨400,by kernel_rfl⟩
 |.l1 _ _ _=>⟨400,by kernel_rfl⟩
noncomputable def hh193(n:Nat)(l:List Cast):R193->List Blk
 |.r0 r0=>[.rows 84 2 n (rowsOf tCast r0)]
noncomputable def v193(n:Nat)(l:List Cast):R193->V
 |.r0 r0=>.tuple []
theorem q193(n:Nat)(l:List Cast):∀r,((n193 n l r).1=.normal\/(n193 n l r).1=.ret)/\(n193 n l r).2.d=[]/\(n193 n l r).2.h=hh193 n l r/\resultV Tryz.prog Tryz.f193 (n193 n l r).2=some (v193 n l r)
 |.r0 r0=>⟨.inl rfl,rfl,rfl,by kernel_rfl⟩
theorem w193(n:Nat)(l:List Cast){V0:V}{h':List Blk}(h:WP Tryz.prog ⟨none,1⟩ (T193 n l) (Ends' fun r=>v193 n l r=V0/\hh193 n l r=h') .e):HCalls Tryz.prog 193 [.row 0 n,iI 0,iI (n:Int),fF 106] V0 [.rows 84 2 n (rowsOf tCast l)] h':=
 HCalls.wp mx Tryz.func193 (by kernel_rfl) (by kernel_rfl) (T193 n l) (g193 n l) (n193 n l) .e rfl (s193 n l) h fun r hr=>by rw[<-hr.1,<-hr.2];exact q193 n l r
theorem w193_in(l0:List Cast)(n i:Nat)(φ:P193⊕R193->Prop)(hn:n<=1000):∀(j:Nat) (l:List Cast),(∀c∈l,CastB c)->l.length=n->j<n->WP Tryz.prog ⟨none,1⟩ (T193 n l0) φ (.l0 ((i:Int)+1) (sift j l))->i<n->WP Tryz.prog ⟨none,1⟩ (T193 n l0) φ (.l1 (i:Int) (j:Int) l)
 |0,l,hA,hl,hj,hend,hi=>by
  have hr:inR .i64 ((i:Int)+1)=true:=inR64 (by omega) (by omega);refine WP.step ?_;have h0:¬((0:Nat):Int)>0:=by omega
  simp only[T193,Tr.sure,h0,decide_false,Bool.false_eq_true,false_imp_iff,true_and,true_imp_iff,hr,Go];exact⟨rfl,fun c hc=>by simp at hc,hend⟩
 |j+1,l,hA,hl,hj,hend,hi=>by
  have hr:inR .i64 ((i:Int)+1)=true:=inR64 (by omega) (by omega);have hr2:inR .i64 (((j+1:Nat):Int)-1)=true:=inR64 (by omega) (by omega);have e1:(((j+1:Nat):Int)).toNat=j+1:=Int.toNat_natCast _;have e2:((j+1:Nat):Int)-1=(j:Int):=by omega
  have e3:((j:Int)).toNat=j:=Int.toNat_natCast _;have q1:((j+1:Nat):Int)>0:=by omega
  have q2:((j+1:Nat):Int)<(n:Int):=by omega
  have q3:(0:Int)<=((j+1:Nat):Int):=by omega
  have q4:(j:Int)<(n:Int):=by omega
  have q5:(0:Int)<=(j:Int):=by omega
  have q6:j+1<n:=hj;have q7:j<n:=by omega
  have k106:=c106 (l.getD (j+1) zCast) (l.getD j zCast) (castB_get hA _) (castB_get hA _);have kov:=ov193_6 l n (i:Int) ((j+1:Nat):Int) (by omega) (by omega) hr2;have hset:((l.set (j+1) (l.getD j zCast)).set j (l.getD (j+1) zCast)).length=n:=by simpa using hl
  have hln:=hl.symm;rw[e2]at hr2;simp only[e1,e2,e3,z5]at kov;unfold sift at hend;by_cases hb:cmpC (l.getD (j+1) zCast) (l.getD j zCast)<0
  ·rw[if_pos hb]at hend;have ih:=w193_in l0 n i φ hn j _ (castB_swap hA _ _) hset q7 hend hi;have hc':cmpC (l.getD (j+1) zCast) (l.getD j zCast)<0:=hb;clear hA hb hl hset
   refine WP.step ?_;simp only[T193,Go,Ends',v193,Tr.sure,SS,e1,e2,e3,q1,q2,z5,hc'];repeat' with_reducible first|intro _|apply aI
   all_goals first|exact(by with_reducible assumption)|exact(by omega)|exact k106|exact(by with_reducible exact tel_cast2 _ _ _ _ _ hln _ _ ‹_› ‹_›)
  ·rw[if_neg hb]at hend;have hc':¬cmpC (l.getD (j+1) zCast) (l.getD j zCast)<0:=hb;clear hA hb hl hset
   refine WP.step ?_;simp only[T193,Go,Ends',v193,Tr.sure,SS,e1,e2,e3,q1,q2,z5,hc'];repeat' with_reducible first|intro _|apply aI
   all_goals first|exact(by with_reducible assumption)|exact(by omega)|exact k106
theorem c193(n:Nat)(l:List Cast)(hA:∀c∈l,CastB c)(hl:l.length=n)(h0:0<n)(hn:n<=1000):HCalls Tryz.prog 193 [.row 0 n,iI 0,iI (n:Int),fF 106] (.tuple []) [.rows 84 2 n (rowsOf tCast l)] [.rows 84 2 n (rowsOf tCast (isortN l n))]:=by
 have r0:inR .i64 ((0:Int)+1)=true:=by decide
 have hmain:WP Tryz.prog ⟨none,1⟩ (T193 n l) (Ends' fun r=>v193 n l r=.tuple []/\hh193 n l r=[.rows 84 2 n (rowsOf tCast (isortN l n))]) (.l0 (0+1) l):=by
  refine WP.count (fun k=>.l0 (0+1+(k:Int)) (isortN l (k+1))) (by simp;rfl) (n-1) (fun _=>True) trivial (fun k hk _=> ?_) fun _=> ?_
  ·have hk':(0:Int)+1+(k:Int)<n:=by omega
   have e:(0:Int)+1+(k:Int)=((k+1:Nat):Int):=by omega
   have e2:(0:Int)+1+((k+1:Nat):Int)=((k+1:Nat):Int)+1:=by omega
   have es:isortN l (k+1+1)=sift (k+1) (isortN l (k+1)):=rfl;have hw:=w193_in l n (k+1) (fun x=>(x=.inl (.l0 (((k+1:Nat):Int)+1) (isortN l (k+1+1)))/\True)\/Go Tryz.prog ⟨none,1⟩ (T193 n l) (Ends' fun r=>v193 n l r=.tuple []/\hh193 n l r=[.rows 84 2 n (rowsOf tCast (isortN l n))]) x) hn (k+1) (isortN l (k+1)) (isort_castB hA _) (by rw[isortN_len,hl]) (by omega) (by rw[es];exact WP.stop (.inl ⟨rfl,trivial⟩)) (by omega)
   rw[e]at hk'⊢;rw[e2];refine WP.step ?_;simp only[T193,Tr.sure,hk',decide_true,true_imp_iff,Bool.true_eq_false,false_imp_iff,and_true,Go]
   exact hw.mono fun x hx=>by
    rcases hx with⟨h,_⟩|h
    ·exact .inl h
    ·exact .inr h
  ·have e:(0:Int)+1+((n-1:Nat):Int)=n:=by omega
   have e2:n-1+1=n:=by omega
   rw[e,e2];refine WP.step ?_;simp only[T193,Tr.sure,Int.lt_irrefl,decide_false,Bool.false_eq_true,false_imp_iff,true_and,true_imp_iff];exact⟨rfl,rfl⟩
 refine w193 n l (WP.step ?_);simp only[T193,Tr.sure];exact⟨r0,fun _=>hmain⟩
inductive P150
 |e
 |l0
inductive R150
 |r0 (r0:List Cast)
noncomputable def T150(n:Nat)(l:List Cast)(lim:Int):P150->Tr P150 R150
 |.e=>(.go (.l0))
 |.l0=>(.need (inR .i64 ((n:Int)-(0:Int))) (.br (decide (((n:Int)-(0:Int))<=(12:Int))) (.hcall 193 [.row 0 n,iI 0,iI (n:Int),fF 106] (.tuple []) [.rows 84 2 n (rowsOf tCast l)] [.rows 84 2 n (rowsOf tCast (isortN l n))] true (.out (.r0 (isortN l n)))) (.wait 3 .never)))
noncomputable def g150(n:Nat)(l:List Cast)(lim:Int):P150->List Item × St
 |.e=>([.code (Tryz.f150.body.getD .skip)],⟨[.row 0 n,iI 0,iI (n:Int),iI lim,fF 106]++List.replicate 143 uU,[.rows 84 2 n (rowsOf tCast l)],[]⟩)
 |.l0=>(cutOf Tryz.f150 0,⟨mk 148 [(0,.row 0 n),(1,iI 0),(2,iI (n:Int)),(3,iI lim),(4,fF 106),(10,.bool true),(11,.bool true)],[.rows 84 2 n (rowsOf tCast l)],[]⟩)
noncomputable def n150(n:Nat)(l:List Cast):R150->Exit × St
 |.r0 r0=>(.ret,⟨mk 148 [],[.rows 84 2 n (rowsOf tCast r0)],[]⟩)
theorem s150(n:Nat)(l:List Cast)(lim:Int):Sm 1 (g150 n l lim) (T150 n l lim) (n150 n l)
 |.e=>⟨400,by kernel_rfl⟩
 |.l0=>⟨400,by kernel_rfl⟩
noncomputable def hh150(n:Nat)(l:List Cast):R150->List Blk
 |.r0 r0=>[.rows 84 2 n (rowsOf tCast r0)]
noncomputable def v150(n:Nat)(l:List Cast):R150->V
 |.r0 r0=>.tuple []
theorem q150(n:Nat)(l:List Cast):∀r,((n150 n l r).1=.normal\/(n150 n l r).1=.ret)/\(n150 n l r).2.d=[]/\(n150 n l r).2.h=hh150 n l r/\resultV Tryz.prog Tryz.f150 (n150 n l r).2=some (v150 n l r)
 |.r0 r0=>⟨.inr rfl,rfl,rfl,by kernel_rfl⟩
theorem w150(n:Nat)(l:List Cast)(lim:Int){V0:V}{h':List Blk}(h:WP Tryz.prog ⟨none,1⟩ (T150 n l lim) (Ends' fun r=>v150 n l r=V0/\hh150 n l r=h') .e):HCalls Tryz.prog 150 [.row 0 n,iI 0,iI (n:Int),iI lim,fF 106] V0 [.rows 84 2 n (rowsOf tCast l)] h':=
 HCalls.wp mx Tryz.func150 (by kernel_rfl) (by kernel_rfl) (T150 n l lim) (g150 n l lim) (n150 n l) .e rfl (s150 n l lim) h fun r hr=>by rw[<-hr.1,<-hr.2];exact q150 n l r
theorem c150(n:Nat)(l:List Cast)(lim:Int)(hA:∀c∈l,CastB c)(hl:l.length=n)(h0:0<n)(hn:n<=12):HCalls Tryz.prog 150 [.row 0 n,iI 0,iI (n:Int),iI lim,fF 106] (.tuple []) [.rows 84 2 n (rowsOf tCast l)] [.rows 84 2 n (rowsOf tCast (isortN l n))]:=by
 have k:=c193 n l hA hl h0 (by omega);have hr:inR .i64 ((n:Int)-0)=true:=inR64 (by omega) (by omega);have hle:(n:Int)-0<=12:=by omega
 have hmain:WP Tryz.prog ⟨none,1⟩ (T150 n l lim) (Ends' fun r=>v150 n l r=.tuple []/\hh150 n l r=[.rows 84 2 n (rowsOf tCast (isortN l n))]) .l0:=by
  refine WP.step ?_;simp only[T150,Tr.sure,hle,decide_true,true_imp_iff,Bool.true_eq_false,false_imp_iff,and_true];exact⟨hr,fun _=>⟨k,rfl,rfl⟩⟩
 refine w150 n l lim (WP.step ?_);simp only[T150,Tr.sure];exact hmain
def len8:ByteArray:=ByteArray.mk #[0,1,2,2,3,3,3,3,4,4,4,4,4,4,4,4,5,5,5,5,5,5,5,5,5,5,5,5,5,5,5,5,6,6,6,6,6,6,6,6,6,6,6,6,6,6,6,6,6,6,6,6,6,6,6,6,6,6,6,6,6,6,6,6,7,7,7,7,7,7,7,7,7,7,7,7,7,7,7,7,7,7,7,7,7,7,7,7,7,7,7,7,7,7,7,7,7,7,7,7,7,7,7,7,7,7,7,7,7,7,7,7,7,7,7,7,7,7,7,7,7,7,7,7,7,7,7,7,8,8,8,8,8,8,8,8,8,8,8,8,8,8,8,8,8,8,8,8,8,8,8,8,8,8,8,8,8,8,8,8,8,8,8,8,8,8,8,8,8,8,8,8,8,8,8,8,8,8,8,8,8,8,8,8,8,8,8,8,8,8,8,8,8,8,8,8,8,8,8,8,8,8,8,8,8,8,8,8,8,8,8,8,8,8,8,8,8,8,8,8,8,8,8,8,8,8,8,8,8,8,8,8,8,8,8,8,8,8,8,8,8,8,8,8,8,8,8,8,8,8,8,8,8,8,8,8]
inductive P202
 |e
inductive R202
 |r0 (r0:Int)
noncomputable def T202(s:Int):P202->Tr P202 R202
 |.e=>let c1:=((len8.data.getD ((IntKind.wrap .u8 s)).toNat 0).toNat:Int);let c2:Tr P202 R202:=.wait 1 .never;(.br (decide (s≥(4294967296:Int))) c2 (.br (decide (s≥(65536:Int))) c2 (.br (decide (s≥(256:Int))) c2 (.need true (.need (decide (0<=(IntKind.wrap .u8 s))&&decide ((IntKind.wrap .u8 s)<(len8.size:Int))) (.need (inR .i64 c1) (.need (inR .i64 ((0:Int)+c1)) (.out (.r0 ((0:Int)+c1))))))))))
noncomputable def g202(s:Int):P202->List Item × St
 |.e=>bd Tryz.f202 [.int .u64 s] 24
noncomputable def n202:R202->Exit × St
 |.r0 r0=>(.ret,⟨mk 25 [(2,iI r0)],[],[]⟩)
noncomputable def v202:R202->V
 |.r0 r0=>iI r0
theorem s202(s:Int):Sm 0 (g202 s) (T202 s) (n202)
 |.e=>⟨400,by kernel_rfl⟩
theorem q202:∀r,bodyQ Tryz.prog Tryz.f202 (·=v202 r) (n202 r).1 (n202 r).2
 |.r0 r0=>bq (iI r0) (by kernel_rfl)
theorem w202(s:Int){post:V->Prop}(h:WQ (T202 s) v202 post .e):PC 202 [.int .u64 s] post:=
 PCalls.wq Tryz.func202 (s202 s) q202 h
def lenB(s:Int):Int:=0+((len8.data.getD (IntKind.wrap .u8 s).toNat 0).toNat:Int)
theorem lenB_small:∀k:Fin 13,IntKind.wrap .u8 ((k:Nat):Int)=((k:Nat):Int)/\0<=lenB ((k:Nat):Int)/\lenB ((k:Nat):Int)<=255:=by decide
theorem c202(s:Int)(h:0<=s/\s<=12):PC 202 [.int .u64 s] (·=iI (lenB s)):=by
 obtain⟨k,rfl⟩:∃k:Fin 13,s=((k:Nat):Int):=⟨⟨s.toNat,by omega⟩,by simp only;omega⟩
 obtain⟨h1,h2,h3⟩:=lenB_small k;have hr:inR .i64 (lenB ((k:Nat):Int))=true:=inR64 (by omega) (by omega);have hs:(len8.size:Int)=256:=by decide
 have q1:¬((k:Nat):Int)≥4294967296:=by omega
 have q2:¬((k:Nat):Int)≥65536:=by omega
 have q3:¬((k:Nat):Int)≥256:=by omega
 have q4:(0:Int)<=IntKind.wrap .u8 ((k:Nat):Int):=by omega
 have q5:IntKind.wrap .u8 ((k:Nat):Int)<(len8.size:Int):=by omega
 refine w202 _ (WP.step ?_);simp only[T202,Tr.sure,q1,q2,q3,decide_false,Bool.false_eq_true,false_imp_iff,true_imp_iff,true_and,q4,q5,decide_true,Bool.and_self];have hr1:inR .i64 ((len8.data.getD (IntKind.wrap .u8 ((k:Nat):Int)).toNat 0).toNat:Int)=true:=by unfold lenB at hr;rwa[Int.zero_add]at hr
 exact⟨hr1,fun _=>⟨hr,fun _=>rfl⟩⟩
inductive P151
 |e
inductive R151
 |r0 (r0:Int)
noncomputable def T151(s:Int):P151->Tr P151 R151
 |.e=>(.lit false (.call 202 [.int .u64 s] (iI (lenB s)) true true (.out (.r0 (lenB s)))))
noncomputable def g151(s:Int):P151->List Item × St
 |.e=>bd Tryz.f151 [.int .u64 s] 7
noncomputable def n151:R151->Exit × St
 |.r0 r0=>(.ret,⟨mk 8 [(2,iI r0)],[],[]⟩)
noncomputable def v151:R151->V
 |.r0 r0=>iI r0
theorem s151(s:Int):Sm 0 (g151 s) (T151 s) (n151)
 |.e=>⟨400,by kernel_rfl⟩
theorem q151:∀r,bodyQ Tryz.prog Tryz.f151 (·=v151 r) (n151 r).1 (n151 r).2
 |.r0 r0=>bq (iI r0) (by kernel_rfl)
theorem w151(s:Int){post:V->Prop}(h:WQ (T151 s) v151 post .e):PC 151 [.int .u64 s] post:=
 PCalls.wq Tryz.func151 (s151 s) q151 h
theorem c151(s:Int)(h:0<=s/\s<=12):PC 151 [.int .u64 s] (·=iI (lenB s)):=by
 refine w151 _ (WP.step ?_);simp only[T151,Go,Ends',v151,Tr.sure,SS];repeat' with_reducible first|intro _|apply aI
 all_goals exact c202 s h
inductive P105
 |e
inductive R105
 |r0 (r0:List Cast)
noncomputable def T105(n:Nat)(l:List Cast):P105->Tr P105 R105
 |.e=>let c1:=IntKind.wrap .u64 (n:Int);(.need true (.call 151 [.int .u64 c1] (iI (lenB c1)) true true (.hcall 150 [.row 0 n,iI 0,iI (n:Int),iI (lenB c1),fF 106] (.tuple []) [.rows 84 2 n (rowsOf tCast l)] [.rows 84 2 n (rowsOf tCast (isortN l n))] true (.out (.r0 (isortN l n))))))
noncomputable def g105(n:Nat)(l:List Cast):P105->List Item × St
 |.e=>([.code (Tryz.f105.body.getD .skip)],⟨[.row 0 n,fF 106]++List.replicate 12 uU,[.rows 84 2 n (rowsOf tCast l)],[]⟩)
noncomputable def n105(n:Nat)(l:List Cast):R105->Exit × St
 |.r0 r0=>(.normal,⟨mk 14 [],[.rows 84 2 n (rowsOf tCast r0)],[]⟩)
theorem s105(n:Nat)(l:List Cast):Sm 1 (g105 n l) (T105 n l) (n105 n l)
 |.e=>⟨400,by kernel_rfl⟩
noncomputable def hh105(n:Nat)(l:List Cast):R105->List Blk
 |.r0 r0=>[.rows 84 2 n (rowsOf tCast r0)]
noncomputable def v105(n:Nat)(l:List Cast):R105->V
 |.r0 r0=>.tuple []
theorem q105(n:Nat)(l:List Cast):∀r,((n105 n l r).1=.normal\/(n105 n l r).1=.ret)/\(n105 n l r).2.d=[]/\(n105 n l r).2.h=hh105 n l r/\resultV Tryz.prog Tryz.f105 (n105 n l r).2=some (v105 n l r)
 |.r0 r0=>⟨.inl rfl,rfl,rfl,by kernel_rfl⟩
theorem w105(n:Nat)(l:List Cast){V0:V}{h':List Blk}(h:WP Tryz.prog ⟨none,1⟩ (T105 n l) (Ends' fun r=>v105 n l r=V0/\hh105 n l r=h') .e):HCalls Tryz.prog 105 [.row 0 n,fF 106] V0 [.rows 84 2 n (rowsOf tCast l)] h':=
 HCalls.wp mx Tryz.func105 (by kernel_rfl) (by kernel_rfl) (T105 n l) (g105 n l) (n105 n l) .e rfl (s105 n l) h fun r hr=>by rw[<-hr.1,<-hr.2];exact q105 n l r
theorem c105(n:Nat)(l:List Cast)(hA:∀c∈l,CastB c)(hl:l.length=n)(h0:0<n)(hn:n<=12):HCalls Tryz.prog 105 [.row 0 n,fF 106] (.tuple []) [.rows 84 2 n (rowsOf tCast l)] [.rows 84 2 n (rowsOf tCast (isortN l n))]:=by
 have hw:=wrap32 (s:=(n:Int)) ⟨by omega,by omega⟩;have k1:=c151 (n:Int) ⟨by omega,by omega⟩;have k2:=fun lim=>c150 n l lim hA hl h0 hn;refine w105 n l (WP.step ?_);simp only[T105,Tr.sure,hw,true_imp_iff,true_and];exact⟨k1,k2 _,rfl,rfl⟩
theorem c105at(n:Nat)(l:List Cast)(hA:∀c∈l,CastB c)(hl:l.length=n)(h0:0<n)(hn:n<=12)(h:List Blk)(q:Nat)(hq:h[q]? =some (.rows 84 2 n (rowsOf tCast l))):HCalls Tryz.prog 105 [.row q n,fF 106] (.tuple []) h (h.set q (.rows 84 2 n (rowsOf tCast (isortN l n)))):=
 (c105 n l hA hl h0 hn).atRow (fun j=>match j with
  |0=>.inr (.inl ⟨n,rfl⟩)
  |1=>.inr (.inr rfl)
  |j+2=>.inr (.inr rfl)) (.inr rfl) h0 hq
end
noncomputable section
def cpS(l:List Span)(f:Nat)(x:Span):Span:=if f<l.length then l.getD f zSpan else x
inductive P148
 |e
 |l0 (x0_25:Int) (c0_1_3:Int) (c0_1_4:Int) (c0_1_5:Int) (c0_1_6:Int) (c0_1_7:Int) (c0_1_8:Int) (c0_1_9:Int) (c0_1_10:Int) (c0_1_11:Int) (c0_1_12:Int) (c0_1_13:Int) (c0_1_14:Int) (c0_1_15:Int) (c0_1_16:Int) (c0_1_17:Int) (c0_1_18:Int)
inductive R148
 |r0 (r1:Int)
 |r1 (r0_0:Int) (r0_1:List Mould) (r0_2:List Head) (r0_3:Int) (r0_4:Int) (r0_5:Int) (r0_6:Int) (r0_7:Int) (r0_8:Int) (r0_9:Int) (r0_10:Int) (r0_11:Int) (r0_12:Int) (r0_13:Int) (r0_14:Int) (r0_15:Int) (r0_16:Int) (r0_17:Int) (r0_18:Int) (r1:Int)
noncomputable def T148(s:Shop):P148->Tr P148 R148
 |.e=>let c1:=shopCheck s;(.call 57 [.agg (tShop.cells s)] (.tuple [iI (c1.1),iI (c1.2.1),iI (c1.2.2)]) true true (.br (c1.2.2 !=(0:Int)) (.out (.r0 (c1.2.2))) (.go (.l0 0 0 0 0 0 0 0 0 0 0 0 0 0 0 0 0 0))))
 |.l0 x0_25 c0_1_3 c0_1_4 c0_1_5 c0_1_6 c0_1_7 c0_1_8 c0_1_9 c0_1_10 c0_1_11 c0_1_12 c0_1_13 c0_1_14 c0_1_15 c0_1_16 c0_1_17 c0_1_18=>let c1:=s.moulds.getD (x0_25).toNat tMould.zero;let c3:=cpS (c1.lasts) 3 (⟨c0_1_17,c0_1_18⟩);let c4:=cpS (c1.lasts) 2 (⟨c0_1_15,c0_1_16⟩);let c5:=cpS (c1.lasts) 1 (⟨c0_1_13,c0_1_14⟩);let c6:=cpS (c1.lasts) 0 (⟨c0_1_11,c0_1_12⟩);let c7:=cpS (c1.lasts) 3 (⟨c0_1_9,c0_1_10⟩);let c8:=cpS (c1.lasts) 2 (⟨c0_1_7,c0_1_8⟩);let c9:=cpS (c1.lasts) 1 (⟨c0_1_5,c0_1_6⟩);let c10:=cpS (c1.lasts) 0 (⟨c0_1_3,c0_1_4⟩);let c11:=((decide (0<=(0:Int))&&decide ((0:Int)<=(4:Int)))&&decide ((4:Int)<=(4:Int)))&&true;let c12:List V:=[.str (c1.name),iI (c1.casts),tSpan.lst (c1.lasts)];let c2:List Blk:=[.gone,.cells [iI s.features,tMould.lst s.moulds,tHead.lst s.heads,iI c0_1_3,iI c0_1_4,iI c0_1_5,iI c0_1_6,iI c0_1_7,iI c0_1_8,iI c0_1_9,iI c0_1_10,iI c0_1_11,iI c0_1_12,iI c0_1_13,iI c0_1_14,iI c0_1_15,iI c0_1_16,iI c0_1_17,iI c0_1_18],.cells c12];let c13:=x0_25+(1:Int);let c14:=x0_25<(s.moulds.length:Int);let c15:=iI (c1.lasts.length:Int);(.br (decide c14) (.need (decide (0<=x0_25)&&decide c14) (.cas (decide (x0_25=0)) (.vle 8 (iI x0_25) (iI 0) (.front [] [] ((((decide (0<=(0:Int))&&decide ((0:Int)<(2:Int)))&&true)&&c11)&&true) true (.sem (opAt Tryz.f148 8 8) [(.tmp 35,.sub 1 0 3 2 4),(.tmp 37,tSpan.lst (c1.lasts))] c2 c15 [.gone,.cells [iI s.features,tMould.lst s.moulds,tHead.lst s.heads,iI (c10.lo),iI (c10.hi),iI (c9.lo),iI (c9.hi),iI (c8.lo),iI (c8.hi),iI (c7.lo),iI (c7.hi),iI c0_1_11,iI c0_1_12,iI c0_1_13,iI c0_1_14,iI c0_1_15,iI c0_1_16,iI c0_1_17,iI c0_1_18],.cells c12] true (.need (inR .i64 c13) (.go (.l0 c13 (c10.lo) (c10.hi) (c9.lo) (c9.hi) (c8.lo) (c8.hi) (c7.lo) (c7.hi) c0_1_11 c0_1_12 c0_1_13 c0_1_14 c0_1_15 c0_1_16 c0_1_17 c0_1_18)))))) (.cas (decide (x0_25=1)) (.vle 8 (iI x0_25) (iI 1) (.front [] [] ((((decide (0<=(1:Int))&&decide ((1:Int)<(2:Int)))&&true)&&c11)&&true) true (.sem (opAt Tryz.f148 8 8) [(.tmp 35,.sub 1 0 11 2 4),(.tmp 37,tSpan.lst (c1.lasts))] c2 c15 [.gone,.cells [iI s.features,tMould.lst s.moulds,tHead.lst s.heads,iI c0_1_3,iI c0_1_4,iI c0_1_5,iI c0_1_6,iI c0_1_7,iI c0_1_8,iI c0_1_9,iI c0_1_10,iI (c6.lo),iI (c6.hi),iI (c5.lo),iI (c5.hi),iI (c4.lo),iI (c4.hi),iI (c3.lo),iI (c3.hi)],.cells c12] true (.need (inR .i64 c13) (.go (.l0 c13 c0_1_3 c0_1_4 c0_1_5 c0_1_6 c0_1_7 c0_1_8 c0_1_9 c0_1_10 (c6.lo) (c6.hi) (c5.lo) (c5.hi) (c4.lo) (c4.hi) (c3.lo) (c3.hi))))))) .never))) (.out (.r1 s.features s.moulds s.heads c0_1_3 c0_1_4 c0_1_5 c0_1_6 c0_1_7 c0_1_8 c0_1_9 c0_1_10 c0_1_11 c0_1_12 c0_1_13 c0_1_14 c0_1_15 c0_1_16 c0_1_17 c0_1_18 0)))
noncomputable def g148(s:Shop):P148->List Item × St
 |.e=>bd Tryz.f148 [.agg (tShop.cells s)] 40
 |.l0 x0_25 c0_1_3 c0_1_4 c0_1_5 c0_1_6 c0_1_7 c0_1_8 c0_1_9 c0_1_10 c0_1_11 c0_1_12 c0_1_13 c0_1_14 c0_1_15 c0_1_16 c0_1_17 c0_1_18=>(cutOf Tryz.f148 0,⟨mk 41 [(7,.ref 1 0 0),(23,tMould.lst s.moulds),(24,iI (s.moulds.length:Int)),(25,iI x0_25)],[.gone,.cells [iI s.features,tMould.lst s.moulds,tHead.lst s.heads,iI c0_1_3,iI c0_1_4,iI c0_1_5,iI c0_1_6,iI c0_1_7,iI c0_1_8,iI c0_1_9,iI c0_1_10,iI c0_1_11,iI c0_1_12,iI c0_1_13,iI c0_1_14,iI c0_1_15,iI c0_1_16,iI c0_1_17,iI c0_1_18]],[]⟩)
noncomputable def n148:R148->Exit × St
 |.r0 r1=>(.ret,⟨mk 41 [(2,.nil),(3,iI r1)],[],[]⟩)
 |.r1 r0_0 r0_1 r0_2 r0_3 r0_4 r0_5 r0_6 r0_7 r0_8 r0_9 r0_10 r0_11 r0_12 r0_13 r0_14 r0_15 r0_16 r0_17 r0_18 r1=>(.ret,⟨mk 41 [(2,.ref 1 0 0),(3,iI r1)],[.gone,.cells [iI r0_0,tMould.lst r0_1,tHead.lst r0_2,iI r0_3,iI r0_4,iI r0_5,iI r0_6,iI r0_7,iI r0_8,iI r0_9,iI r0_10,iI r0_11,iI r0_12,iI r0_13,iI r0_14,iI r0_15,iI r0_16,iI r0_17,iI r0_18]],[]⟩)
noncomputable def v148:R148->V
 |.r0 r1=>.tuple [.nil,iI r1]
 |.r1 r0_0 r0_1 r0_2 r0_3 r0_4 r0_5 r0_6 r0_7 r0_8 r0_9 r0_10 r0_11 r0_12 r0_13 r0_14 r0_15 r0_16 r0_17 r0_18 r1=>.tuple [.cref 19 fun q=>([iI r0_0,tMould.lst r0_1,tHead.lst r0_2,iI r0_3,iI r0_4,iI r0_5,iI r0_6,iI r0_7,iI r0_8,iI r0_9,iI r0_10,iI r0_11,iI r0_12,iI r0_13,iI r0_14,iI r0_15,iI r0_16,iI r0_17,iI r0_18]:List V).getD q uU,iI r1]
theorem s148(s:Shop):Sm 0 (g148 s) (T148 s) (n148)
 |.e=>⟨400,by kernel_rfl⟩
 |.l0 _ _ _ _ _ _ _ _ _ _ _ _ _ _ _ _ _=>⟨400,by kernel_rfl⟩
theorem q148:∀r,bodyQ Tryz.prog Tryz.f148 (·=v148 r) (n148 r).1 (n148 r).2
 |.r0 r1=>bq (.tuple [.nil,iI r1]) (by kernel_rfl)
 |.r1 r0_0 r0_1 r0_2 r0_3 r0_4 r0_5 r0_6 r0_7 r0_8 r0_9 r0_10 r0_11 r0_12 r0_13 r0_14 r0_15 r0_16 r0_17 r0_18 r1=>⟨.inr rfl,by simp[n148],(.tuple [.ref 1 0 0,iI r1]),(.tuple [.cref 19 fun q=>([iI r0_0,tMould.lst r0_1,tHead.lst r0_2,iI r0_3,iI r0_4,iI r0_5,iI r0_6,iI r0_7,iI r0_8,iI r0_9,iI r0_10,iI r0_11,iI r0_12,iI r0_13,iI r0_14,iI r0_15,iI r0_16,iI r0_17,iI r0_18]:List V).getD q uU,iI r1]),by kernel_rfl,(.tuple rfl fun j hj=>match j,hj with|0,_=>.weak (.ref (n:=19) rfl (Nat.le_refl _) (by intro j hj;match j,hj with|0,_=>exact .imm rfl|1,_=>exact .imm rfl|2,_=>exact .imm rfl|3,_=>exact .imm rfl|4,_=>exact .imm rfl|5,_=>exact .imm rfl|6,_=>exact .imm rfl|7,_=>exact .imm rfl|8,_=>exact .imm rfl|9,_=>exact .imm rfl|10,_=>exact .imm rfl|11,_=>exact .imm rfl|12,_=>exact .imm rfl|13,_=>exact .imm rfl|14,_=>exact .imm rfl|15,_=>exact .imm rfl|16,_=>exact .imm rfl|17,_=>exact .imm rfl|18,_=>exact .imm rfl|j_+19,hj_=>exact absurd hj_ (Nat.not_lt.2 (Nat.le_add_left 19 j_)))) (VLe.refl _)|1,_=>.imm rfl),rfl⟩
theorem w148(s:Shop){post:V->Prop}(h:WQ (T148 s) v148 post .e):PC 148 [.agg (tShop.cells s)] post:=
 PCalls.wq Tryz.func148 (s148 s) q148 h
theorem four_spans{l:List Span}(h:1<=l.length/\l.length<=4):(∃a,l=[a])\/(∃a b,l=[a,b])\/(∃a b c,l=[a,b,c])\/∃a b c d,l=[a,b,c,d]:=by
 match l,h with
 |[a],_=>exact .inl ⟨a,rfl⟩
 |[a,b],_=>exact .inr (.inl ⟨a,b,rfl⟩)
 |[a,b,c],_=>exact .inr (.inr (.inl ⟨a,b,c,rfl⟩))
 |[a,b,c,d],_=>exact .inr (.inr (.inr ⟨a,b,c,d,rfl⟩))
 |_::_::_::_::_::_,h=>simp at h
theorem sem148(l:List Span)(hl:1<=l.length/\l.length<=4)(v0 v1 v2:V)(x0 x1 x2 x3 x4 x5 x6 x7 x8 x9 x10 x11 x12 x13 x14 x15:Int)(bs:List Blk):
  SemOK Tryz.prog (opAt Tryz.f148 8 8) [(.tmp 35,.sub 1 0 3 2 4),(.tmp 37,tSpan.lst l)]
   (.gone::.cells [v0,v1,v2,iI x0,iI x1,iI x2,iI x3,iI x4,iI x5,iI x6,iI x7,iI x8,iI x9,iI x10,iI x11,iI x12,iI x13,iI x14,iI x15]::bs) (iI (l.length:Int))
   (.gone::.cells [v0,v1,v2,iI (cpS l 0 ⟨x0,x1⟩).lo,iI (cpS l 0 ⟨x0,x1⟩).hi,iI (cpS l 1 ⟨x2,x3⟩).lo,iI (cpS l 1 ⟨x2,x3⟩).hi,iI (cpS l 2 ⟨x4,x5⟩).lo,iI (cpS l 2 ⟨x4,x5⟩).hi,iI (cpS l 3 ⟨x6,x7⟩).lo,iI (cpS l 3 ⟨x6,x7⟩).hi,
    iI x8,iI x9,iI x10,iI x11,iI x12,iI x13,iI x14,iI x15]::bs):=by
 have e:opAt Tryz.f148 8 8=.call {callee:=.builtin .copy,args:= #[.tmp 35,.tmp 37],argTypes:= #[138,138]}:=by kernel_rfl
 rw[e]
 have k:=sem_copyC (P:=Tryz.prog) (x:=.tmp 35) (y:=.tmp 37) (dT:=138) (sT:=138) (e:=142) (i:=1) (m:=4) (k:=l.length) (wd:=2) (off:=3)
  (h:=.gone::.cells [v0,v1,v2,iI x0,iI x1,iI x2,iI x3,iI x4,iI x5,iI x6,iI x7,iI x8,iI x9,iI x10,iI x11,iI x12,iI x13,iI x14,iI x15]::bs)
  (c:=rowsOf tSpan l) hl.2 hl.1 (by decide) Tryz.underlying138 (by kernel_rfl) rfl (by simp) (fun r _ j hj=>by
   unfold rowsOf
   rcases show j=0\/j=1 by omega with rfl|rfl<;>rfl)
 have h2:∀ {a b:List Blk},a=b->SemOK Tryz.prog (.call {callee:=.builtin .copy,args:= #[.tmp 35,.tmp 37],argTypes:= #[138,138]}) [(.tmp 35,.sub 1 0 3 2 4),(.tmp 37,tSpan.lst l)] (.gone::.cells [v0,v1,v2,iI x0,iI x1,iI x2,iI x3,iI x4,iI x5,iI x6,iI x7,iI x8,iI x9,iI x10,iI x11,iI x12,iI x13,iI x14,iI x15]::bs) (iI (l.length:Int)) a->
   SemOK Tryz.prog (.call {callee:=.builtin .copy,args:= #[.tmp 35,.tmp 37],argTypes:= #[138,138]}) [(.tmp 35,.sub 1 0 3 2 4),(.tmp 37,tSpan.lst l)] (.gone::.cells [v0,v1,v2,iI x0,iI x1,iI x2,iI x3,iI x4,iI x5,iI x6,iI x7,iI x8,iI x9,iI x10,iI x11,iI x12,iI x13,iI x14,iI x15]::bs) (iI (l.length:Int)) b:=fun q z=>q▸z
 refine h2 ?_ k;rcases four_spans hl with⟨a,rfl⟩|⟨a,b,rfl⟩|⟨a,b,c,rfl⟩|⟨a,b,c,d,rfl⟩<;>kernel_rfl
theorem sem148b(l:List Span)(hl:1<=l.length/\l.length<=4)(v0 v1 v2:V)(x0 x1 x2 x3 x4 x5 x6 x7 x8 x9 x10 x11 x12 x13 x14 x15:Int)(bs:List Blk):
  SemOK Tryz.prog (opAt Tryz.f148 8 8) [(.tmp 35,.sub 1 0 11 2 4),(.tmp 37,tSpan.lst l)]
   (.gone::.cells [v0,v1,v2,iI x0,iI x1,iI x2,iI x3,iI x4,iI x5,iI x6,iI x7,iI x8,iI x9,iI x10,iI x11,iI x12,iI x13,iI x14,iI x15]::bs) (iI (l.length:Int))
   (.gone::.cells [v0,v1,v2,iI x0,iI x1,iI x2,iI x3,iI x4,iI x5,iI x6,iI x7,iI (cpS l 0 ⟨x8,x9⟩).lo,iI (cpS l 0 ⟨x8,x9⟩).hi,iI (cpS l 1 ⟨x10,x11⟩).lo,iI (cpS l 1 ⟨x10,x11⟩).hi,iI (cpS l 2 ⟨x12,x13⟩).lo,iI (cpS l 2 ⟨x12,x13⟩).hi,iI (cpS l 3 ⟨x14,x15⟩).lo,iI (cpS l 3 ⟨x14,x15⟩).hi]::bs):=by
 have e:opAt Tryz.f148 8 8=.call {callee:=.builtin .copy,args:= #[.tmp 35,.tmp 37],argTypes:= #[138,138]}:=by kernel_rfl
 rw[e]
 have k:=sem_copyC (P:=Tryz.prog) (x:=.tmp 35) (y:=.tmp 37) (dT:=138) (sT:=138) (e:=142) (i:=1) (m:=4) (k:=l.length) (wd:=2) (off:=11)
  (h:=.gone::.cells [v0,v1,v2,iI x0,iI x1,iI x2,iI x3,iI x4,iI x5,iI x6,iI x7,iI x8,iI x9,iI x10,iI x11,iI x12,iI x13,iI x14,iI x15]::bs)
  (c:=rowsOf tSpan l) hl.2 hl.1 (by decide) Tryz.underlying138 (by kernel_rfl) rfl (by simp) (fun r _ j hj=>by
   unfold rowsOf
   rcases show j=0\/j=1 by omega with rfl|rfl<;>rfl)
 have h2:∀ {a b:List Blk},a=b->SemOK Tryz.prog (.call {callee:=.builtin .copy,args:= #[.tmp 35,.tmp 37],argTypes:= #[138,138]}) [(.tmp 35,.sub 1 0 11 2 4),(.tmp 37,tSpan.lst l)] (.gone::.cells [v0,v1,v2,iI x0,iI x1,iI x2,iI x3,iI x4,iI x5,iI x6,iI x7,iI x8,iI x9,iI x10,iI x11,iI x12,iI x13,iI x14,iI x15]::bs) (iI (l.length:Int)) a->
   SemOK Tryz.prog (.call {callee:=.builtin .copy,args:= #[.tmp 35,.tmp 37],argTypes:= #[138,138]}) [(.tmp 35,.sub 1 0 11 2 4),(.tmp 37,tSpan.lst l)] (.gone::.cells [v0,v1,v2,iI x0,iI x1,iI x2,iI x3,iI x4,iI x5,iI x6,iI x7,iI x8,iI x9,iI x10,iI x11,iI x12,iI x13,iI x14,iI x15]::bs) (iI (l.length:Int)) b:=fun q z=>q▸z
 refine h2 ?_ k;rcases four_spans hl with⟨a,rfl⟩|⟨a,b,rfl⟩|⟨a,b,c,rfl⟩|⟨a,b,c,d,rfl⟩<;>kernel_rfl
def lookTo(s:Shop)(i:Nat):Nat->Nat->Span:=fun m f=>if m<i then cpS (s.moulds.getD m zMould).lasts f ⟨0,0⟩else⟨0,0⟩
def lookM(s:Shop):Nat->Nat->Span:=lookTo s s.moulds.length
def pt148(s:Shop)(i:Nat):P148:=.l0 (i:Int) (lookTo s i 0 0).lo (lookTo s i 0 0).hi (lookTo s i 0 1).lo (lookTo s i 0 1).hi (lookTo s i 0 2).lo (lookTo s i 0 2).hi (lookTo s i 0 3).lo (lookTo s i 0 3).hi (lookTo s i 1 0).lo (lookTo s i 1 0).hi (lookTo s i 1 1).lo (lookTo s i 1 1).hi (lookTo s i 1 2).lo (lookTo s i 1 2).hi (lookTo s i 1 3).lo (lookTo s i 1 3).hi
set_option maxHeartbeats 8000000 in
theorem c148(s:Shop)(h:(shopCheck s).2.2=0)(hok:OkShop s):PC 148 [.agg (tShop.cells s)] (·=.tuple [lkS s (lookM s),iI 0]):=by
 have k57:=c57 s;rw[h]at k57;have hnm:=hok.nm
 have hmain:WP Tryz.prog ⟨none,0⟩ (T148 s) (Ends' fun r=>v148 r=.tuple [lkS s (lookM s),iI 0]) (pt148 s 0):=by
  refine WP.run (fun i=>pt148 s i) rfl s.moulds.length (fun i hi=> ?_) ?_
  ·have hl:1<=(s.moulds.getD i zMould).lasts.length/\(s.moulds.getD i zMould).lasts.length<=4:=by
    have:=hok.mould _ (getD_mem zMould s.moulds i hi);have:=hok.feat;omega
   have c0:((0:Nat):Int)=0:=rfl;have c1:((1:Nat):Int)=1:=rfl;have hi0:(i:Int)<s.moulds.length:=by omega
   rcases show i=0\/i=1 by omega with rfl|rfl
   ·refine WP.once ?_;simp only[T148,Tr.sure,SS,hi0,c0,c1,z2,pt148,Int.reduceEq,Int.reduceToNat];repeat' with_reducible first|intro _|apply aI
    all_goals first|exact(sem148 _ hl _ _ _ _ _ _ _ _ _ _ _ _ _ _ _ _ _ _ _ _)|(simp[Go,Ends',v148,-List.getD_eq_getElem?_getD, *];done)|(simp_all [Go,Ends',v148,-List.getD_eq_getElem?_getD];done)|skip
    all_goals first
     |exact VLe.refl _
     |decide
     |kernel_rfl
   ·refine WP.once ?_;simp only[T148,Tr.sure,SS,hi0,c0,c1,z2,pt148,Int.reduceEq,Int.reduceToNat];repeat' with_reducible first|intro _|apply aI
    all_goals first|exact(sem148b _ hl _ _ _ _ _ _ _ _ _ _ _ _ _ _ _ _ _ _ _ _)|(simp[Go,Ends',v148,-List.getD_eq_getElem?_getD, *];done)|(simp_all [Go,Ends',v148,-List.getD_eq_getElem?_getD];done)|skip
    all_goals first
     |exact VLe.refl _
     |decide
     |kernel_rfl
  ·refine WP.once ?_;simp only[T148,Tr.sure,SS,Int.lt_irrefl,pt148];repeat' with_reducible first|intro _|apply aI
   all_goals first
    |exact rfl
 refine w148 s (WP.step ?_);simp only[T148,Go,Ends',v148,Tr.sure,SS,h];repeat' with_reducible first|intro _|apply aI
 all_goals first|exact k57|exact hmain
 all_goals first
  |exact hmain
end
abbrev LL:=Nat->Nat->Span
abbrev FC:=Nat->Cast
def okM(s:Shop)(hd:Nat)(f:FC)(L:LL)(c:Cast):Bool:= !((List.range hd).any fun i=>sameC (f i) c)&&(narR s L (hd:Int) c (showN s hd)).2
def nextL(s:Shop)(hd:Nat)(L:LL)(c:Cast):LL:=(narR s L (hd:Int) c (showN s hd)).1
def yM(f:FC)(L:LL):V:=.tuple [.agg (tMTru.cells ⟨f,L⟩)]
def leavesM(s:Shop):Nat->Nat->FC->LL->List MTru
 |0,_,f,L=>[⟨f,L⟩]
 |n+1,hd,f,L=>(allCasts s).flatMap fun c=>bif okM s hd f L c then leavesM s n (hd+1) (upd f hd c) (nextL s hd L c)else[]
def stepM(X:Ext)(s:Shop)(hd:Nat)(L:LL)(w:FC->LL->List V->FC × List V)(p:FC × List V)(c:Cast):FC × List V:=
 bif X.go p.2&&okM s hd p.1 L c then w (upd p.1 hd c) (nextL s hd L c) p.2 else p
def walkM(X:Ext)(s:Shop):Nat->Nat->FC->LL->List V->FC × List V
 |0,_,f,L,tr=>(f,tr++ [yM f L])
 |n+1,hd,f,L,tr=>(allCasts s).foldl (stepM X s hd L (walkM X s n (hd+1))) (f,tr)
theorem okM_congr(s:Shop){hd:Nat}{f g:FC}(h:∀i,i<hd->f i=g i)(L:LL)(c:Cast):okM s hd f L c=okM s hd g L c:=by
 unfold okM;congr 2
 rw[Bool.eq_iff_iff,List.any_eq_true,List.any_eq_true];constructor<;>
 ·rintro⟨i,hi,e⟩
  have:=h i (List.mem_range.1 hi);exact⟨i,hi,by simpa[this]using e⟩
theorem leavesM_congr(s:Shop):∀(n hd:Nat) (f g:FC) (L:LL),(∀i,i<hd\/hd+n<=i->f i=g i)->leavesM s n hd f L=leavesM s n hd g L
 |0,hd,f,g,L,h=>by
  have:f=g:=funext fun i=>h i (by omega);rw[this]
 |n+1,hd,f,g,L,h=>by
  unfold leavesM;refine congrArg (fun k=>List.flatMap k _) (funext fun c=> ?_);rw[okM_congr s (fun i hi=>h i (.inl hi)) L c]
  cases okM s hd g L c with
  |false=>rfl
  |true=>
   refine leavesM_congr s n (hd+1) _ _ _ fun i hi=> ?_;unfold upd;split
   ·rfl
   ·exact h i (by omega)
def ysM(l:List MTru):List V:=l.map fun t=>yM t.casts t.lasts
theorem foldM_spec(X:Ext)(s:Shop)(n hd:Nat)(f:FC)(L:LL)
  (hw:∀(f:FC) (L:LL) (tr:List V),X.go tr=true->(walkM X s n (hd+1) f L tr).2=feed X.go tr (ysM (leavesM s n (hd+1) f L))/\∀i,i<hd+1\/hd+1+n<=i->(walkM X s n (hd+1) f L tr).1 i=f i):
  ∀(C:List Cast) (p:FC × List V),(∀i,i<hd\/hd+(n+1)<=i->p.1 i=f i)->
   (C.foldl (stepM X s hd L (walkM X s n (hd+1))) p).2=feed X.go p.2 (ysM (C.flatMap fun c=>bif okM s hd f L c then leavesM s n (hd+1) (upd f hd c) (nextL s hd L c)else[]))/\
    ∀i,i<hd\/hd+(n+1)<=i->(C.foldl (stepM X s hd L (walkM X s n (hd+1))) p).1 i=f i:=by
 intro C
 induction C with
 |nil=>intro p hp;exact⟨rfl,hp⟩
 |cons c C ih=>
  intro p hp;have hok:=okM_congr s (fun i hi=>hp i (.inl hi)) L c
  have hup:∀i,i<hd+1\/hd+1+n<=i->upd p.1 hd c i=upd f hd c i:=fun i hi=>by
   unfold upd;split
   ·rfl
   ·exact hp i (by omega)
  rw[List.foldl_cons,List.flatMap_cons];have hm:∀a b:List MTru,ysM (a++b)=ysM a++ysM b:=fun a b=>List.map_append;rw[hm,feed_app]
  cases hgs:X.go p.2 with
  |false=>
   have e:stepM X s hd L (walkM X s n (hd+1)) p c=p:=by unfold stepM;rw[hgs];rfl
   rw[e,feed_stop hgs];exact ih p hp
  |true=>
   cases ho:okM s hd f L c with
   |false=>
    have e:stepM X s hd L (walkM X s n (hd+1)) p c=p:=by unfold stepM;rw[hok,ho,Bool.and_false];rfl
    rw[e];exact ih p hp
   |true=>
    have e:stepM X s hd L (walkM X s n (hd+1)) p c=walkM X s n (hd+1) (upd p.1 hd c) (nextL s hd L c) p.2:=by unfold stepM;rw[hgs,hok,ho];rfl
    obtain⟨w1,w2⟩:=hw (upd p.1 hd c) (nextL s hd L c) p.2 hgs;rw[leavesM_congr s n (hd+1) _ _ _ hup]at w1;rw[e];simp only[cond_true];rw[<-w1];refine ih _ fun i hi=> ?_;rw[w2 i (by omega),hup i (by omega)];unfold upd;rw[if_neg (by omega)]
theorem walkM_spec(X:Ext)(s:Shop):∀(n hd:Nat) (f:FC) (L:LL) (tr:List V),X.go tr=true->
  (walkM X s n hd f L tr).2=feed X.go tr (ysM (leavesM s n hd f L))/\∀i,i<hd\/hd+n<=i->(walkM X s n hd f L tr).1 i=f i
 |0,_,_,_,_,hg=>⟨(feed_one hg _).symm,fun _ _=>rfl⟩
 |n+1,hd,f,L,tr,_=>foldM_spec X s n hd f L (walkM_spec X s n (hd+1)) _ (f,tr) fun _ _=>rfl
theorem foldM_stop(X:Ext)(s:Shop)(hd:Nat)(L:LL)(w:FC->LL->List V->FC × List V){p:FC × List V}(h:X.go p.2=false):∀C:List Cast,C.foldl (stepM X s hd L w) p=p
 |[]=>rfl
 |c::C=>by
  have e:stepM X s hd L w p c=p:=by unfold stepM;rw[h];rfl
  rw[List.foldl_cons,e];exact foldM_stop X s hd L w h C
def nrTo(s:Shop)(L:LL)(hd:Nat)(c:Cast)(k:Nat):LL:=fun m q=>if m=c.mould.toNat/\q<k then narrow ((s.heads.getD hd zHead).shows.getD q 0) c.number (L m q)else L m q
theorem narR_fine(s:Shop)(L:LL)(hd:Nat)(c:Cast):∀k:Nat,(∀q,q<k->(narrow ((s.heads.getD hd zHead).shows.getD q 0) c.number (L c.mould.toNat q)).lo<=(narrow ((s.heads.getD hd zHead).shows.getD q 0) c.number (L c.mould.toNat q)).hi)->narR s L (hd:Int) c k=(nrTo s L hd c k,true)
 |0,_=>by
  have:nrTo s L hd c 0=L:=by funext m q;simp[nrTo]
  rw[this];rfl
 |k+1,h=>by
  have ih:=narR_fine s L hd c k (fun q hq=>h q (by omega));have e:narR s L (hd:Int) c (k+1)=narS s (hd:Int) c k (narR s L (hd:Int) c k):=rfl;have hk:=h k (Nat.lt_succ_self k);rw[e,ih];unfold narS;rw[if_pos rfl];have e1:nrTo s L hd c k c.mould.toNat k=L c.mould.toNat k:=by simp[nrTo]
  simp only[Int.toNat_natCast,e1];refine Prod.ext ?_ ?_
  ·funext m q
   show upd (nrTo s L hd c k) c.mould.toNat _ m q=nrTo s L hd c (k+1) m q;unfold upd;by_cases h1:m=c.mould.toNat
   ·rw[if_pos h1];subst h1;by_cases h2:q=k
    ·subst h2;simp[nrTo,-List.getD_eq_getElem?_getD]
    ·rw[if_neg h2];unfold nrTo;by_cases h3:q<k
     ·rw[if_pos ⟨rfl,h3⟩,if_pos ⟨rfl,by omega⟩]
     ·rw[if_neg (fun z=>h3 z.2),if_neg (fun z=>h3 (by omega))]
   ·rw[if_neg h1];unfold nrTo;rw[if_neg (fun z=>h1 z.1),if_neg (fun z=>h1 z.1)]
  ·show(!decide _)=true;rw[Bool.not_eq_true',decide_eq_false_iff_not];exact Int.not_lt.2 hk
theorem narrow_mono(a n:Int)(x:Span):x.lo<=(narrow a n x).lo/\(narrow a n x).hi<=x.hi:=by
 unfold narrow;split
 ·exact⟨Int.le_max_left _ _,Int.le_refl _⟩
 ·split
  ·exact⟨Int.le_refl _,Int.min_le_left _ _⟩
  ·exact⟨Int.le_refl _,Int.le_refl _⟩
theorem lastTo_mono(s:Shop)(l:List Cast)(m f:Int){a:Nat}:∀ {b:Nat},a<=b->(lastTo s l m f a).lo<=(lastTo s l m f b).lo/\(lastTo s l m f b).hi<=(lastTo s l m f a).hi
 |0,h=>by
        obtain rfl:a=0:=by omega
        exact⟨Int.le_refl _,Int.le_refl _⟩
 |b+1,h=>by
  rcases Nat.lt_or_ge b a with q|q
  ·obtain rfl:a=b+1:=by omega
   exact⟨Int.le_refl _,Int.le_refl _⟩
  ·have ih:=lastTo_mono s l m f q;have e:lastTo s l m f (b+1)=lastStep s m f b (l.getD b zCast) (lastTo s l m f b):=rfl;rw[e];unfold lastStep;split
   ·have:=narrow_mono ((s.heads.getD b zHead).shows.getD f.toNat 0) (l.getD b zCast).number (lastTo s l m f b);omega
   ·exact ih
theorem truth_leaf{s:Shop}(hs:OkShop s){l:List Cast}(hl:l∈truths s):∀(n hd:Nat) (f:FC) (L:LL),hd+n=s.heads.length->(∀i,i<hd->f i=l.getD i zCast)->(∀m q:Nat,m<s.moulds.length->q<s.features.toNat->L m q=lastTo s l m q hd)->
  ∃t∈leavesM s n hd f L,∀i,i<s.heads.length->t.casts i=l.getD i zCast
 |0,hd,f,L,hn,hf,_=>⟨⟨f,L⟩,by simp[leavesM],fun i hi=>hf i (by omega)⟩
 |n+1,hd,f,L,hn,hf,hL=>by
  have hlen:=(grow_mem hl).1;have hhd:hd<l.length:=by omega
  have hc:=(grow_mem hl).2 _ (getD_mem zCast l hd hhd);have ha:=grow_agrees hl (by omega)
  obtain⟨c,hcc⟩:∃c,c=l.getD hd zCast:=⟨_,rfl⟩
  rw[<-hcc]at hc
  obtain⟨m,hm⟩:∃m:Nat,c.mould=(m:Int):=⟨c.mould.toNat,by have:=hc.1;omega⟩
  have hmt:c.mould.toNat=m:=by omega
  have hml:m<s.moulds.length:=by have:=hc.2.1;omega
  have hshow:showN s (hd:Int)=s.features.toNat:=by
   have:=(hs.head _ (getD_mem zHead s.heads hd (by omega))).1;unfold showN;rw[Int.toNat_natCast];omega
  unfold agrees at ha;rw[Bool.and_eq_true,Bool.not_eq_true',Bool.not_eq_true']at ha
  have hstep:∀q:Nat,lastTo s l m q (hd+1)=narrow ((s.heads.getD hd zHead).shows.getD q 0) c.number (lastTo s l m q hd):=fun q=>by
   have e:lastTo s l m q (hd+1)=lastStep s m q hd (l.getD hd zCast) (lastTo s l m q hd):=rfl;rw[e,<-hcc];unfold lastStep;rw[if_pos hm,Int.toNat_natCast]
  have hfine:∀q,q<s.features.toNat->(narrow ((s.heads.getD hd zHead).shows.getD q 0) c.number (L c.mould.toNat q)).lo<=(narrow ((s.heads.getD hd zHead).shows.getD q 0) c.number (L c.mould.toNat q)).hi:=fun q hq=>by
   rw[hmt,hL m q hml hq,<-hstep];have h1:=lastTo_mono s l m q (show hd+1<=l.length by omega)
   have h2:¬(lastOf s l m q).hi<(lastOf s l m q).lo:=fun z=>by
    have:bad s l=true:=by
     unfold bad;rw[List.any_eq_true];refine⟨m,List.mem_range.2 hml,?_⟩;rw[List.any_eq_true];exact⟨q,List.mem_range.2 hq,by simpa using z⟩
    rw[ha.2]at this;cases this
   unfold lastOf at h2;omega
  have hnar:=narR_fine s L hd c s.features.toNat hfine;rw[<-hshow]at hnar
  have hok:okM s hd f L c=true:=by
   unfold okM;rw[hnar];simp only[Bool.and_true,Bool.not_eq_true'];rw[Bool.eq_false_iff];intro z;rw[List.any_eq_true]at z;obtain⟨i,hi,e⟩:=z;have hi':=List.mem_range.1 hi;rw[hf i hi',hcc]at e;unfold sameC at e;rw[Bool.and_eq_true,beq_iff_eq,beq_iff_eq]at e;exact no_dup ha.1 (i:=i) (j:=hd) (by omega) hhd (by omega) e
  have hnext:nextL s hd L c=nrTo s L hd c s.features.toNat:=by unfold nextL;rw[hnar,hshow]
  obtain⟨t,t1,t2⟩:=truth_leaf hs hl n (hd+1) (upd f hd c) (nextL s hd L c) (by omega) (fun i hi=>by
   unfold upd;by_cases e:i=hd
   ·rw[if_pos e,e,hcc]
   ·rw[if_neg e];exact hf i (by omega)) (fun m2 q h2 hq=>by
   rw[hnext];unfold nrTo;by_cases e:m2=m
   ·subst e;rw[if_pos ⟨hmt.symm,hq⟩,hL m2 q h2 hq,hstep]
   ·rw[if_neg (fun z=>e (z.1.trans hmt)),hL m2 q h2 hq];have e2:lastTo s l m2 q (hd+1)=lastStep s m2 q hd (l.getD hd zCast) (lastTo s l m2 q hd):=rfl;rw[e2,<-hcc];unfold lastStep
    rw[if_neg (fun z=>e (by omega))])
  refine⟨t,?_,t2⟩;unfold leavesM;rw[List.mem_flatMap];exact⟨c,mem_allCasts.2 hc,by rw[hok];exact t1⟩
def allM(s:Shop):List MTru:=leavesM s s.heads.length 0 (fun _=>zCast) (lookM s)
theorem allM_truths{s:Shop}(hs:OkShop s){l:List Cast}(hl:l∈truths s):∃t∈allM s,∀i,i<s.heads.length->t.casts i=l.getD i zCast:=
 truth_leaf hs hl s.heads.length 0 _ _ (by omega) (fun i hi=>absurd hi (Nat.not_lt_zero i)) fun m q hm hq=>by
  have h1:=(hs.mould _ (getD_mem zMould s.moulds m hm)).2.1;show lookTo s s.moulds.length m q=span0 s m q;unfold lookTo span0 cpS;rw[if_pos hm,if_pos (by omega),Int.toNat_natCast,Int.toNat_natCast]
theorem castOk_in{s:Shop}(hs:OkShop s){c:Cast}(h:CastOk s c):(0<=c.mould/\c.mould<2)/\1<=c.number/\c.number<=4:=by
 obtain⟨h1,h2,h3,h4⟩:=h;have h5:=hs.nm;have h6:=(hs.mould _ (getD_mem zMould s.moulds c.mould.toNat (by omega))).1.2;omega
theorem casts_len{s:Shop}(hs:OkShop s):(allCasts s).length<=8:=by
 have h1:(allCasts s).length<=(List.range s.moulds.length).length*4:=flat_le fun i hi=>by
  have hi':=List.mem_range.1 hi;have:=(hs.mould _ (getD_mem zMould s.moulds i hi')).1.2;simp only[castsAt,List.length_map,List.length_range];omega
 rw[List.length_range]at h1;have:=hs.nm;omega
theorem leavesM_len{s:Shop}(hs:OkShop s):∀(n hd:Nat) (f:FC) (L:LL),(leavesM s n hd f L).length<=8^n
 |0,_,_,_=>by simp[leavesM]
 |n+1,hd,f,L=>by
  have h1:(leavesM s (n+1) hd f L).length<=(allCasts s).length*8^n:=by
   unfold leavesM;refine flat_le fun c _=> ?_
   cases okM s hd f L c with
   |false=>simp
   |true=>exact leavesM_len hs n (hd+1) _ _
  have h2:=Nat.mul_le_mul_right (8^n) (casts_len hs);rw[Nat.pow_succ];omega
theorem allM_len{s:Shop}(hs:OkShop s):(allM s).length<=4096:=by
 have h1:=leavesM_len hs s.heads.length 0 (fun _=>zCast) (lookM s);have h2:8^s.heads.length<=8^4:=Nat.pow_le_pow_right (by decide) hs.nh;have:(8:Nat)^4=4096:=by decide
 unfold allM;omega
theorem leavesM_cast{s:Shop}:∀(n hd:Nat) (f:FC) (L:LL),∀t∈leavesM s n hd f L,(∀i,i<hd->t.casts i=f i)/\∀i,hd<=i->i<hd+n->t.casts i∈allCasts s
 |0,hd,f,L,t,ht=>by
  unfold leavesM at ht;rw[List.mem_singleton]at ht;subst ht;exact⟨fun _ _=>rfl,fun i h1 h2=>by omega⟩
 |n+1,hd,f,L,t,ht=>by
  unfold leavesM at ht;rw[List.mem_flatMap]at ht;obtain⟨c,hc,ht⟩:=ht
  cases ho:okM s hd f L c with
  |false=>rw[ho]at ht;simp at ht
  |true=>
   rw[ho]at ht;obtain⟨h1,h2⟩:=leavesM_cast n (hd+1) _ _ t ht;refine⟨fun i hi=> ?_,fun i hi hi2=> ?_⟩
   ·rw[h1 i (by omega)];unfold upd;rw[if_neg (by omega)]
   ·by_cases e:i=hd
    ·subst e;rw[h1 i (by omega)];unfold upd;rw[if_pos rfl];exact hc
    ·exact h2 i (by omega) (by omega)
theorem allM_cast{s:Shop}{t:MTru}(ht:t∈allM s){i:Nat}(hi:i<s.heads.length):t.casts i∈allCasts s:=
 (leavesM_cast _ _ _ _ t ht).2 i (Nat.zero_le _) (by omega)
noncomputable section
def walkH(X:Ext)(s:Shop)(hd:Nat)(f:FC)(L:LL)(tr:List V):FC × List V:=walkM X s (s.heads.length-hd) hd f L tr
inductive P190
 |e
inductive R190
 |r0 (r0:List V) (r1:Nat->Cast) (r2:Bool)
 |r1 (r0:List V) (r1:Nat->Cast) (r2:Bool)
noncomputable def T190(X:Ext)(tr:List V)(s:Shop)(L0:LL)(f:FC)(hd:Nat)(L:LL):P190->Tr P190 R190
 |.e=>let c1:List V:=[.agg [iI ((f 0).mould),iI ((f 0).number),iI ((f 1).mould),iI ((f 1).number),iI ((f 2).mould),iI ((f 2).number),iI ((f 3).mould),iI ((f 3).number),iI (((L 0) 0).lo),iI (((L 0) 0).hi),iI (((L 0) 1).lo),iI (((L 0) 1).hi),iI (((L 0) 2).lo),iI (((L 0) 2).hi),iI (((L 0) 3).lo),iI (((L 0) 3).hi),iI (((L 1) 0).lo),iI (((L 1) 0).hi),iI (((L 1) 1).lo),iI (((L 1) 1).hi),iI (((L 1) 2).lo),iI (((L 1) 2).hi),iI (((L 1) 3).lo),iI (((L 1) 3).hi)]];let c2:List V:=([uU,uU,rR (lkS s L0),.ref 1 0 0,.ref 2 0 0,.ref 3 0 0,.ref 4 0 0,.ref 5 0 0,.ref 6 0 0]++ud 19++ [fG 215 [rR (lkS s L0)]]++ud 31);let c4:List Blk:=[.ext X tr,.cells [.yld 0],.rows 152 2 4 (rowsFn tCast f),.cells [fG 190 [rR (lkS s L0),.ref 1 0 0,.ref 2 0 0,.ref 3 0 0]],.cells [iI (hd:Int)],.rows 155 8 2 (rowsFn tFour L),.cells [.bool false]];let c5:=walkH X s hd f L tr;let c3:List Blk:=[.ext X (c5.2),.cells [.yld 0],.rows 152 2 4 (rowsFn tCast (c5.1)),.cells [fG 190 [rR (lkS s L0),.ref 1 0 0,.ref 2 0 0,.ref 3 0 0]],.cells [iI (hd:Int)],.rows 155 8 2 (rowsFn tFour L),.cells [.bool false],.obj (.deferred (some []))];(.front [] [] true true (.br ((hd:Int)==(s.heads.length:Int)) (.yld X tr c1 c1 true (.out (.r0 (tr++ [V.tuple c1]) f (X.go (tr++ [V.tuple c1]))))) (.call 191 [lkS s L0] (fG 215 [rR (lkS s L0)]) true true (.wait 1 (.drop ⟨([uU,uU,.nil,.nil,.nil,.nil,.nil,.nil,.nil]++ud 19++ [.nil]++ud 31),[.void,.void,.void,.void,.void,.void,.void],[]⟩ (.cas (X.go c5.2) (.over (rangeOf Tryz.f190) ⟨c2,c4,[]⟩ .normal ⟨c2,c3,[7]⟩ true (.out (.r1 (c5.2) (c5.1) true))) (.over (rangeOf Tryz.f190) ⟨c2,c4,[]⟩ .ret ⟨c2,c3,[7]⟩ true (.out (.r1 (c5.2) (c5.1) false)))))))))
noncomputable def g190(X:Ext)(tr:List V)(s:Shop)(L0:LL)(f:FC)(hd:Nat)(L:LL):P190->List Item × St
 |.e=>([.code (Tryz.f190.body.getD .skip)],⟨[iI (hd:Int),.arr 8 2 (rowsFn tFour L),rR (lkS s L0),.ref 1 0 0,.ref 2 0 0,.ref 3 0 0]++List.replicate 54 uU,[.ext X tr,.cells [.yld 0],.rows 152 2 4 (rowsFn tCast f),.cells [fG 190 [rR (lkS s L0),.ref 1 0 0,.ref 2 0 0,.ref 3 0 0]]],[]⟩)
noncomputable def n190(X:Ext)(tr:List V)(s:Shop)(L0:LL)(f:FC)(hd:Nat)(L:LL):R190->Exit × St
 |.r0 r0 r1 r2=>(.ret,⟨mk 60 [(8,.ref 6 0 0)],[.ext X r0,.cells [.yld 0],.rows 152 2 4 (rowsFn tCast r1),.cells [fG 190 [rR (lkS s L0),.ref 1 0 0,.ref 2 0 0,.ref 3 0 0]],.gone,.gone,.cells [.bool r2]],[]⟩)
 |.r1 r0 r1 r2=>(.ret,⟨mk 60 [(8,.ref 6 0 0)],[.ext X r0,.cells [.yld 0],.rows 152 2 4 (rowsFn tCast r1),.cells [fG 190 [rR (lkS s L0),.ref 1 0 0,.ref 2 0 0,.ref 3 0 0]],.gone,.gone,.cells [.bool r2],.obj (.deferred (some []))],[7]⟩)
theorem s190(X:Ext)(tr:List V)(s:Shop)(L0:LL)(f:FC)(hd:Nat)(L:LL):Sm 4 (g190 X tr s L0 f hd L) (T190 X tr s L0 f hd L) (n190 X tr s L0 f hd L)
 |.e=>⟨400,by kernel_rfl⟩
noncomputable def hh190(X:Ext)(tr:List V)(s:Shop)(L0:LL)(f:FC)(hd:Nat)(L:LL):R190->List Blk
 |.r0 r0 r1 r2=>[.ext X r0,.cells [.yld 0],.rows 152 2 4 (rowsFn tCast r1),.cells [fG 190 [rR (lkS s L0),.ref 1 0 0,.ref 2 0 0,.ref 3 0 0]]]
 |.r1 r0 r1 r2=>[.ext X r0,.cells [.yld 0],.rows 152 2 4 (rowsFn tCast r1),.cells [fG 190 [rR (lkS s L0),.ref 1 0 0,.ref 2 0 0,.ref 3 0 0]]]
noncomputable def v190(X:Ext)(tr:List V)(s:Shop)(L0:LL)(f:FC)(hd:Nat)(L:LL):R190->V
 |.r0 r0 r1 r2=>.bool r2
 |.r1 r0 r1 r2=>.bool r2
theorem q190(X:Ext)(tr:List V)(s:Shop)(L0:LL)(f:FC)(hd:Nat)(L:LL):∀r,((n190 X tr s L0 f hd L r).1=.normal\/(n190 X tr s L0 f hd L r).1=.ret)/\(n190 X tr s L0 f hd L r).2.d.Nodup/\(shut (n190 X tr s L0 f hd L r).2.d (n190 X tr s L0 f hd L r).2.h).take (hh190 X tr s L0 f hd L r).length=(hh190 X tr s L0 f hd L r)/\(hh190 X tr s L0 f hd L r).all (Blk.under (hh190 X tr s L0 f hd L r).length)=true/\(v190 X tr s L0 f hd L r).under (hh190 X tr s L0 f hd L r).length=true/\resultV Tryz.prog Tryz.f190 {(n190 X tr s L0 f hd L r).2 with h:=shut (n190 X tr s L0 f hd L r).2.d (n190 X tr s L0 f hd L r).2.h}=some (v190 X tr s L0 f hd L r)
 |.r0 r0 r1 r2=>⟨.inr rfl,by simp[n190],rfl,by rfl,rfl,by kernel_rfl⟩
 |.r1 r0 r1 r2=>⟨.inr rfl,by simp[n190],rfl,by rfl,rfl,by kernel_rfl⟩
theorem w190(X:Ext)(tr:List V)(s:Shop)(L0:LL)(f:FC)(hd:Nat)(L:LL){V0:V}{h':List Blk}(hl:4<=h'.length)(h:WP Tryz.prog ⟨none,4⟩ (T190 X tr s L0 f hd L) (Ends' fun r=>v190 X tr s L0 f hd L r=V0/\hh190 X tr s L0 f hd L r=h') .e):HCalls Tryz.prog 190 [iI (hd:Int),.arr 8 2 (rowsFn tFour L),rR (lkS s L0),.ref 1 0 0,.ref 2 0 0,.ref 3 0 0] V0 [.ext X tr,.cells [.yld 0],.rows 152 2 4 (rowsFn tCast f),.cells [fG 190 [rR (lkS s L0),.ref 1 0 0,.ref 2 0 0,.ref 3 0 0]]] h':=
 HCalls.wpD mx Tryz.func190 (by kernel_rfl) (by kernel_rfl) hl (T190 X tr s L0 f hd L) (g190 X tr s L0 f hd L) (n190 X tr s L0 f hd L) .e rfl (s190 X tr s L0 f hd L) h fun r hr=>by obtain⟨e1,e2⟩:=hr;subst e1;subst e2;exact q190 X tr s L0 f hd L r
end
noncomputable section
def narB(s:Shop)(hd:Nat)(L:LL)(c:Cast):Bool:=(narR s L (hd:Int) c (showN s hd)).2
inductive P190a
 |e
inductive R190a
 |r0 (r0:List V) (r1:Nat->Cast) (r2:Int) (r3:Nat->Nat->Span) (r4:Bool) (r5:Int) (r6:Int)
noncomputable def T190a(X:Ext)(tr:List V)(s:Shop)(L0:LL)(f:FC)(hd:Nat)(L:LL)(c:Cast):P190a->Tr P190a R190a
 |.e=>(.out (.r0 tr f (hd:Int) L false c.mould c.number))
noncomputable def g190a(X:Ext)(tr:List V)(s:Shop)(L0:LL)(f:FC)(hd:Nat)(L:LL)(c:Cast):P190a->List Item × St
 |.e=>([.code (asgOf (rangeOf Tryz.f190))],⟨([uU,uU,rR (lkS s L0),.ref 1 0 0,.ref 2 0 0,.ref 3 0 0,.ref 4 0 0,.ref 5 0 0,.ref 6 0 0]++ud 19++ [fG 215 [rR (lkS s L0)],.agg [iI c.mould,iI c.number]]++ud 30),[.ext X tr,.cells [.yld 0],.rows 152 2 4 (rowsFn tCast f),.cells [fG 190 [rR (lkS s L0),.ref 1 0 0,.ref 2 0 0,.ref 3 0 0]],.cells [iI (hd:Int)],.rows 155 8 2 (rowsFn tFour L),.cells [.bool false]],[]⟩)
noncomputable def n190a(X:Ext)(tr:List V)(s:Shop)(L0:LL)(f:FC)(hd:Nat)(L:LL)(c:Cast):R190a->Exit × St
 |.r0 r0 r1 r2 r3 r4 r5 r6=>(.normal,⟨mk 60 [(2,rR (lkS s L0)),(3,.ref 1 0 0),(4,.ref 2 0 0),(5,.ref 3 0 0),(6,.ref 4 0 0),(7,.ref 5 0 0),(8,.ref 6 0 0),(9,.ref 7 0 0)],[.ext X r0,.cells [.yld 0],.rows 152 2 4 (rowsFn tCast r1),.cells [fG 190 [rR (lkS s L0),.ref 1 0 0,.ref 2 0 0,.ref 3 0 0]],.cells [iI r2],.rows 155 8 2 (rowsFn tFour r3),.cells [.bool r4],.cells [iI r5,iI r6]],[]⟩)
theorem s190a(X:Ext)(tr:List V)(s:Shop)(L0:LL)(f:FC)(hd:Nat)(L:LL)(c:Cast):Sm 7 (g190a X tr s L0 f hd L c) (T190a X tr s L0 f hd L c) (n190a X tr s L0 f hd L c)
 |.e=>⟨400,by kernel_rfl⟩
inductive P190b
 |e
 |l0 (x0_33:Int)
inductive R190b
 |r0 (r0:List V) (r1:Nat->Cast) (r2:Int) (r3:Nat->Nat->Span) (r4:Bool)
 |r1 (r0:List V) (r1:Nat->Cast) (r2:Int) (r3:Nat->Nat->Span) (r4:Bool)
noncomputable def T190b(X:Ext)(tr:List V)(s:Shop)(L0:LL)(f:FC)(hd:Nat)(L:LL)(c:Cast):P190b->Tr P190b R190b
 |.e=>(.need (((decide (0<=(0:Int))&&decide ((0:Int)<=(hd:Int)))&&decide ((hd:Int)<=(4:Int)))&&decide (4=4)) (.go (.l0 0)))
 |.l0 x0_33=>let c2:List V:=[iI c.mould,iI c.number];let c3:=rowsFn tFour (nextL s hd L c);let c4:List V:=[fG 190 [rR (lkS s L0),.ref 1 0 0,.ref 2 0 0,.ref 3 0 0]];let c5:=(hd:Int);let c1:=walkH X s (hd+1) (upd f (c5.toNat) c) (nextL s hd L c) tr;let c6:Tr P190b R190b:=.out (.r0 tr f (hd:Int) L false);let c7:=rowsFn tCast (upd f (c5.toNat) c);let c8:=(c2:List V);let c9:=rowsFn tFour L;let c10:=x0_33<((c5.toNat):Int);(.br (decide c10) (.need ((decide (0<=x0_33)&&decide c10)&&decide (c5.toNat<=4)) (.need (decide ((x0_33).toNat<4)&&decide (0+2<=2)) (.br (((f ((x0_33).toNat)).mould==c.mould)&&(((f ((x0_33).toNat)).number==c.number)&&true)) c6 (.need (inR .i64 (x0_33+(1:Int))) (.go (.l0 (x0_33+(1:Int)))))))) (.call 192 [lkS s L0,.arr 8 2 c9,iI (hd:Int),.agg c2] (.tuple [.arr 8 2 c3,.bool (narB s hd L c)]) true true (.br (!(narB s hd L c)) c6 (.need (decide (0<=(hd:Int))&&decide ((hd:Int)<(4:Int))) (.need ((decide (c5.toNat<4)&&decide (0+c8.length<=2))&&underL 0 c8) (.telb 2 2 4 (fun r' j=>if r'=c5.toNat/\0<=j/\j<0+c8.length then c8.getD (j-0) uU else(rowsFn tCast f) r' j) c7 (.need (inR .i64 ((hd:Int)+(1:Int))) (.hcall 190 [iI ((hd:Int)+(1:Int)),.arr 8 2 c3,rR (lkS s L0),.ref 1 0 0,.ref 2 0 0,.ref 3 0 0] (.bool (X.go c1.2)) [.ext X tr,.cells [.yld 0],.rows 152 2 4 c7,.cells c4,.cells [iI (hd:Int)],.rows 155 8 2 c9,.cells [.bool false],.cells c2,.rows 155 8 2 c3] [.ext X (c1.2),.cells [.yld 0],.rows 152 2 4 (rowsFn tCast (c1.1)),.cells c4,.cells [iI (hd:Int)],.rows 155 8 2 c9,.cells [.bool false],.cells c2,.rows 155 8 2 c3] true (.br (!(X.go c1.2)) (.out (.r1 (c1.2) (c1.1) (hd:Int) L false)) (.out (.r0 (c1.2) (c1.1) (hd:Int) L false)))))))))))
noncomputable def g190b(X:Ext)(tr:List V)(s:Shop)(L0:LL)(f:FC)(hd:Nat)(L:LL)(c:Cast):P190b->List Item × St
 |.e=>([.code (bdyOf (rangeOf Tryz.f190))],⟨([uU,uU,rR (lkS s L0),.ref 1 0 0,.ref 2 0 0,.ref 3 0 0,.ref 4 0 0,.ref 5 0 0,.ref 6 0 0,.ref 7 0 0]++ud 50),[.ext X tr,.cells [.yld 0],.rows 152 2 4 (rowsFn tCast f),.cells [fG 190 [rR (lkS s L0),.ref 1 0 0,.ref 2 0 0,.ref 3 0 0]],.cells [iI (hd:Int)],.rows 155 8 2 (rowsFn tFour L),.cells [.bool false],.cells [iI c.mould,iI c.number]],[]⟩)
 |.l0 x0_33=>((cuts [] (bdyOf (rangeOf Tryz.f190))).getD 0 [],⟨mk 60 [(2,rR (lkS s L0)),(4,.ref 2 0 0),(5,.ref 3 0 0),(6,.ref 4 0 0),(7,.ref 5 0 0),(8,.ref 6 0 0),(9,.ref 7 0 0),(31,.row 2 (((hd:Int)).toNat)),(32,iI ((((hd:Int)).toNat):Int)),(33,iI x0_33)],[.ext X tr,.cells [.yld 0],.rows 152 2 4 (rowsFn tCast f),.cells [fG 190 [rR (lkS s L0),.ref 1 0 0,.ref 2 0 0,.ref 3 0 0]],.cells [iI (hd:Int)],.rows 155 8 2 (rowsFn tFour L),.cells [.bool false],.cells [iI c.mould,iI c.number]],[]⟩)
noncomputable def n190b(X:Ext)(tr:List V)(s:Shop)(L0:LL)(f:FC)(hd:Nat)(L:LL)(c:Cast):R190b->Exit × St
 |.r0 r0 r1 r2 r3 r4=>(.normal,⟨mk 60 [],[.ext X r0,.cells [.yld 0],.rows 152 2 4 (rowsFn tCast r1),.cells [fG 190 [rR (lkS s L0),.ref 1 0 0,.ref 2 0 0,.ref 3 0 0]],.cells [iI r2],.rows 155 8 2 (rowsFn tFour r3),.cells [.bool r4]],[]⟩)
 |.r1 r0 r1 r2 r3 r4=>(.ret,⟨mk 60 [],[.ext X r0,.cells [.yld 0],.rows 152 2 4 (rowsFn tCast r1),.cells [fG 190 [rR (lkS s L0),.ref 1 0 0,.ref 2 0 0,.ref 3 0 0]],.cells [iI r2],.rows 155 8 2 (rowsFn tFour r3),.cells [.bool r4]],[]⟩)
theorem s190b(X:Ext)(tr:List V)(s:Shop)(L0:LL)(f:FC)(hd:Nat)(L:LL)(c:Cast):Sm 7 (g190b X tr s L0 f hd L c) (T190b X tr s L0 f hd L c) (n190b X tr s L0 f hd L c)
 |.e=>⟨400,by kernel_rfl⟩
 |.l0 _=>⟨400,by kernel_rfl⟩
end
noncomputable section
def nxM(X:Ext)(s:Shop)(hd:Nat)(f:FC)(L:LL)(c:Cast)(tr:List V):FC × List V:=walkH X s (hd+1) (upd f hd c) (nextL s hd L c) tr
theorem tel_updC(f:FC)(i:Nat)(c:Cast){r j:Nat}(hj:j<2):VLe (if r=i/\0<=j/\j<0+([iI c.mould,iI c.number]:List V).length then([iI c.mould,iI c.number]:List V).getD (j-0) uU else rowsFn tCast f r j) (rowsFn tCast (upd f i c) r j):=
 tel_upd tCast f i c (n:=r+1) (w:=2) _ rfl rfl r j (by omega) hj
set_option maxHeartbeats 4000000 in
theorem wb190(X:Ext)(tr:List V)(s:Shop)(L0:LL)(f:FC)(hd:Nat)(L:LL)(c:Cast)(lid:Nat)(hok:OkShop s)(hh:hd<s.heads.length)(hm:0<=c.mould/\c.mould<2)(hn:0<=c.number/\c.number<=1000)(hg:X.go tr=true)
  (ih:okM s hd f L c=true->HCalls Tryz.prog 190 [iI ((hd:Int)+(1:Int)),.arr 8 2 (rowsFn tFour (nextL s hd L c)),rR (lkS s L0),.ref 1 0 0,.ref 2 0 0,.ref 3 0 0] (.bool (X.go (walkH X s (hd+1) (upd f hd c) (nextL s hd L c) tr).2)) [.ext X tr,.cells [.yld 0],.rows 152 2 4 (rowsFn tCast (upd f hd c)),.cells [fG 190 [rR (lkS s L0),.ref 1 0 0,.ref 2 0 0,.ref 3 0 0]],.cells [iI (hd:Int)],.rows 155 8 2 (rowsFn tFour L),.cells [.bool false],.cells [iI c.mould,iI c.number],.rows 155 8 2 (rowsFn tFour (nextL s hd L c))] [.ext X ((walkH X s (hd+1) (upd f hd c) (nextL s hd L c) tr).2),.cells [.yld 0],.rows 152 2 4 (rowsFn tCast ((walkH X s (hd+1) (upd f hd c) (nextL s hd L c) tr).1)),.cells [fG 190 [rR (lkS s L0),.ref 1 0 0,.ref 2 0 0,.ref 3 0 0]],.cells [iI (hd:Int)],.rows 155 8 2 (rowsFn tFour L),.cells [.bool false],.cells [iI c.mould,iI c.number],.rows 155 8 2 (rowsFn tFour (nextL s hd L c))])
  {φ:P190b⊕R190b->Prop} (h0:okM s hd f L c=false->φ (.inr (.r0 tr f (hd:Int) L false)))
  (h1:okM s hd f L c=true->X.go (nxM X s hd f L c tr).2=true->φ (.inr (.r0 (nxM X s hd f L c tr).2 (nxM X s hd f L c tr).1 (hd:Int) L false)))
  (h2:okM s hd f L c=true->X.go (nxM X s hd f L c tr).2=false->φ (.inr (.r1 (nxM X s hd f L c tr).2 (nxM X s hd f L c tr).1 (hd:Int) L false))):
  WP Tryz.prog ⟨some lid,7⟩ (T190b X tr s L0 f hd L c) φ .e:=by
 have h4:=hok.nh;have hnn:((hd:Int)).toNat=hd:=Int.toNat_natCast _;have hd4:(hd:Int)<=4:=by omega
 have hd5:hd<=4:=by omega
 have hd0:(0:Int)<=(hd:Int):=by omega
 have hd6:(hd:Int)<4:=by omega
 have hd7:hd<4:=by omega
 have rh:inR .i64 ((hd:Int)+1)=true:=inR64 (by omega) (by omega);unfold nxM at h1 h2;refine WP.step ?_;simp only[T190b,Tr.sure,Go,hnn];refine⟨by simp[hd0,hd4],fun _=> ?_⟩;refine WP.anyR (fun q=>P190b.l0 (q:Int)) rfl hd (fun i=>sameC (f i) c) (fun q hq=> ?_) fun hQ=> ?_
 ·have hr:inR .i64 ((q:Int)+1)=true:=inR64 (by omega) (by omega);have hq':(q:Int)<(hd:Int):=by omega
  have hq4:q<4:=by omega
  have hany:((List.range hd).any fun i=>sameC (f i) c)=true->φ (.inr (.r0 tr f (hd:Int) L false)):=fun q=>h0 (by unfold okM;rw[q];rfl);have hsb:=sameC_b (f q) c;clear ih h0 h1 h2
  cases hs:sameC (f q) c with
  |true=>
   rw[hs]at hsb;refine WP.once ?_;simp only[T190b,Tr.sure,SS,hq',hq4,hnn,Int.toNat_natCast,hsb];repeat' with_reducible first|intro _|apply aI
   all_goals first|(simp[hr,Go,Ends',-List.getD_eq_getElem?_getD, *];done)|(simp+contextual [hr,Go,Ends',-List.getD_eq_getElem?_getD, *];done)
   all_goals first
    |exact hany (by assumption)
  |false=>
   rw[hs]at hsb;refine WP.once ?_;simp only[T190b,Tr.sure,SS,hq',hq4,hnn,Int.toNat_natCast,hsb];repeat' with_reducible first|intro _|apply aI
   all_goals simp[hr,Go,Ends',-List.getD_eq_getElem?_getD, *]
 ·have hsh:showN s (hd:Int)<=4:=by
   have:=(hok.head _ (getD_mem zHead s.heads hd hh)).1;have:=hok.feat;unfold showN;rw[hnn];omega
  have k192:PC 192 [lkS s L0,.arr 8 2 (rowsFn tFour L),iI (hd:Int),.agg (tCast.cells c)] (·=.tuple [.arr 8 2 (rowsFn tFour (nextL s hd L c)),.bool (narB s hd L c)]):=c192 L0 s L hd c ⟨by omega,by omega⟩ hm hn hsh;have hoN:okM s hd f L c=narB s hd L c:=by unfold okM;rw[hQ];rfl
  rw[hoN]at h0 h1 h2 ih;have t1:=fun(r j:Nat) (hj:j<2)=>tel_updC f hd c (r:=r) hj;generalize hW:walkH X s (hd+1) (upd f hd c) (nextL s hd L c) tr=W at*
  cases hb:narB s hd L c with
  |false=>
   have h0':=h0 hb;rw[hb]at k192;clear h0 h1 h2 ih
   refine WP.once ?_;simp only[T190b,Tr.sure,SS,Int.lt_irrefl,hnn,hb];repeat' with_reducible first|intro _|apply aI
   all_goals first|exact k192|(simp[h0',Go,Ends',-List.getD_eq_getElem?_getD, *];done)
   all_goals first
    |exact h0'
  |true=>
   have ih:=ih hb;have h1':=h1 hb;have h2':=h2 hb;rw[hb]at k192;clear h0 h1 h2
   cases hgo:X.go W.2 with
   |true=>
    have h:=h1' hgo;rw[hgo]at ih;clear h1' h2'
    refine WP.once ?_;simp only[T190b,Tr.sure,SS,Int.lt_irrefl,hnn,hb,hW,hgo];repeat' with_reducible first|intro _|apply aI
    all_goals first|exact k192|exact ih|(simp[h,rh,hd0,hd6,hd7,Go,Ends',-List.getD_eq_getElem?_getD, *];done)|(simp_all [h,rh,hd0,hd6,hd7,Go,Ends',-List.getD_eq_getElem?_getD];done)|skip
    all_goals first
     |exact h
     |exact t1 _ _ (by assumption)
     |exact(rfl:underL 0 [V.int .i64 _,V.int .i64 _]=true)
   |false=>
    have h:=h2' hgo;rw[hgo]at ih;clear h1' h2'
    refine WP.once ?_;simp only[T190b,Tr.sure,SS,Int.lt_irrefl,hnn,hb,hW,hgo];repeat' with_reducible first|intro _|apply aI
    all_goals first|exact k192|exact ih|(simp[h,rh,hd0,hd6,hd7,Go,Ends',-List.getD_eq_getElem?_getD, *];done)|(simp_all [h,rh,hd0,hd6,hd7,Go,Ends',-List.getD_eq_getElem?_getD];done)|skip
    all_goals first
     |exact h
     |exact t1 _ _ (by assumption)
     |exact(rfl:underL 0 [V.int .i64 _,V.int .i64 _]=true)
end
noncomputable section
abbrev nextM(s:Shop)(L0:LL):V:=fG 190 [rR (lkS s L0),.ref 1 0 0,.ref 2 0 0,.ref 3 0 0]
abbrev H4M(X:Ext)(s:Shop)(L0:LL)(p:FC × List V):List Blk:=[.ext X p.2,.cells [.yld 0],.rows 152 2 4 (rowsFn tCast p.1),.cells [nextM s L0]]
abbrev HM(X:Ext)(s:Shop)(L0:LL)(hd:Nat)(L:LL)(p:FC × List V):List Blk:=H4M X s L0 p++ [.cells [iI (hd:Int)],.rows 155 8 2 (rowsFn tFour L),.cells [.bool false]]
def stepH(X:Ext)(s:Shop)(hd:Nat)(L:LL):FC × List V->Cast->FC × List V:=stepM X s hd L fun f L tr=>walkH X s (hd+1) f L tr
theorem extAs_4(X:Ext)(s:Shop)(L0:LL)(p q:FC × List V):extAs (H4M X s L0 p) (H4M X s L0 q):=fun i Y tr' hi=>by
 match i,hi with
 |0,hi=>cases hi;exact⟨p.2,rfl⟩
 |1,hi=>cases hi
 |2,hi=>cases hi
 |3,hi=>cases hi
 |i+4,hi=>simp at hi
set_option maxHeartbeats 4000000 in
theorem body190(X:Ext)(s:Shop)(L0:LL)(hd:Nat)(L:LL)(p:FC × List V)(c:Cast)(lid:Nat)(hok:OkShop s)(hh:hd<s.heads.length)(hm:0<=c.mould/\c.mould<2)(hn:0<=c.number/\c.number<=1000)(hg:X.go p.2=true)
  (ih:okM s hd p.1 L c=true->HCalls Tryz.prog 190 [iI ((hd:Int)+(1:Int)),.arr 8 2 (rowsFn tFour (nextL s hd L c)),rR (lkS s L0),.ref 1 0 0,.ref 2 0 0,.ref 3 0 0] (.bool (X.go (nxM X s hd p.1 L c p.2).2)) (H4M X s L0 (upd p.1 hd c,p.2)) (H4M X s L0 (nxM X s hd p.1 L c p.2))):
  AWP Tryz.prog ⟨some lid,7⟩ (bdyOf (rangeOf Tryz.f190)) (g190b X p.2 s L0 p.1 hd L c .e).2 fun e S2=>e=(bif X.go (stepH X s hd L p c).2 then .normal else .ret)/\S2.h=HM X s L0 hd L (stepH X s hd L p c):=by
 refine AWP.wp mx (T190b X p.2 s L0 p.1 hd L c) (g190b X p.2 s L0 p.1 hd L c) (n190b X p.2 s L0 p.1 hd L c) .e rfl (s190b X p.2 s L0 p.1 hd L c)
  (post:=fun r=>(r=.r0 (stepH X s hd L p c).2 (stepH X s hd L p c).1 (hd:Int) L false/\X.go (stepH X s hd L p c).2=true)\/(r=.r1 (stepH X s hd L p c).2 (stepH X s hd L p c).1 (hd:Int) L false/\X.go (stepH X s hd L p c).2=false)) ?_ (fun r hr=> ?_)
 case refine_2=>
  rcases hr with⟨rfl,hgo⟩|⟨rfl,hgo⟩<;>rw[hgo]<;>exact⟨rfl,rfl⟩
 have hst:okM s hd p.1 L c=true->stepH X s hd L p c=nxM X s hd p.1 L c p.2:=fun q=>by
  show stepM X s hd L _ p c=_;unfold stepM;rw[hg,q];rfl
 have hst0:okM s hd p.1 L c=false->stepH X s hd L p c=p:=fun q=>by
  show stepM X s hd L _ p c=_;unfold stepM;rw[hg,q];rfl
 refine wb190 X p.2 s L0 p.1 hd L c lid hok hh hm hn hg (fun q=> ?_) (fun q=> ?_) (fun q hgo=> ?_) (fun q hgo=> ?_)
 ·exact(ih q).more rfl rfl rfl (extAs_4 X s L0 _ _) [.cells [iI (hd:Int)],.rows 155 8 2 (rowsFn tFour L),.cells [.bool false],.cells [iI c.mould,iI c.number],.rows 155 8 2 (rowsFn tFour (nextL s hd L c))] rfl
 ·left;rw[hst0 q];exact⟨rfl,hg⟩
 ·left;rw[hst q];exact⟨rfl,hgo⟩
 ·right;rw[hst q];exact⟨rfl,hgo⟩
end
noncomputable section
def pM(X:Ext)(s:Shop)(hd:Nat)(L:LL)(p:FC × List V)(k:Nat):FC × List V:=((allCasts s).take k).foldl (stepH X s hd L) p
theorem pM_succ(X:Ext)(s:Shop)(hd:Nat)(L:LL)(p:FC × List V){k:Nat}{c:Cast}(h:(allCasts s)[k]? =some c):pM X s hd L p (k+1)=stepH X s hd L (pM X s hd L p k) c:=by
 unfold pM;rw[List.take_add_one,h,List.foldl_append];rfl
theorem stopK_spec(go:Nat->Bool):∀n k,∃m,stopK go k n=k+m/\m<=n/\(m=n\/go (k+m)=false)
 |0,k=>⟨0,rfl,Nat.le_refl _,.inl rfl⟩
 |n+1,k=>by
  cases h:go k with
  |false=>exact⟨0,by simp[stopK,h],Nat.zero_le _,.inr h⟩
  |true=>
   obtain⟨m,h1,h2,h3⟩:=stopK_spec go n (k+1);refine⟨m+1,by simp only[stopK,h,cond_true];omega,by omega,?_⟩;rcases h3 with h3|h3
   ·exact .inl (by omega)
   ·exact .inr (by rw[show k+(m+1)=k+1+m by omega];exact h3)
theorem pM_end(X:Ext)(s:Shop)(hd:Nat)(L:LL)(p:FC × List V):pM X s hd L p (stopK (fun k=>X.go (pM X s hd L p k).2) 0 (allCasts s).length)=(allCasts s).foldl (stepH X s hd L) p:=by
 obtain⟨m,h1,h2,h3⟩:=stopK_spec (fun k=>X.go (pM X s hd L p k).2) (allCasts s).length 0;rw[Nat.zero_add]at h1 h3;rw[h1];rcases h3 with h3|h3
 ·rw[h3];unfold pM;rw[List.take_length]
 ·have:(allCasts s).foldl (stepH X s hd L) p=((allCasts s).drop m).foldl (stepH X s hd L) (pM X s hd L p m):=by
   unfold pM;rw[<-List.foldl_append,List.take_append_drop]
  rw[this];exact(foldM_stop X s hd L _ h3 _).symm
theorem walkH_step(X:Ext)(s:Shop){hd:Nat}(f:FC)(L:LL)(tr:List V)(h:hd<s.heads.length):walkH X s hd f L tr=(allCasts s).foldl (stepH X s hd L) (f,tr):=by
 unfold stepH walkH
 obtain⟨n,hn⟩:∃n,s.heads.length-hd=n+1:=⟨s.heads.length-hd-1,by omega⟩
 rw[hn,show s.heads.length-(hd+1)=n by omega];rfl
theorem extAs_7(X:Ext)(s:Shop)(L0:LL)(hd:Nat)(L:LL)(p q:FC × List V)(rest:List Blk)(hr:noExt rest=true):extAs (HM X s L0 hd L p) (HM X s L0 hd L q++rest):=fun i Y tr' hi=>by
 cases i with
 |zero=>cases hi;exact⟨p.2,rfl⟩
 |succ i=>
  have hn:noExt (([.cells [.yld 0],.rows 152 2 4 (rowsFn tCast q.1),.cells [nextM s L0],.cells [iI (hd:Int)],.rows 155 8 2 (rowsFn tFour L),.cells [.bool false]]:List Blk)++rest)=true:=by
   unfold noExt at hr⊢;rw[List.all_append,hr];rfl
  exact absurd (show(([.cells [.yld 0],.rows 152 2 4 (rowsFn tCast q.1),.cells [nextM s L0],.cells [iI (hd:Int)],.rows 155 8 2 (rowsFn tFour L),.cells [.bool false]]:List Blk)++rest)[i]? =some (.ext Y tr')from hi) (noExt_not hn)
abbrev t190(s:Shop)(L0:LL):List V:=[uU,uU,rR (lkS s L0),.ref 1 0 0,.ref 2 0 0,.ref 3 0 0,.ref 4 0 0,.ref 5 0 0,.ref 6 0 0]++List.replicate 19 uU++ [fG 215 [rR (lkS s L0)]]++List.replicate 31 uU
set_option maxHeartbeats 4000000 in
theorem range190(X:Ext)(s:Shop)(L0:LL)(hd:Nat)(L:LL)(f:FC)(tr:List V)(hok:OkShop s)(hh:hd<s.heads.length)(hg:X.go tr=true)
  (ih:∀k c,(allCasts s)[k]? =some c->X.go (pM X s hd L (f,tr) k).2=true->okM s hd (pM X s hd L (f,tr) k).1 L c=true->HCalls Tryz.prog 190 [iI ((hd:Int)+(1:Int)),.arr 8 2 (rowsFn tFour (nextL s hd L c)),rR (lkS s L0),.ref 1 0 0,.ref 2 0 0,.ref 3 0 0] (.bool (X.go (nxM X s hd (pM X s hd L (f,tr) k).1 L c (pM X s hd L (f,tr) k).2).2)) (H4M X s L0 (upd (pM X s hd L (f,tr) k).1 hd c,(pM X s hd L (f,tr) k).2)) (H4M X s L0 (nxM X s hd (pM X s hd L (f,tr) k).1 L c (pM X s hd L (f,tr) k).2))):
  AWP Tryz.prog ⟨none,4⟩ (rangeOf Tryz.f190) ⟨t190 s L0,HM X s L0 hd L (f,tr),[]⟩
   (fun e T=>e=(bif X.go (walkH X s hd f L tr).2 then .normal else .ret)/\T=⟨t190 s L0,HM X s L0 hd L (walkH X s hd f L tr)++ [.obj (.deferred (some []))],[7]⟩):=by
 have e:rangeOf Tryz.f190=.rangeFunc (.tmp 28) #[29] (asgOf (rangeOf Tryz.f190)) (bdyOf (rangeOf Tryz.f190)):=by kernel_rfl
 have hend:=pM_end X s hd L (f,tr);rw[<-walkH_step X s f L tr hh]at hend;have hlen:(ysC s).length=(allCasts s).length:=by unfold ysC;rw[List.length_map]
 rw[e]
 refine AWP.range (go:=fun k=>X.go (pM X s hd L (f,tr) k).2) (H:=fun k=>HM X s L0 hd L (pM X s hd L (f,tr) k)) (jx:=.ret) (jc:=.ret) (f:=215) (ys:=ysC s) (caps:=[rR (lkS s L0)])
  rfl rfl (PCalls.enters Tryz.func215 (c:=Tryz.f215.body.getD .skip) (by kernel_rfl) (by kernel_rfl)) (c215 s L0 hok) rfl (fun _=>rfl) (fun k=>extAs_7 X s L0 hd L _ _ [] rfl) (fun k j hj=>absurd hj (List.not_mem_nil)) hg rfl (fun lid k us hk hgk=> ?_) ?_
 ·obtain⟨c,hc,hy⟩:∃c,(allCasts s)[k]? =some c/\yC c=.tuple us:=by
   unfold ysC at hk;rw[List.getElem?_map]at hk
   cases hf:(allCasts s)[k]? with
   |none=>rw[hf]at hk;cases hk
   |some c=>rw[hf]at hk;exact⟨c,rfl,Option.some.inj hk⟩
  obtain rfl:us=[.agg (tCast.cells c)]:=by unfold yC at hy;cases hy;rfl
  have hco:=mem_allCasts.1 (List.mem_of_getElem? hc);have hnm:=hok.nm;have h5:=(hok.mould _ (getD_mem zMould s.moulds c.mould.toNat (by have:=hco.1;have:=hco.2.1;omega))).1.2;have hm:0<=c.mould/\c.mould<2:=by have:=hco.1;have:=hco.2.1;omega
  have hn:0<=c.number/\c.number<=1000:=by have:=hco.2.2.1;have:=hco.2.2.2;omega
  have hb:=body190 X s L0 hd L (pM X s hd L (f,tr) k) c lid hok hh hm hn hgk (ih k c hc hgk);rw[<-pM_succ X s hd L (f,tr) hc]at hb;refine⟨rfl,?_⟩;generalize pM X s hd L (f,tr) k=p at*
  generalize pM X s hd L (f,tr) (k+1)=p1 at*
  refine AWP.wp mx (T190a X p.2 s L0 p.1 hd L c) (g190a X p.2 s L0 p.1 hd L c) (n190a X p.2 s L0 p.1 hd L c) .e rfl (s190a X p.2 s L0 p.1 hd L c)
   (post:=fun r=>r=.r0 p.2 p.1 (hd:Int) L false c.mould c.number) ?_ (fun r hr=> ?_)
  ·refine WP.step ?_;simp only[T190a,Go,Ends',Tr.sure,SS];repeat' with_reducible first|intro _|apply aI
  ·subst hr;exact⟨rfl,extAs_7 X s L0 hd L (f,tr) p [.cells [iI c.mould,iI c.number]] rfl,hb⟩
 ·rw[hlen,hend];exact⟨rfl,rfl⟩
end
noncomputable section
theorem walkH_end(X:Ext)(s:Shop)(f:FC)(L:LL)(tr:List V){hd:Nat}(h:hd=s.heads.length):walkH X s hd f L tr=(f,tr++ [yM f L]):=by
 unfold walkH;rw[h,Nat.sub_self];rfl
theorem pM_pre(X:Ext)(s:Shop){n hd:Nat}(f:FC)(L:LL)(tr:List V)(hn:hd+(n+1)=s.heads.length)(hp:tr++ysM (leavesM s (n+1) hd f L)<+:X.ys){k:Nat}{c:Cast}(hc:(allCasts s)[k]? =some c)
  (hgk:X.go (pM X s hd L (f,tr) k).2=true) (ho:okM s hd (pM X s hd L (f,tr) k).1 L c=true):
  (pM X s hd L (f,tr) k).2++ysM (leavesM s n (hd+1) (upd (pM X s hd L (f,tr) k).1 hd c) (nextL s hd L c))<+:X.ys:=by
 have hst:stepH X s hd L=stepM X s hd L (walkM X s n (hd+1)):=by
  unfold stepH walkH;rw[show s.heads.length-(hd+1)=n by omega]
 have hs:=foldM_spec X s n hd f L (walkM_spec X s n (hd+1)) ((allCasts s).take k) (f,tr) fun _ _=>rfl;rw[<-hst]at hs;have e:((allCasts s).take k).foldl (stepH X s hd L) (f,tr)=pM X s hd L (f,tr) k:=rfl;rw[e]at hs;generalize pM X s hd L (f,tr) k=p at*
 obtain⟨s1,s2⟩:=hs;have s3:=feed_all (go:=X.go) (a:=ysM (((allCasts s).take k).flatMap fun c=>bif okM s hd f L c then leavesM s n (hd+1) (upd f hd c) (nextL s hd L c)else[])) (tr:=tr) (by rw[<-s1];exact hgk);rw[s1,s3];have hoc:=okM_congr s (fun i hi=>s2 i (.inl hi)) L c;rw[ho]at hoc
 have hlc:=leavesM_congr s n (hd+1) (upd p.1 hd c) (upd f hd c) (nextL s hd L c) fun i hi=>by
  unfold upd;split
  ·rfl
  ·exact s2 i (by omega)
 rw[hlc];refine List.IsPrefix.trans ?_ hp;obtain⟨hl,he⟩:=List.getElem?_eq_some_iff.1 hc
 have hsplit:allCasts s=(allCasts s).take k++c::(allCasts s).drop (k+1):=by
  conv=>lhs;rw[<-List.take_append_drop k (allCasts s)]
  rw[List.drop_eq_getElem_cons hl,he]
 have hB:leavesM s (n+1) hd f L=(((allCasts s).take k).flatMap fun c=>bif okM s hd f L c then leavesM s n (hd+1) (upd f hd c) (nextL s hd L c)else[])++(leavesM s n (hd+1) (upd f hd c) (nextL s hd L c)++(((allCasts s).drop (k+1)).flatMap fun c=>bif okM s hd f L c then leavesM s n (hd+1) (upd f hd c) (nextL s hd L c)else[])):=by
  have h1:leavesM s (n+1) hd f L=(allCasts s).flatMap fun c=>bif okM s hd f L c then leavesM s n (hd+1) (upd f hd c) (nextL s hd L c)else[]:=by
   conv=>lhs;unfold leavesM
  rw[h1];conv=>lhs;rw[hsplit]
  rw[List.flatMap_append,List.flatMap_cons,<-hoc];rfl
 have hm:∀a b:List MTru,ysM (a++b)=ysM a++ysM b:=fun a b=>List.map_append;rw[hB,hm,hm,List.append_assoc];exact(List.prefix_append_right_inj tr).2 ((List.prefix_append_right_inj _).2 (List.prefix_append _ _))
set_option maxHeartbeats 4000000 in
theorem c190(X:Ext)(hY:YSpec Tryz.prog X)(s:Shop)(L0:LL)(hok:OkShop s):∀(n hd:Nat) (f:FC) (L:LL) (tr:List V),hd+n=s.heads.length->X.go tr=true->tr++ysM (leavesM s n hd f L)<+:X.ys->
  HCalls Tryz.prog 190 [iI (hd:Int),.arr 8 2 (rowsFn tFour L),rR (lkS s L0),.ref 1 0 0,.ref 2 0 0,.ref 3 0 0] (.bool (X.go (walkH X s hd f L tr).2)) (H4M X s L0 (f,tr)) (H4M X s L0 (walkH X s hd f L tr))
 |0,hd,f,L,tr,hn,hg,hp=>by
  have hh:hd=s.heads.length:=by omega
  rw[walkH_end X s f L tr hh];have hi:((hd:Int)==(s.heads.length:Int))=true:=by rw[hh];simp
  have hp':tr++ [V.tuple [V.agg (tMTru.cells ⟨f,L⟩)]]<+:X.ys:=hp;refine w190 X tr s L0 f hd L (Nat.le_refl 4) (WP.step ?_);simp only[T190,Go,Ends',v190,Tr.sure,SS,hi];repeat' with_reducible first|intro _|apply aI
  all_goals first|exact hY|exact hp'|exact(by with_reducible exact vle_one _ _)|(simp[hh190,yM,hg,Go,Ends',v190,-List.getD_eq_getElem?_getD, *];done)|skip
  all_goals first
   |exact rfl
 |n+1,hd,f,L,tr,hn,hg,hp=>by
  have hlt:hd<s.heads.length:=by omega
  have hi:((hd:Int)==(s.heads.length:Int))=false:=by rw[beq_eq_false_iff_ne];omega
  have hr:=range190 X s L0 hd L f tr hok hlt hg fun k c hc hgk ho=>by
   have ih:=c190 X hY s L0 hok n (hd+1) (upd (pM X s hd L (f,tr) k).1 hd c) (nextL s hd L c) (pM X s hd L (f,tr) k).2 (by omega) hgk (pM_pre X s f L tr hn hp hc hgk ho);rw[show((hd+1:Nat):Int)=(hd:Int)+(1:Int) by omega]at ih;exact ih
  have k191:=c191 L0 s
  cases hgo:X.go (walkH X s hd f L tr).2 with
  |true=>
   rw[hgo]at hr;refine w190 X tr s L0 f hd L (Nat.le_refl 4) (WP.step ?_);simp only[T190,Go,Ends',v190,Tr.sure,SS,hi,hgo];repeat' with_reducible first|intro _|apply aI
   all_goals first|exact k191|exact hr|(simp[hh190,Go,Ends',v190,-List.getD_eq_getElem?_getD, *];done)
   all_goals first
    |exact rfl
    |exact⟨rfl,rfl⟩
  |false=>
   rw[hgo]at hr;refine w190 X tr s L0 f hd L (Nat.le_refl 4) (WP.step ?_);simp only[T190,Go,Ends',v190,Tr.sure,SS,hi,hgo];repeat' with_reducible first|intro _|apply aI
   all_goals first|exact k191|exact hr|(simp[hh190,Go,Ends',v190,-List.getD_eq_getElem?_getD, *];done)
   all_goals first
    |exact rfl
    |exact⟨rfl,rfl⟩
inductive P189
 |e
inductive R189
 |r0 (r0:List V)
noncomputable def T189(X:Ext)(s:Shop)(L0:LL):P189->Tr P189 R189
 |.e=>let c1:List V:=[fG 190 [rR (lkS s L0),.ref 1 0 0,.ref 2 0 0,.ref 3 0 0]];(.wait 4 (.telb 2 2 4 (fun _ j=>([iI 0,iI 0]:List V).getD j uU) (rowsFn tCast (fun _=>tCast.zero)) (.front [] [] true true (.hcall 190 [iI 0,.agg [iI ((L0 0 0).lo),iI ((L0 0 0).hi),iI ((L0 0 1).lo),iI ((L0 0 1).hi),iI ((L0 0 2).lo),iI ((L0 0 2).hi),iI ((L0 0 3).lo),iI ((L0 0 3).hi),iI ((L0 1 0).lo),iI ((L0 1 0).hi),iI ((L0 1 1).lo),iI ((L0 1 1).hi),iI ((L0 1 2).lo),iI ((L0 1 2).hi),iI ((L0 1 3).lo),iI ((L0 1 3).hi)],rR (lkS s L0),.ref 1 0 0,.ref 2 0 0,.ref 3 0 0] (.bool (X.go (walkH X s 0 (fun _=>tCast.zero) L0 ([])).2)) [.ext X ([]),.cells [.yld 0],.rows 152 2 4 (rowsFn tCast (fun _=>tCast.zero)),.cells c1] [.ext X ((walkH X s 0 (fun _=>tCast.zero) L0 ([])).2),.cells [.yld 0],.rows 152 2 4 (rowsFn tCast ((walkH X s 0 (fun _=>tCast.zero) L0 ([])).1)),.cells c1] true (.out (.r0 ((walkH X s 0 (fun _=>tCast.zero) L0 ([])).2)))))))
noncomputable def g189(X:Ext)(s:Shop)(L0:LL):P189->List Item × St
 |.e=>([.code (Tryz.f189.body.getD .skip)],⟨[.yld 0,rR (lkS s L0)]++List.replicate 10 uU,[.ext X ([])],[]⟩)
noncomputable def n189(X:Ext)(s:Shop)(L0:LL):R189->Exit × St
 |.r0 r0=>(.normal,⟨mk 12 [],[.ext X r0],[]⟩)
theorem s189(X:Ext)(s:Shop)(L0:LL):Sm 1 (g189 X s L0) (T189 X s L0) (n189 X s L0)
 |.e=>⟨400,by kernel_rfl⟩
noncomputable def hh189(X:Ext)(s:Shop)(L0:LL):R189->List Blk
 |.r0 r0=>[.ext X r0]
noncomputable def v189(X:Ext)(s:Shop)(L0:LL):R189->V
 |.r0 r0=>.tuple []
theorem q189(X:Ext)(s:Shop)(L0:LL):∀r,((n189 X s L0 r).1=.normal\/(n189 X s L0 r).1=.ret)/\(n189 X s L0 r).2.d=[]/\(n189 X s L0 r).2.h=hh189 X s L0 r/\resultV Tryz.prog Tryz.f189 (n189 X s L0 r).2=some (v189 X s L0 r)
 |.r0 r0=>⟨.inl rfl,rfl,rfl,by kernel_rfl⟩
theorem w189(X:Ext)(s:Shop)(L0:LL){V0:V}{h':List Blk}(h:WP Tryz.prog ⟨none,1⟩ (T189 X s L0) (Ends' fun r=>v189 X s L0 r=V0/\hh189 X s L0 r=h') .e):HCalls Tryz.prog 189 [.yld 0,rR (lkS s L0)] V0 [.ext X ([])] h':=
 HCalls.wp mx Tryz.func189 (by kernel_rfl) (by kernel_rfl) (T189 X s L0) (g189 X s L0) (n189 X s L0) .e rfl (s189 X s L0) h fun r hr=>by rw[<-hr.1,<-hr.2];exact q189 X s L0 r
theorem VLe.four(L:LL):VLe (.agg [iI ((L 0 0).lo),iI ((L 0 0).hi),iI ((L 0 1).lo),iI ((L 0 1).hi),iI ((L 0 2).lo),iI ((L 0 2).hi),iI ((L 0 3).lo),iI ((L 0 3).hi),iI ((L 1 0).lo),iI ((L 1 0).hi),iI ((L 1 1).lo),iI ((L 1 1).hi),iI ((L 1 2).lo),iI ((L 1 2).hi),iI ((L 1 3).lo),iI ((L 1 3).hi)]) (.arr 8 2 (rowsFn tFour L)):=fun G β x hx=>by
 cases hx with
 |agg hs h=>
  refine .arr (by rw[<-hs];rfl) fun r j hr hj=> ?_;have h1:=h (r*8+j) (by show r*8+j<16;omega);have hi:∀ {v:V} {y:Value} {n:Int},v=iI n->Rel G β v y->Rel G [] v y:=fun e q=>by subst e;cases q;exact .int _ _
  rcases show r=0\/r=1 by omega with rfl|rfl<;>rcases show j=0\/j=1\/j=2\/j=3\/j=4\/j=5\/j=6\/j=7 by omega with rfl|rfl|rfl|rfl|rfl|rfl|rfl|rfl<;>exact hi rfl h1
theorem c189(s:Shop)(hok:OkShop s):Iter Tryz.prog 189 [rR (lkS s (lookM s))] (ysM (allM s)):=by
 intro X hX hY hg;refine⟨.tuple [],?_⟩;have hp:[]++ysM (leavesM s s.heads.length 0 (fun _=>tCast.zero) (lookM s))<+:X.ys:=by rw[List.nil_append,hX];exact List.prefix_refl _
 have ih:=c190 X hY s (lookM s) hok s.heads.length 0 (fun _=>tCast.zero) (lookM s) [] (by omega) hg hp;have hw:=(walkM_spec X s s.heads.length 0 (fun _=>tCast.zero) (lookM s) [] hg).1;have hw2:(walkH X s 0 (fun _=>tCast.zero) (lookM s) []).2=feed X.go [] (ysM (allM s)):=hw
 have ih2:=ih.vle (args':=[iI 0,.agg [iI ((lookM s 0 0).lo),iI ((lookM s 0 0).hi),iI ((lookM s 0 1).lo),iI ((lookM s 0 1).hi),iI ((lookM s 0 2).lo),iI ((lookM s 0 2).hi),iI ((lookM s 0 3).lo),iI ((lookM s 0 3).hi),iI ((lookM s 1 0).lo),iI ((lookM s 1 0).hi),iI ((lookM s 1 1).lo),iI ((lookM s 1 1).hi),iI ((lookM s 1 2).lo),iI ((lookM s 1 2).hi),iI ((lookM s 1 3).lo),iI ((lookM s 1 3).hi)],rR (lkS s (lookM s)),.ref 1 0 0,.ref 2 0 0,.ref 3 0 0]) rfl fun j hj=>by
  rcases show j=0\/j=1\/j=2\/j=3\/j=4\/j=5 by have:j<6:=hj;omega with rfl|rfl|rfl|rfl|rfl|rfl
  ·exact VLe.refl _
  ·exact VLe.four _
  ·exact VLe.refl _
  ·exact VLe.refl _
  ·exact VLe.refl _
  ·exact VLe.refl _
 rw[<-hw2];refine w189 X s (lookM s) (WP.step ?_);simp only[T189,Go,Ends',v189,Tr.sure,SS,z5];repeat' with_reducible first|intro _|apply aI
 all_goals first|exact ih2|exact(by with_reducible exact tel_zeroC _ _)|(simp[hh189,Go,Ends',v189,-List.getD_eq_getElem?_getD, *];done)
 all_goals first
  |exact rfl
end
end Go.Proofs.YtdamoemndifpmaaGreat
