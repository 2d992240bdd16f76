/-
  Part of the proof of the Claim laws. Conditions: those that stand in each theorem.
-/
import Derived.Test.YtdamoemndifpmaaGreatRows
import Derived.ChangeArms
import Derived.ChangeSame
import Derived.WideKeyArgs
import Derived.WalkKit
import Derived.ProofKit
import Derived.OpenShut
import Derived.JoinedCond
import Derived.Test.YtdamoemndifpmaaGreatB17
set_option linter.unusedSimpArgs false
set_option linter.unusedVariables false
set_option maxRecDepth 100000
namespace Go.Proofs.YtdamoemndifpmaaGreat
open Ab Go
noncomputable section
theorem same_all{s:Shop}{a b:Nat}(h:sameR s a b=1):∀t∈allM s,(t.casts a).mould=(t.casts b).mould:=by
 unfold sameR at h;split at h
 ·rename_i h1;intro t ht;have:=List.countP_eq_length.1 h1 t ht;simpa[sameP]using this
 ·split at h<;>cases h
theorem ord_le(a b:Nat):∀(l:List MTru) (p:Int × Int),(l.foldl (ordS a b) p).2-(l.foldl (ordS a b) p).1<=p.2-p.1
 |[],_=>Int.le_refl _
 |t::l,p=>by
  rw[List.foldl_cons];have h1:=ord_le a b l (ordS a b p t);have hc:=cmpI_in (t.casts b).number (t.casts a).number
  have h2:(ordS a b p t).2-(ordS a b p t).1<=p.2-p.1:=by
   unfold ordS;split
   ·simp only;omega
   ·exact Int.le_refl _
  omega
theorem ord_all(a b:Nat):∀(l:List MTru) (p:Int × Int),(∀t∈l,(t.casts a).mould=(t.casts b).mould)->p.2-p.1<=(l.foldl (ordS a b) p).2-(l.foldl (ordS a b) p).1->∀t∈l,(t.casts a).number<(t.casts b).number
 |[],_,_,_,t,ht=>absurd ht List.not_mem_nil
 |t::l,p,hs,h,u,hu=>by
  rw[List.foldl_cons]at h;have h1:=ord_le a b l (ordS a b p t);have hc:=cmpI_in (t.casts b).number (t.casts a).number;have e:ordS a b p t=(p.1+1,p.2+cmpI (t.casts b).number (t.casts a).number):=if_pos (hs t List.mem_cons_self);have e1:(ordS a b p t).2-(ordS a b p t).1=p.2-p.1+(cmpI (t.casts b).number (t.casts a).number-1):=by rw[e];simp only;omega
  rcases List.mem_cons.1 hu with rfl|hu
  ·have hc1:cmpI (u.casts b).number (u.casts a).number=1:=by omega
   unfold cmpI at hc1;split at hc1
   ·cases hc1
   ·split at hc1
    ·omega
    ·cases hc1
  ·exact ord_all a b l (ordS a b p t) (fun v hv=>hs v (List.mem_cons_of_mem _ hv)) (by omega) u hu
theorem order_all{s:Shop}{a b:Nat}(h1:(orderR s a b).1=1)(h2:(orderR s a b).2=0)(hs:∀t∈allM s,(t.casts a).mould=(t.casts b).mould):∀t∈allM s,(t.casts a).number<(t.casts b).number:=by
 have hk:(ordK a b (allM s)).2=(ordK a b (allM s)).1:=by
  unfold orderR at h1 h2;split at h1
  ·cases h1
  ·split at h1
   ·assumption
   ·split at h1<;>cases h1
 exact ord_all a b (allM s) (0,0) hs (by unfold ordK at hk;rw[hk];simp)
theorem some_check{x:Case}(h:someR x=true):(caseCheck x).2.2=0/\(shopCheck x.shop).2.2=0/\truths x.shop≠ []:=by
 unfold someR validR at h;rw[Bool.and_eq_true,beq_iff_eq,decide_eq_true_eq]at h;refine⟨h.1,?_,fun e=>by rw[e]at h;exact absurd h.2 (Nat.lt_irrefl 0)⟩;have h1:=h.1;simp only[caseCheck]at h1;split at h1
 ·rename_i q;exact absurd h1 q
 ·rename_i q;exact Classical.byContradiction q
theorem allM_ne{x:Case}(h:someR x=true)(hok:OkCase x):allM x.shop≠ []:=by
 obtain⟨l,hl⟩:=List.exists_mem_of_ne_nil _ (some_check h).2.2;obtain⟨t,ht,_⟩:=allM_truths hok.shop hl;exact List.ne_nil_of_mem ht
theorem older_met{x:Case}(hs:someR x=true){m:Int}(hm:0<=m/\m<x.shop.moulds.length){i:Nat}(hi:i<x.owners.length)(ho:x.owners.getD i 0=0)(hall:(mayR x.shop i).all (fun c=>c.mould==m)=true)
  (hj:∀j,j<x.owners.length->x.owners.getD j 0=1->((orderR x.shop i j).1=1/\(orderR x.shop i j).2=0)/\sameR x.shop i j=1) (hmet:∃j,j<x.owners.length/\x.owners.getD j 0=1):olderR x m=(0,0):=by
 obtain⟨ht,hok,-⟩:=some_ok hs;have hmany:=hok.many;have hlen:∀l∈truths x.shop,l.length=x.shop.heads.length:=fun l hl=>(grow_mem hl).1;have hleaf:∀l∈truths x.shop,∃t∈allM x.shop,∀k,k<x.shop.heads.length->t.casts k=l.getD k zCast:=fun l hl=>allM_truths hok.shop hl;have he:(truthsE x (indexErr m x.shop.moulds.length)).2=0:=by rw[index_zero hm,ht]
 refine older_sure he (some_check hs).2.2 (fun l hl=>by rw[hlen l hl,hmany];exact Nat.le_refl _) hi ho (fun l hl=>by rw[hlen l hl];omega) (fun l hl=> ?_) (fun j hjl hj1 l hl=> ?_) ?_
 ·obtain⟨t,h1,h2⟩:=hleaf l hl;have h3:=List.all_eq_true.1 hall _ (mayR_mem (u:=i) (by omega) h1);rw[<-h2 i (by omega)];simpa using h3
 ·obtain⟨t,h1,h2⟩:=hleaf l hl;obtain⟨⟨q1,q2⟩,q3⟩:=hj j hjl hj1;have h3:=same_all q3;have h4:=order_all q1 q2 h3 t h1;have h5:=h3 t h1;rw[<-h2 i (by omega),<-h2 j (by omega)];exact⟨h5,h4⟩
 ·obtain⟨j,h1,h2⟩:=hmet;exact⟨j,h1,h2,fun l hl=>by rw[hlen l hl];omega⟩
theorem older_none{x:Case}{n:Int}(h:(truthsE x (indexErr n x.shop.moulds.length)).2≠0):(olderR x n).2≠0:=by
 unfold olderR;rw[if_pos h];exact h
noncomputable def o15_10:Array Oper:=(regOf 10 (Tryz.f15.body.getD .skip)).getD #[]
@[reducible] noncomputable def st15_10 (x:Case) (B:List Int) (io:Int) (im:Int) (c:Nat->Bool):St:=⟨([uU,uU,.ref 0 0 0,uU,uU,uU,uU,iI im,.ref 1 0 0,iI io]++ud 51++ [(bif c 0 then .nils else(uU)),(bif c 1 then .ref 1 0 3 else(uU)),(bif c 2 then tint.lst B else(uU)),(bif c 3 then .row 2 B.length else(uU)),(bif c 4 then .ref 0 0 3 else(uU)),(bif c 5 then tint.lst x.owners else(uU)),(bif c 6 then iI io else(uU)),(bif c 7 then rR (iI (x.owners.getD (io).toNat tint.zero))else(uU)),(bif c 8 then iI (x.owners.getD (io).toNat tint.zero)else(uU)),(bif c 9 then iI ((1:Int)-(x.owners.getD (io).toNat tint.zero))else(uU)),(bif c 10 then .list 1 1 (litC 1 1 [iI ((1:Int)-(x.owners.getD (io).toNat tint.zero))])else(uU))]++ud 161),[.cells (cC x),.cells [iI x.shop.features,tMould.lst x.shop.moulds,tHead.lst x.shop.heads,tint.lst B,tClaim.lst x.claims],(bif c 3 then .rows 3 1 B.length (rowsOf tint B)else(.void))],[]⟩
def t15_10:Tab:=[([],[1,2,4,5,6,7,8,9,10]),([],[0,4,5,6,7,8,9,10]),([1],[0,4,5,6,7,8,9,10]),([0,1,2],[4,5,6,7,8,9,10]),([],[0,1,2,3,6]),([4],[0,1,2,3,6]),([],[0,1,2,3,4,5]),([4,5,6],[0,1,2,3]),([4,5,6,7],[0,1,2,3]),([4,5,6,7,8],[0,1,2,3]),([4,5,6,7,8,9],[0,1,2,3])]
theorem ov15_10(x:Case)(B:List Int)(io:Int)(im:Int)(h0:0<=io)(h1:io<(x.owners.length:Int))(hr:inR .i64 ((1:Int)-(x.owners.getD io.toNat tint.zero))=true)(hB:B.length+1<=4294967296):AWP Tryz.prog ⟨none,0⟩ (regionOf Tryz.f15 10) ⟨([uU,uU,.ref 0 0 0,uU,uU,uU,uU,iI im,.ref 1 0 0,iI io]++ud 223),[.cells (cC x),.cells [iI x.shop.features,tMould.lst x.shop.moulds,tHead.lst x.shop.heads,tint.lst B,tClaim.lst x.claims]],[]⟩ (fun e T=>e=.normal/\T=⟨([uU,uU,.ref 0 0 0,uU,uU,uU,uU,iI im,.ref 1 0 0,iI io]++ud 51++ [.nils,.ref 1 0 3,tint.lst B,uU,.ref 0 0 3,tint.lst x.owners,iI io,rR (iI (x.owners.getD (io).toNat tint.zero)),iI (x.owners.getD (io).toNat tint.zero),iI ((1:Int)-(x.owners.getD (io).toNat tint.zero)),.list 1 1 (litC 1 1 [iI ((1:Int)-(x.owners.getD (io).toNat tint.zero))]),.row 2 (B.length+1),.ref 1 0 3]++ud 159),[.cells (cC x),.cells [iI x.shop.features,tMould.lst x.shop.moulds,tHead.lst x.shop.heads,.row 2 (B.length+1),tClaim.lst x.claims],.rows 3 1 (B.length+1) (appC B.length (rowsOf tint B) (litC 1 1 [iI ((1:Int)-(x.owners.getD (io).toNat tint.zero))]))],[]⟩):=by
 refine AWP.region_bits (ops:=o15_10) 11 1 t15_10 mx (st15_10 x B io im) (fun z_i z_h c=> ?_) ?_
 ·rcases show z_i=0\/z_i=1\/z_i=2\/z_i=3\/z_i=4\/z_i=5\/z_i=6\/z_i=7\/z_i=8\/z_i=9\/z_i=10 by omega with rfl|rfl|rfl|rfl|rfl|rfl|rfl|rfl|rfl|rfl|rfl
  ·exact AStep.lt 26 3 0 #[] [iI 0] []
  ·exact AStep.rd true (.ref 1 0 3) rfl
  ·exact AStep.rd true (tint.lst B) rfl
  ·refine AStep.ap0 (.tmp 61) (.tmp 63) 26 3 2 1 B.length (rowsOf tint B) [iI 0] ?_ ?_
   ·first|omega|(simp;done)|(simp;omega)
   ·intro r hr j hj;first|(have hj0:j=0:=by omega;subst hj0;rfl)|(rcases show j=0 by omega with rfl<;>rfl)
  ·exact AStep.rd true (.ref 0 0 3) rfl
  ·exact AStep.rd true (tint.lst x.owners) rfl
  ·exact AStep.rd true (iI io) rfl
  ·refine AStep.rd ((decide (0<=io)&&decide (io<(x.owners.length:Int)))) (rR (iI (x.owners.getD (io).toNat tint.zero))) ?_;first|assumption|rfl|(simp[*];done)|(simp;omega)|(simp only[Bool.and_eq_true,decide_eq_true_eq];omega)
  ·exact AStep.rd true (iI (x.owners.getD (io).toNat tint.zero)) rfl
  ·refine AStep.rd (inR .i64 ((1:Int)-(x.owners.getD (io).toNat tint.zero))) (iI ((1:Int)-(x.owners.getD (io).toNat tint.zero))) ?_;first|assumption|rfl|(simp[*];done)|(simp;omega)|(simp only[Bool.and_eq_true,decide_eq_true_eq];omega)
  ·exact AStep.lt 26 3 1 #[(0,.tmp 70)] [iI 0] [iI ((1:Int)-(x.owners.getD (io).toNat tint.zero))]
 ·refine AOps.tree (g:=(.need ((decide (B.length=B.length)&&decide (B.length+1<=4294967296))&&true) (.scal (fun _=>true) (.done .normal ⟨([uU,uU,.ref 0 0 0,uU,uU,uU,uU,iI im,.ref 1 0 0,iI io]++ud 51++ [.nils,.ref 1 0 3,tint.lst B,uU,.ref 0 0 3,tint.lst x.owners,iI io,rR (iI (x.owners.getD (io).toNat tint.zero)),iI (x.owners.getD (io).toNat tint.zero),iI ((1:Int)-(x.owners.getD (io).toNat tint.zero)),.list 1 1 (litC 1 1 [iI ((1:Int)-(x.owners.getD (io).toNat tint.zero))]),.row 2 (B.length+1),.ref 1 0 3]++ud 159),[.cells (cC x),.cells [iI x.shop.features,tMould.lst x.shop.moulds,tHead.lst x.shop.heads,.row 2 (B.length+1),tClaim.lst x.claims],.rows 3 1 (B.length+1) (appC B.length (rowsOf tint B) (litC 1 1 [iI ((1:Int)-(x.owners.getD (io).toNat tint.zero))]))],[]⟩)))) (by kernel_rfl) ?_
  simp only[DT.holds];repeat' (first|exact rfl|refine And.intro ?_ ?_)
  all_goals first|(simp;done)|(simp;omega)
inductive P15
 |e
 |l0 (x0_9:Int) (c0_1_3:List Int)
 |l1 (x1_14:Int)
 |l2 (x1_14:Int) (x2_17:Bool) (x2_18:Int)
 |l3 (x1_14:Int) (x3_17:Bool) (x3_19:Bool) (x3_20:Int)
inductive R15
 |r0 (r0:Bool)
noncomputable def T15(x:Case)(w:Int):P15->Tr P15 R15
 |.e=>let c1:Tr P15 R15:=.call 37 [.agg (cC x),iI 0] (.tuple [iI ((olderR x 0).1),iI ((olderR x 0).2)]) true true (.br ((olderR x 0).2 !=(0:Int)) (.call 23 [] (.bool true) true true (.out (.r0 true))) (.out (.r0 false)));let c2:=(x.shop.moulds.length:Int);(.call 46 [.agg (cC x)] (.bool (someR x)) true true (.br (!(someR x)) (.lit true c1) (.br (c2==(0:Int)) c1 (.need (inR .i64 w) (.need (decide (c2≠0)) (.wait 8 (.telc 1 [iI x.shop.features,tMould.lst x.shop.moulds,tHead.lst x.shop.heads,.nils,tClaim.lst x.claims] [iI x.shop.features,tMould.lst x.shop.moulds,tHead.lst x.shop.heads,tint.lst ([]:List Int),tClaim.lst x.claims] (.go (.l0 0 ([]:List Int))))))))))
 |.l0 x0_9 c0_1_3=>let c2:=w.tmod (x.shop.moulds.length:Int);let c4:=olderR (⟨(⟨x.shop.features,x.shop.moulds,x.shop.heads⟩:Shop),c0_1_3,x.claims⟩:Case) c2;let c5:=c0_1_3.length+1;let c6:List V:=[iI x.shop.features,tMould.lst x.shop.moulds,tHead.lst x.shop.heads,tint.lst c0_1_3,tClaim.lst x.claims];let c9:Tr P15 R15:=.lit true (.out (.r0 false));let c10:=olderR x c2;let c1:Tr P15 R15:=.br (c10.2==(0:Int)) (.br (decide (c10.1<(0:Int))) (.lit true (.lit true (.lit true (.lit true (.lit true (.lit true (.lit true c9))))))) (.lit true (.br (decide (c10.1>(2:Int))) (.lit true (.lit true (.lit true (.lit true (.lit true c9))))) (.br (c10.1==(2:Int)) (.lit false (.lit true (.br (c4.1 !=c10.1) (.lit true (.lit true c9)) (.br (c10.1 !=(2:Int)) (.need (inR .i64 ((1:Int)-c10.1)) (.lit false (.lit true (.br (c4.1 !=((1:Int)-c10.1)) (.out (.r0 false)) (.go (.l1 0)))))) (.lit false (.lit true (.lit false (.go (.l1 0))))))))) (.lit false (.lit true (.lit false (.br (c10.1 !=(2:Int)) (.need (inR .i64 ((1:Int)-c10.1)) (.lit false (.lit true (.br (c4.1 !=((1:Int)-c10.1)) (.out (.r0 false)) (.go (.l1 0)))))) (.lit false (.lit true (.lit false (.go (.l1 0))))))))))))) (.lit false (.lit false (.lit false (.lit false (.go (.l1 0))))));let c11:=x.owners.getD (x0_9).toNat tint.zero;let c3:=(1:Int)-c11;let c7:=c0_1_3++ [c3];let c8:=appC c0_1_3.length (rowsOf tint c0_1_3) (litC 1 1 [iI c3]);let c12:=rowsOf tint c7;let c13:=(decide (c5<=c5))&&true;let c14:Tr P15 R15:=.lit true (.lit false c9);(.br (decide (x0_9<(x.owners.length:Int))) (.wait 3 (.drop ⟨([uU,uU,.nil,uU,uU,uU,uU,.nil,.nil,.nil]++ud 223),[.void,.void],[]⟩ (.over (regionOf Tryz.f15 10) ⟨([uU,uU,.ref 0 0 0,uU,uU,uU,uU,iI c2,.ref 1 0 0,iI x0_9]++ud 223),[.cells (cC x),.cells c6],[]⟩ .normal ⟨([uU,uU,.ref 0 0 0,uU,uU,uU,uU,iI c2,.ref 1 0 0,iI x0_9]++ud 51++ [.nils,.ref 1 0 3,tint.lst c0_1_3,uU,.ref 0 0 3,tint.lst x.owners,iI x0_9,rR (iI c11),iI c11,iI c3,.list 1 1 (litC 1 1 [iI c3]),.row 2 c5,.ref 1 0 3]++ud 159),[.cells (cC x),.cells [iI x.shop.features,tMould.lst x.shop.moulds,tHead.lst x.shop.heads,.row 2 c5,tClaim.lst x.claims],.rows 3 1 c5 c8],[]⟩ true (.telb 2 1 c5 c8 c12 (.wait 1 (.frz 2 (c13&&(c13&&true)) (.vle 72 (.list 1 c5 c12) (tint.lst c7) (.telc 1 [iI x.shop.features,tMould.lst x.shop.moulds,tHead.lst x.shop.heads,.list 1 c5 c12,tClaim.lst x.claims] [iI x.shop.features,tMould.lst x.shop.moulds,tHead.lst x.shop.heads,tint.lst c7,tClaim.lst x.claims] (.need (inR .i64 (x0_9+(1:Int))) (.go (.l0 (x0_9+(1:Int)) c7))))))))))) (.call 37 [.agg (cC x),iI c2] (.tuple [iI (c10.1),iI (c10.2)]) true true (.call 37 [.agg c6,iI c2] (.tuple [iI (c4.1),iI (c4.2)]) true true (.br (c10.2 !=c4.2) (.lit true c9) (.br (c10.2 !=(0:Int)) (.br (c10.2 !=(9:Int)) (.lit true (.lit true c14)) (.lit true (.br (c10.1 !=(0:Int)) c14 (.lit true (.lit false (.br (c4.1 !=(0:Int)) (.out (.r0 false)) c1)))))) (.lit false (.lit false (.lit false (.lit false c1)))))))))
 |.l1 x1_14=>let c1:=x1_14<(x.owners.length:Int);(.br (decide c1) (.call 54 [.agg (tShop.cells x.shop),iI x1_14] (.tuple [tCast.lst (mayR x.shop (x1_14).toNat),iI 0]) true true (.br ((0:Int)==(0:Int)) (.need (decide (0<=x1_14)&&decide c1) (.go (.l2 x1_14 ((x.owners.getD (x1_14).toNat tint.zero)==(0:Int)) 0))) (.go (.l2 x1_14 false 0)))) (.call 23 [] (.bool true) true true (.out (.r0 true))))
 |.l2 x1_14 x2_17 x2_18=>let c1:=x2_18<(((mayR x.shop (x1_14).toNat).length):Int);let c2:=x2_18+(1:Int);(.br (decide c1) (.br x2_17 (.need (decide (0<=x2_18)&&decide c1) (.need (inR .i64 c2) (.go (.l2 x1_14 (((mayR x.shop (x1_14).toNat).getD (x2_18).toNat tCast.zero).mould==(w.tmod (x.shop.moulds.length:Int))) c2)))) (.need (inR .i64 c2) (.go (.l2 x1_14 false c2)))) (.go (.l3 x1_14 x2_17 false 0)))
 |.l3 x1_14 x3_17 x3_19 x3_20=>let c1:Tr P15 R15:=.br x3_17 (.br x3_19 (.br ((olderR x (w.tmod (x.shop.moulds.length:Int))).2 !=(0:Int)) (.lit true (.lit true (.out (.r0 false)))) (.lit true (.br ((olderR x (w.tmod (x.shop.moulds.length:Int))).1 !=(0:Int)) (.out (.r0 false)) (.need (inR .i64 (x1_14+(1:Int))) (.go (.l1 (x1_14+(1:Int)))))))) (.lit false (.lit false (.need (inR .i64 (x1_14+(1:Int))) (.go (.l1 (x1_14+(1:Int)))))))) (.lit false (.lit false (.lit false (.need (inR .i64 (x1_14+(1:Int))) (.go (.l1 (x1_14+(1:Int))))))));let c3:=orderR x.shop (x1_14).toNat (x3_20).toNat;let c4:=x3_20+(1:Int);let c2:Tr P15 R15:=.need (inR .i64 c4) (.go (.l3 x1_14 false true c4));let c5:List V:=[.agg (tShop.cells x.shop),iI x1_14,iI x3_20];let c6:=sameR x.shop (x1_14).toNat (x3_20).toNat;let c7:=x3_20<(x.owners.length:Int);(.br (decide c7) (.br x3_17 (.need (decide (0<=x3_20)&&decide c7) (.br ((x.owners.getD (x3_20).toNat tint.zero)==(1:Int)) (.call 55 c5 (.tuple [iI (c3.1),iI (c3.2)]) true true (.call 56 c5 (.tuple [iI c6,iI 0]) true true (.br (c3.2==(0:Int)) (.br ((0:Int)==(0:Int)) (.br (c3.1==(1:Int)) (.need (inR .i64 c4) (.go (.l3 x1_14 (c6==(1:Int)) true c4))) c2) (.lit false c2)) (.lit false (.lit false c2))))) (.need (inR .i64 c4) (.go (.l3 x1_14 x3_17 x3_19 c4))))) c1) (.lit false c1))
noncomputable def g15(x:Case)(w:Int):P15->List Item × St
 |.e=>bd Tryz.f15 [.agg (cC x),.int .u8 w] 231
 |.l0 x0_9 c0_1_3=>(cutOf Tryz.f15 0,⟨mk 233 [(2,.ref 0 0 0),(7,iI (w.tmod (x.shop.moulds.length:Int))),(8,.ref 1 0 0),(9,iI x0_9)],[.cells (cC x),.cells [iI x.shop.features,tMould.lst x.shop.moulds,tHead.lst x.shop.heads,tint.lst c0_1_3,tClaim.lst x.claims]],[]⟩)
 |.l1 x1_14=>(cutOf Tryz.f15 1,⟨mk 233 [(2,.ref 0 0 0),(7,iI (w.tmod (x.shop.moulds.length:Int))),(10,iI ((olderR x (w.tmod (x.shop.moulds.length:Int))).1)),(11,iI ((olderR x (w.tmod (x.shop.moulds.length:Int))).2)),(14,iI x1_14)],[.cells (cC x)],[]⟩)
 |.l2 x1_14 x2_17 x2_18=>(cutOf Tryz.f15 2,⟨mk 233 [(2,.ref 0 0 0),(7,iI (w.tmod (x.shop.moulds.length:Int))),(10,iI ((olderR x (w.tmod (x.shop.moulds.length:Int))).1)),(11,iI ((olderR x (w.tmod (x.shop.moulds.length:Int))).2)),(14,iI x1_14),(15,tCast.lst (mayR x.shop (x1_14).toNat)),(17,.bool x2_17),(18,iI x2_18)],[.cells (cC x)],[]⟩)
 |.l3 x1_14 x3_17 x3_19 x3_20=>(cutOf Tryz.f15 3,⟨mk 233 [(2,.ref 0 0 0),(7,iI (w.tmod (x.shop.moulds.length:Int))),(10,iI ((olderR x (w.tmod (x.shop.moulds.length:Int))).1)),(11,iI ((olderR x (w.tmod (x.shop.moulds.length:Int))).2)),(14,iI x1_14),(17,.bool x3_17),(19,.bool x3_19),(20,iI x3_20)],[.cells (cC x)],[]⟩)
noncomputable def n15:R15->Exit × St
 |.r0 r0=>(.ret,⟨mk 233 [(4,.bool r0)],[],[]⟩)
noncomputable def v15:R15->V
 |.r0 r0=>.bool r0
theorem s15(x:Case)(w:Int):Sm 0 (g15 x w) (T15 x w) (n15)
 |.e=>⟨400,by kernel_rfl⟩
 |.l0 _ _=>⟨400,by kernel_rfl⟩
 |.l1 _=>⟨400,by kernel_rfl⟩
 |.l2 _ _ _=>⟨400,by kernel_rfl⟩
 |.l3 _ _ _ _=>⟨400,by kernel_rfl⟩
theorem q15:∀r,bodyQ Tryz.prog Tryz.f15 (·=v15 r) (n15 r).1 (n15 r).2
 |.r0 r0=>bq (.bool r0) (by kernel_rfl)
theorem w15(x:Case)(w:Int){post:V->Prop}(h:WQ (T15 x w) v15 post .e):PC 15 [.agg (cC x),.int .u8 w] post:=
 PCalls.wq Tryz.func15 (s15 x w) q15 h
set_option maxHeartbeats 8000000 in
theorem w15_in(x:Case)(w:Int)(m:Int)(hmw:w.tmod (x.shop.moulds.length:Int)=m)(hok:OkCase x)(hsc:(shopCheck x.shop).2.2=0)(hne:allM x.shop≠ [])(i:Nat)(hi:i<x.owners.length)
  (hmet:x.owners.getD i 0=0->(mayR x.shop i).all (fun c=>c.mould==m)=true->(∀j,j<x.owners.length->x.owners.getD j 0=1->((orderR x.shop i j).1=1/\(orderR x.shop i j).2=0)/\sameR x.shop i j=1)->(∃j,j<x.owners.length/\x.owners.getD j 0=1)->olderR x m=(0,0)):
  WP Tryz.prog ⟨none,0⟩ (T15 x w) (fun y=>y=.inl (.l1 ((i+1:Nat):Int))) (.l1 (i:Int)):=by
 have hmany:=hok.many;have h4:=hok.shop.nh;have hi':(i:Int)<x.owners.length:=by omega
 have hr:inR .i64 ((i:Int)+1)=true:=inR64 (by omega) (by omega);have hzi:tint.zero=0:=rfl;have k54:=c54 x.shop i hsc hok.shop hne (by omega)
 have hlm:(mayR x.shop i).length<=100:=by
  have h1:=(mayK_all (s:=x.shop) (u:=i) (by omega) (allM x.shop).length).1;rw[List.take_length]at h1;have h2:=Nat.le_trans (nodup_le h1.dup h1.all) (casts_len hok.shop);unfold mayR;rw[isortN_len,List.length_reverse];omega
 have hfalse:∀(met:Bool) (j:Nat),j<=x.owners.length->WP Tryz.prog ⟨none,0⟩ (T15 x w) (fun y=>y=.inl (.l1 ((i+1:Nat):Int))) (.l3 (i:Int) false met (j:Int)):=fun met j hj=>by
  by_cases hjl:(j:Int)<x.owners.length
  ·refine WP.once ?_;simp only[T15,Tr.sure,SS,hjl];repeat' with_reducible first|intro _|apply aI
   all_goals simp[hr,Go,Ends',v15,-List.getD_eq_getElem?_getD, *]
  ·refine WP.once ?_;simp only[T15,Tr.sure,SS,hjl];repeat' with_reducible first|intro _|apply aI
   all_goals simp[hr,Go,Ends',v15,-List.getD_eq_getElem?_getD, *]
 have htrue:x.owners.getD i 0=0->(mayR x.shop i).all (fun c=>c.mould==m)=true->WP Tryz.prog ⟨none,0⟩ (T15 x w) (fun y=>y=.inl (.l1 ((i+1:Nat):Int))) (.l3 (i:Int) true false 0):=fun ho hall=>by
  refine WP.count (fun j=>.l3 (i:Int) true ((x.owners.take j).any (·==1)) (j:Int)) rfl x.owners.length (fun j=>∀k,k<j->x.owners.getD k 0=1->((orderR x.shop i k).1=1/\(orderR x.shop i k).2=0)/\sameR x.shop i k=1) (fun k hk=>absurd hk (Nat.not_lt_zero k)) (fun j hj hI=> ?_) fun hI=> ?_
  ·have hj':(j:Int)<x.owners.length:=by omega
   have hrj:inR .i64 ((j:Int)+1)=true:=inR64 (by omega) (by omega)
   have hsn:(x.owners.take (j+1)).any (·==1)=((x.owners.take j).any (·==1)||(x.owners.getD j 0==1)):=by
    rw[take_snoc 0 x.owners j hj,List.any_append,List.any_cons,List.any_nil,Bool.or_false]
   have hnext:∀b:Bool,(x.owners.getD j 0=1->((orderR x.shop i j).1=1/\(orderR x.shop i j).2=0)/\sameR x.shop i j=1)->∀k,k<j+1->x.owners.getD k 0=1->((orderR x.shop i k).1=1/\(orderR x.shop i k).2=0)/\sameR x.shop i k=1:=fun _ h k hk hk1=>by
    by_cases e:k=j
    ·subst e;exact h hk1
    ·exact hI k (by omega) hk1
   rw[hsn];by_cases h1:x.owners.getD j 0=1
   ·have hij:i≠j:=fun e=>by rw[<-e,ho]at h1;cases h1
    have k55:=c55 x.shop i j hsc hok.shop hne (by omega) (by omega) hij;have k56:=c56 x.shop i j hsc hok.shop hne (by omega) (by omega) hij;have hm1:((x.owners.take j).any (·==1)||(x.owners.getD j 0==1))=true:=by rw[h1];simp
    have hf:=hfalse true (j+1) (by omega);rw[hm1];generalize hO:orderR x.shop i j=O at*
    generalize hS:sameR x.shop i j=S at*
    obtain⟨o1,o2⟩:=O;simp only at k55;by_cases g2:o2=0
    ·by_cases g1:o1=1
     ·by_cases g3:S=1
      ·have hn:=hnext true (fun _=>⟨⟨g1,g2⟩,g3⟩);refine WP.step ?_;subst g1;subst g2;subst g3;simp only[T15,Tr.sure,Int.toNat_natCast,hO,hS,hj',h1,hzi,decide_true,true_imp_iff,Bool.true_eq_false,false_imp_iff,and_true,true_and,Int.natCast_nonneg,Bool.and_self,beq_self_eq_true,hrj,Go];exact⟨k55,k56,WP.stop (.inl ⟨rfl,hn⟩)⟩
      ·have g3':(S==1)=false:=by simpa using g3
       refine WP.step ?_;subst g1;subst g2;simp only[T15,Tr.sure,Int.toNat_natCast,hO,hS,hj',h1,hzi,decide_true,true_imp_iff,Bool.true_eq_false,false_imp_iff,and_true,true_and,Int.natCast_nonneg,Bool.and_self,beq_self_eq_true,hrj,Go,g3'];exact⟨k55,k56,hf.mono fun y hy=>.inr (by subst hy;exact WP.stop rfl)⟩
     ·have g1':(o1==1)=false:=by simpa using g1
      refine WP.step ?_;subst g2;simp only[T15,Tr.sure,Int.toNat_natCast,hO,hS,hj',h1,hzi,decide_true,true_imp_iff,Bool.true_eq_false,Bool.false_eq_true,false_imp_iff,and_true,true_and,Int.natCast_nonneg,Bool.and_self,beq_self_eq_true,hrj,Go,g1'];exact⟨k55,k56,hf.mono fun y hy=>.inr (by subst hy;exact WP.stop rfl)⟩
    ·have g2':(o2==0)=false:=by simpa using g2
     refine WP.step ?_;simp only[T15,Tr.sure,Int.toNat_natCast,hO,hS,hj',h1,hzi,decide_true,true_imp_iff,Bool.true_eq_false,Bool.false_eq_true,false_imp_iff,and_true,true_and,Int.natCast_nonneg,Bool.and_self,beq_self_eq_true,hrj,Go,g2'];exact⟨k55,k56,hf.mono fun y hy=>.inr (by subst hy;exact WP.stop rfl)⟩
   ·have h1':(x.owners.getD j 0==1)=false:=by simpa using h1
    have hn:=hnext true (fun q=>absurd q h1);rw[h1',Bool.or_false];refine WP.step ?_;simp only[T15,Tr.sure,Int.toNat_natCast,hj',h1',hzi,decide_true,true_imp_iff,Bool.true_eq_false,Bool.false_eq_true,false_imp_iff,and_true,true_and,Int.natCast_nonneg,Bool.and_self,hrj,Go];exact WP.stop (.inl ⟨rfl,hn⟩)
  ·rw[List.take_length]
   cases hmt:x.owners.any (·==1)with
   |false=>
    refine WP.once ?_;simp only[T15,Tr.sure,SS,Int.lt_irrefl];repeat' with_reducible first|intro _|apply aI
    all_goals simp[hr,Go,Ends',v15,-List.getD_eq_getElem?_getD, *]
   |true=>
    obtain⟨v,hv,hv1⟩:=List.any_eq_true.1 hmt;obtain⟨j,hj,hjv⟩:=List.getElem_of_mem hv;have hold:=hmet ho hall hI ⟨j,hj,by rw[gE,List.getElem?_eq_getElem hj,Option.getD_some,hjv];simpa using hv1⟩;rw[<-hmw]at hold;refine WP.once ?_;simp only[T15,Tr.sure,SS,Int.lt_irrefl,hold];repeat' with_reducible first|intro _|apply aI
    all_goals simp[hr,hold,Go,Ends',v15,-List.getD_eq_getElem?_getD, *]
 refine WP.step ?_;simp only[T15,Tr.sure,Int.toNat_natCast,hi',decide_true,true_imp_iff,Bool.true_eq_false,Bool.false_eq_true,false_imp_iff,and_true,true_and,Int.natCast_nonneg,Bool.and_self,beq_self_eq_true,Go,hmw,hzi];refine⟨k54,?_⟩
 obtain⟨a0,ha0⟩:∃a0:Bool,a0=(x.owners.getD i 0==0):=⟨_,rfl⟩
 rw[<-ha0];refine WP.run (fun j=>.l2 (i:Int) (a0&&((mayR x.shop i).take j).all fun c=>c.mould==m) (j:Int)) (by cases a0<;>rfl) (mayR x.shop i).length (fun j hj=> ?_) ?_
 ·have hj':(j:Int)<(mayR x.shop i).length:=by omega
  have hrj:inR .i64 ((j:Int)+1)=true:=inR64 (by omega) (by omega)
  have hsn:((mayR x.shop i).take (j+1)).all (fun c=>c.mould==m)=(((mayR x.shop i).take j).all (fun c=>c.mould==m)&&(((mayR x.shop i).getD j zCast).mould==m)):=by
   rw[take_snoc zCast _ j hj,List.all_append,List.all_cons,List.all_nil,Bool.and_true]
  have hzc:tCast.zero=zCast:=rfl;rw[hsn,<-Bool.and_assoc]
  cases hb:(a0&&((mayR x.shop i).take j).all fun c=>c.mould==m)with
  |false=>
   refine WP.step ?_;simp only[T15,Tr.sure,Int.toNat_natCast,hj',decide_true,true_imp_iff,Bool.true_eq_false,Bool.false_eq_true,false_imp_iff,and_true,true_and,hrj,Go,Bool.false_and];exact WP.stop rfl
  |true=>
   refine WP.step ?_;simp only[T15,Tr.sure,Int.toNat_natCast,hj',decide_true,true_imp_iff,Bool.true_eq_false,Bool.false_eq_true,false_imp_iff,and_true,true_and,hrj,Go,Bool.true_and,Int.natCast_nonneg,Bool.and_self,hmw,hzc];exact WP.stop rfl
 ·rw[List.take_length]
  have hend:WP Tryz.prog ⟨none,0⟩ (T15 x w) (fun y=>y=.inl (.l1 ((i+1:Nat):Int))) (.l3 (i:Int) (a0&&(mayR x.shop i).all fun c=>c.mould==m) false 0):=by
   cases hb:(a0&&(mayR x.shop i).all fun c=>c.mould==m)with
   |false=>exact hfalse false 0 (Nat.zero_le _)
   |true=>
    rw[Bool.and_eq_true]at hb;have h5:=hb.1;rw[ha0,beq_iff_eq]at h5;exact htrue h5 hb.2
  refine WP.step ?_;simp only[T15,Tr.sure,Int.toNat_natCast,Int.lt_irrefl,decide_false,Bool.false_eq_true,false_imp_iff,true_imp_iff,and_true,true_and,Go];exact hend
theorem tel_4(a b c d:V){u v:V}(h:VLe u v)(j:Nat):VLe (([a,b,c,u,d]:List V).getD j uU) (([a,b,c,v,d]:List V).getD j uU):=
 match j with
 |0=>VLe.refl _
 |1=>VLe.refl _
 |2=>VLe.refl _
 |3=>h
 |4=>VLe.refl _
 |_+5=>VLe.refl _
theorem vle_snoc(B:List Int)(y:Int):VLe (.list 1 (B.length+1) (rowsOf tint (B++ [y]))) (tint.lst (B++ [y])):=VLe.same tint _ (by simp)
theorem back_eq(x:Case):(⟨(⟨x.shop.features,x.shop.moulds,x.shop.heads⟩:Shop),x.owners.map fun n=>1-n,x.claims⟩:Case)=backC x:=rfl
set_option maxHeartbeats 8000000 in
theorem c15(x:Case)(w:Int)(hw:0<=w/\w<=255):PC 15 [.agg (tCase.cells x),.int .u8 w] (·=.bool true):=by
 have hiw:inR .i64 w=true:=inR64 (by omega) (by omega)
 cases hs:someR x with
 |false=>
  have f1:(olderR x 0).2≠0:=older_none (some_err hs _);refine w15 x w (WP.step ?_);simp only[T15,Go,Ends',v15,Tr.sure,SS];repeat' with_reducible first|intro _|apply aI
  all_goals first|exact(c46 x)|exact(c37 x 0)|exact c23|(simp[hs,f1,Go,Ends',v15,-List.getD_eq_getElem?_getD, *];done)|(simp_all [hs,f1,Go,Ends',v15,-List.getD_eq_getElem?_getD];done)
 |true=>
  obtain⟨ht,hok,-⟩:=some_ok hs;obtain⟨hcc,hsc,htn⟩:=some_check hs;have hmany:=hok.many;have h4:=hok.shop.nh;by_cases hz:x.shop.moulds.length=0
  ·have f1:(olderR x 0).2≠0:=older_none (by
    have hi:indexErr 0 x.shop.moulds.length≠0:=by rw[hz];decide
    unfold truthsE
    rw[if_neg (fun q=>q hcc),if_pos hi];exact hi)
   refine w15 x w (WP.step ?_);simp only[T15,Go,Ends',v15,Tr.sure,SS];repeat' with_reducible first|intro _|apply aI
   all_goals first|exact(c46 x)|exact(c37 x 0)|exact c23|(simp[hs,f1,hz,Go,Ends',v15,-List.getD_eq_getElem?_getD, *];done)|(simp_all [hs,f1,hz,Go,Ends',v15,-List.getD_eq_getElem?_getD];done)
  ·obtain⟨m,hmw⟩:∃m,w.tmod (x.shop.moulds.length:Int)=m:=⟨_,rfl⟩
   have hz2:(x.shop.moulds.length:Int)≠0:=by omega
   have hm:0<=m/\m<x.shop.moulds.length:=by
    rw[<-hmw,Int.tmod_eq_emod_of_nonneg hw.1];exact⟨Int.emod_nonneg _ (by omega),Int.emod_lt_of_pos _ (by omega)⟩
   have he:(truthsE x (indexErr m x.shop.moulds.length)).2=0:=by rw[index_zero hm,ht]
   have hne:=allM_ne hs hok
   have hmain:WP Tryz.prog ⟨none,0⟩ (T15 x w) (Ends' fun r=>v15 r=.bool true) (.l1 0):=by
    refine WP.run (fun i=>.l1 (i:Int)) rfl x.owners.length (fun i hi=> ?_) ?_
    ·exact w15_in x w m hmw hok hsc hne i hi fun h1 h2 h3 h5=>older_met hs hm hi h1 h2 h3 h5
    ·refine WP.once ?_;simp only[T15,Tr.sure,SS,Int.lt_irrefl];repeat' with_reducible first|intro _|apply aI
     all_goals first|exact c23|(simp[Go,Ends',v15,-List.getD_eq_getElem?_getD, *];done)
   have hloop:WP Tryz.prog ⟨none,0⟩ (T15 x w) (Ends' fun r=>v15 r=.bool true) (.l0 0 []):=by
    refine WP.run (fun i=>.l0 (i:Int) ((x.owners.take i).map fun n=>1-n)) rfl x.owners.length (fun i hi=> ?_) ?_
    ·have hi':(i:Int)<x.owners.length:=by omega
     have hr:inR .i64 ((i:Int)+1)=true:=inR64 (by omega) (by omega);have hsn:(x.owners.take (i+1)).map (fun n=>1-n)=(x.owners.take i).map (fun n=>1-n)++ [1-x.owners.getD i 0]:=by rw[take_snoc 0 _ i hi,List.map_append];rfl
     have hBl:((x.owners.take i).map fun n=>1-n).length+1<=4294967296:=by rw[List.length_map,List.length_take];omega
     have hown:=hok.own _ (getD_mem 0 x.owners i hi);have hr2:inR .i64 ((1:Int)-(x.owners.getD i 0))=true:=inR64 (by omega) (by omega);have kov:=ov15_10 x ((x.owners.take i).map fun n=>1-n) i (w.tmod (x.shop.moulds.length:Int)) (Int.natCast_nonneg i) hi' hr2 hBl;have hzi:tint.zero=0:=rfl;rw[hsn];generalize(x.owners.take i).map (fun n=>1-n)=B at*
     refine WP.once ?_;simp only[T15,Tr.sure,SS,hi',hzi,Int.toNat_natCast];repeat' with_reducible first|intro _|apply aI
     all_goals first|exact kov|exact(VLe.app tint B _ rfl (by assumption))|exact(vle_snoc _ _)|exact(tel_4 _ _ _ _ (vle_snoc _ _) _)|(simp[hr,hBl,Go,Ends',v15,-List.getD_eq_getElem?_getD, *];done)
    ·rw[List.take_length];obtain⟨b1,b2,b3⟩:=older_back hcc he
     have hin:inR .i64 ((1:Int)-(olderR x m).1)=true:=by
      by_cases q:(olderR x m).2=0
      ·have:=(b3 q).1;exact inR64 (by omega) (by omega)
      ·have:=(b2 q).2.1;rw[this];decide
     have k1:=c37 x m;have k2:=c37 (backC x) m;refine WP.step ?_;simp only[T15,Tr.sure,Int.lt_irrefl,decide_false,Bool.false_eq_true,false_imp_iff,true_imp_iff,true_and,back_eq,hmw];refine⟨k1,k2,?_⟩;rw[<-b1];generalize hO:olderR x m=O at*
     generalize hP:olderR (backC x) m=P at*
     obtain⟨o1,o2⟩:=O;obtain⟨p1,p2⟩:=P;simp only at b1 b2 b3 hin⊢;by_cases q0:o2=0
     ·obtain⟨c1,c2,c3⟩:=b3 q0;subst q0;by_cases q2:o1=2
      ·have e1:=c2 q2;subst q2;subst e1;simp[Go,hmain]
      ·have e1:=c3 q2;subst e1;have d1:¬o1<0:=by omega
       have d2:¬o1>2:=by omega
       simp[Go,hmain,q2,d1,d2,hin]
     ·obtain⟨c1,c2,c3⟩:=b2 q0;subst c1;subst c2;subst c3;simp[Go,hmain]
   refine w15 x w (WP.step ?_);simp only[T15,Go,Ends',v15,Tr.sure,SS];repeat' with_reducible first|intro _|apply aI
   all_goals first|exact(c46 x)|exact hloop|exact(tel_4 _ _ _ _ VLe.nils _)|(simp[hs,hiw,hz,hz2,Go,Ends',v15,-List.getD_eq_getElem?_getD, *];done)|(simp_all [hs,hiw,hz,hz2,Go,Ends',v15,-List.getD_eq_getElem?_getD];done)
end
end Go.Proofs.YtdamoemndifpmaaGreat
namespace Go.Proofs.YtdamoemndifpmaaGreat
open Ab Go.ChangeShapes Go.WideShapes Go.RowKit
def GW(W:World):Kept:=⟨fun b=>W.heap[b]?,ambOf W⟩
theorem bulk_one{H:Type}(d:DataW H):1<=Rows.uptoBulk d:=by
 cases d with
 |lit l=>cases l<;>simp[Rows.uptoBulk]
 |nil=>simp[Rows.uptoBulk]
 |ptr d=>simp[Rows.uptoBulk]
 |slice elems spare=>simp[Rows.uptoBulk]
 |agg parts=>simp[Rows.uptoBulk]
 |iface t d=>simp[Rows.uptoBulk]
 |map entries=>simp[Rows.uptoBulk]
 |held h=>simp[Rows.uptoBulk]
theorem bulk_part{H:Type}{d:DataW H}{l:List (DataW H)}(h:d∈l):Rows.uptoBulk d<=Rows.uptoBulkAll l:=by
 induction l with
 |nil=>cases h
 |cons x r ih=>
  simp only[Rows.uptoBulkAll]
  cases List.mem_cons.1 h with
  |inl e=>subst e;omega
  |inr e=>have:=ih e;omega
theorem bulk_length{H:Type}(l:List (DataW H)):l.length<=Rows.uptoBulkAll l:=by
 induction l with
 |nil=>simp[Rows.uptoBulkAll]
 |cons x r ih=>have:=bulk_one x;simp only[Rows.uptoBulkAll,List.length_cons];omega
def Opens(P:Program)(W:World)(C:List V->Prop)(t:TypeId):Prop:=
 ∀(H:Type) (enc:TypeId × Value->H) (n:Nat) (cs:List Value) (x:DataW H × List MemPlace),DataW.trod enc P W 0 (fun _=>true) true n t cs=some x->Rows.uptoBulk x.1<=1048576->
  ∃vs,C vs/\vs.length=cs.length/\∀j,j<vs.length->Rel (GW W) [] (vs.getD j .undef) (cs.getD j Go.undef)
section
variable {P:Program} {W:World} {t e:TypeId}
theorem Opens.mono{C C':List V->Prop}(h:Opens P W C t)(hC:∀vs,C vs->C' vs):Opens P W C' t:=fun H enc n cs x hx hb=>by
 obtain⟨vs,h1,h2,h3⟩:=h H enc n cs x hx hb;exact⟨vs,hC vs h1,h2,h3⟩
theorem Opens.int{k:IntKind}(ht:P.underlying t=some (.int k)):Opens P W (fun vs=>∃n,vs=[.int k n]) t:=fun H enc n cs x h _=>by
 obtain⟨m,rfl,-,-⟩:=DataW.trod_int ht h;refine⟨[.int k m],⟨m,rfl⟩,rfl,fun j hj=> ?_⟩;obtain rfl:j=0:=by simpa using hj
 exact .int k m
theorem Opens.str(ht:P.underlying t=some .string):Opens P W (fun vs=>∃s,vs=[.str s]) t:=fun H enc n cs x h _=>by
 obtain⟨s,rfl,-,-⟩:=DataW.trod_string ht h;refine⟨[.str s],⟨s,rfl⟩,rfl,fun j hj=> ?_⟩;obtain rfl:j=0:=by simpa using hj
 exact .str s
theorem Opens.sliceP{τ:Type}{E:Ty τ}{p:τ->Prop}(ht:P.underlying t=some (.slice e))(he:Opens P W (fun vs=>∃x,p x/\vs=E.cells x) e)(hw:P.cellsOf e=E.w)(h0:0<E.w)(hl:∀x,(E.cells x).length=E.w):
  Opens P W (fun vs=>∃l,l.length<=1048576/\(∀x∈l,p x)/\vs=[.list E.w l.length (rowsOf E l)]) t:=fun H enc n cs x h hb=>by
 rcases DataW.trod_slice ht h with⟨rfl,-⟩|⟨a,len,cap,elems,rest,m,-,rfl,rfl,-,hlc,hcm,hel,hget,-,-⟩
 ·refine⟨[.list E.w 0 (rowsOf E [])],⟨[],Nat.zero_le _,fun x hx=>absurd hx List.not_mem_nil,rfl⟩,rfl,fun j hj=> ?_⟩;obtain rfl:j=0:=by simpa using hj
  exact .list0
 ·simp only[Rows.uptoBulk]at hb
  have hlen:len<=1048576:=by
   have:=bulk_length (elems.map (·.1));rw[List.length_map]at this;omega
  have hstep:∀i,i<len->∃x:τ,p x/\∃cs',W.cells? 0 (a.add (i*E.w)) E.w=some cs'/\∀j,j<E.w->Rel (GW W) [] ((E.cells x).getD j .undef) (cs'.getD j Go.undef):=fun i hi=>by
   have h1:=hget i hi;have hy:elems[i]? =some elems[i]:=List.getElem?_eq_getElem (by omega);rw[hy,Option.bind_eq_some_iff]at h1;obtain⟨cs',h3,h4⟩:=h1;have hm:(elems[i]).1∈elems.map (·.1):=List.mem_map.2 ⟨_,List.getElem_mem _,rfl⟩;obtain⟨vs,⟨x,px,rfl⟩,h5,h6⟩:=he H enc m cs' _ h4 (by have:=bulk_part hm;omega);rw[hw]at h3;exact⟨x,px,cs',h3,fun j hj=>h6 j (by rw[hl];exact hj)⟩
  obtain⟨f,hf⟩:∃f:Fin len->τ,∀i:Fin len,p (f i)/\∃cs',W.cells? 0 (a.add (i.1*E.w)) E.w=some cs'/\∀j,j<E.w->Rel (GW W) [] ((E.cells (f i)).getD j .undef) (cs'.getD j Go.undef):=
   ⟨fun i=>(hstep i.1 i.2).choose,fun i=>(hstep i.1 i.2).choose_spec⟩
  refine⟨[.list E.w (List.ofFn f).length (rowsOf E (List.ofFn f))],⟨_,by rw[List.length_ofFn];exact hlen,fun x hx=>by
   obtain⟨i,rfl⟩:=List.mem_ofFn.1 hx
   exact(hf i).1,rfl⟩,rfl,fun j hj=> ?_⟩
  obtain rfl:j=0:=by simpa using hj
  show Rel _ _ (.list E.w (List.ofFn f).length (rowsOf E (List.ofFn f))) (.slice (some a) len cap);rw[List.length_ofFn];rcases Nat.eq_zero_or_pos len with rfl|hpos
  ·exact .list0
  ·obtain⟨b,off,spot⟩:=a
   have cell:∀i j,(hi:i<len)->j<E.w->∃u,W.cell? (((Addr.mk b off spot).add (i*E.w)).add j)=some u/\Rel (GW W) [] ((E.cells (f ⟨i,hi⟩)).getD j .undef) u:=fun i j hi hj=>by
    obtain⟨-,cs',h1,h2⟩:=hf ⟨i,hi⟩;obtain⟨-,h3,h4⟩:=World.cells?_some h1;have h5:=h4 j hj;have hjl:j<cs'.length:=by rw[h3];exact hj
    rw[List.getElem?_eq_getElem hjl]at h5;refine⟨cs'[j],h5,?_⟩;have:=h2 j hj;rwa[gE (l:=cs'),List.getElem?_eq_getElem hjl]at this
   have hspot:spot=none:=by
    obtain⟨u,h1,-⟩:=cell 0 0 hpos h0
    cases spot with
    |none=>rfl
    |some s=>
     exfalso
     rw[Nat.zero_mul]at h1;simp only[Addr.add,if_true]at h1;unfold World.cell? at h1;split at h1
     ·simp at h1
     ·cases h1
   subst hspot
   obtain⟨c,e',fz,hblk⟩:∃c e' fz,W.heap[b]? =some (.cells c e' fz):=by
    obtain⟨u,h1,-⟩:=cell 0 0 hpos h0;rw[addr_add,addr_add]at h1;unfold World.cell? at h1;split at h1
    ·rename_i c e' fz hh;exact⟨c,e',fz,hh⟩
    ·cases h1
   have look:∀k l,W.cell? (((Addr.mk b off none).add k).add l)=c[off+(k+l)]? :=fun k l=>by rw[addr_add,addr_add,Nat.add_assoc];simp only[World.cell?,hblk];simp
   refine .list (G:=GW W) (cs:=c) (e:=e') (fz:=fz) hblk ?_ hlc (by unfold maxn;omega) fun i j hi hj=> ?_
   ·obtain⟨u,h1,-⟩:=cell (len-1) (E.w-1) (by omega) (by omega);rw[look]at h1;have:=(Array.getElem?_eq_some_iff.1 h1).1;have e1:len*E.w=(len-1)*E.w+E.w:=by rw[<-Nat.succ_mul];congr 1;omega
    omega
   ·obtain⟨u,h1,h2⟩:=cell i j hi hj;rw[look]at h1;rw[aG,h1];show Rel _ _ ((E.cells ((List.ofFn f).getD i E.zero)).getD j .undef) u;rw[gE (l:=List.ofFn f),List.getElem?_ofFn,dif_pos hi];exact h2
theorem Opens.slice{τ:Type}{E:Ty τ}(ht:P.underlying t=some (.slice e))(he:Opens P W (fun vs=>∃x,vs=E.cells x) e)(hw:P.cellsOf e=E.w)(h0:0<E.w)(hl:∀x,(E.cells x).length=E.w):
  Opens P W (fun vs=>∃l,vs=[.list E.w l.length (rowsOf E l)]) t:=
 (Opens.sliceP (p:=fun _=>True) ht (he.mono fun _ ⟨x,h⟩=>⟨x,trivial,h⟩) hw h0 hl).mono fun _ ⟨l,_,_,h⟩=>⟨l,h⟩
def Parts:List (List V->Prop)->List V->Prop
 |[],vs=>vs=[]
 |C::Cs,vs=>∃a b,vs=a++b/\C a/\Parts Cs b
def OpensL(P:Program)(W:World):List (List V->Prop)->List Field->Prop
 |[],[]=>True
 |C::Cs,f::fs=>Opens P W C f.type/\OpensL P W Cs fs
 |_,_=>False
def laid(P:Program)(tot:Nat):Nat->List Field->Bool
 |o,[]=>o==tot
 |o,f::fs=>f.offset==o&&decide (o+P.cellsOf f.type<=tot)&&laid P tot (o+P.cellsOf f.type) fs
theorem parts_ok{H:Type}{enc:TypeId × Value->H}{n:Nat}{cs:List Value}:∀(Cs:List (List V->Prop)) (fl:List Field) (o:Nat) (ys:List (DataW H × List MemPlace)),OpensL P W Cs fl->laid P cs.length o fl=true->ys.length=fl.length->
  (∀(i:Nat) (f:Field),fl[i]? =some f->DataW.trod enc P W 0 (fun _=>true) true n f.type ((cs.drop f.offset).take (P.cellsOf f.type))=ys[i]?)->Rows.uptoBulkAll (ys.map (·.1))<=1048576->
  ∃vs,Parts Cs vs/\vs.length=cs.length-o/\∀j,j<vs.length->Rel (GW W) [] (vs.getD j .undef) (cs.getD (o+j) Go.undef)
 |[],[],o,ys,_,hlay,_,_,_=>by
  simp only[laid,beq_iff_eq]at hlay;exact⟨[],rfl,by simp[hlay],fun j hj=>absurd hj (Nat.not_lt_zero _)⟩
 |[],f::fl,_,_,h,_,_,_,_=>h.elim
 |C::Cs,[],_,_,h,_,_,_,_=>h.elim
 |C::Cs,f::fl,o,[],_,_,hl,_,_=>by simp at hl
 |C::Cs,f::fl,o,y::ys,h,hlay,hl,hget,hb=>by
  simp only[laid,Bool.and_eq_true,beq_iff_eq,decide_eq_true_eq]at hlay;obtain⟨⟨ho,hle⟩,hrest⟩:=hlay;simp only[List.map_cons,Rows.uptoBulkAll]at hb;have h1:=hget 0 f rfl;simp only[List.getElem?_cons_zero]at h1;obtain⟨a,ha,la,ra⟩:=h.1 H enc n _ _ h1 (by omega);obtain⟨b,hb1,lb,rb⟩:=parts_ok Cs fl (o+P.cellsOf f.type) ys h.2 hrest (by simpa using hl) (fun i g hi=>by simpa using hget (i+1) g (by simpa using hi)) (by omega)
  have la':a.length=P.cellsOf f.type:=by rw[la,List.length_take,List.length_drop,ho];omega
  refine⟨a++b,⟨a,b,rfl,ha,hb1⟩,by rw[List.length_append,la',lb];omega,fun j hj=> ?_⟩;rcases Nat.lt_or_ge j a.length with q|q
  ·rw[getD_append_left q];have:=ra j q;rw[gE (l:=List.take _ _),List.getElem?_take_of_lt (by omega),List.getElem?_drop,ho,<-List.getD_eq_getElem?_getD]at this;exact this
  ·rw[getD_append_right q];have:=rb (j-a.length) (by rw[List.length_append]at hj;omega);rw[la']at this⊢;rw[show o+P.cellsOf f.type+(j-P.cellsOf f.type)=o+j by omega]at this;exact this
theorem Opens.struct{fs:Array Field}(ht:P.underlying t=some (.struct fs))(Cs:List (List V->Prop))(ho:OpensL P W Cs fs.toList)(hlay:laid P (P.cellsOf t) 0 fs.toList=true):Opens P W (Parts Cs) t:=fun H enc n cs x h hb=>by
 obtain⟨xs,m,-,rfl,hl,hlen,hf⟩:=DataW.trod_struct ht h;simp only[Rows.uptoBulk]at hb;obtain⟨vs,h1,h2,h3⟩:=parts_ok (enc:=enc) (n:=m) Cs fs.toList 0 xs ho (by rw[hl];exact hlay) (by simpa using hlen) (fun i f hi=>hf i f (by simpa using hi)) (by omega);exact⟨vs,h1,by simpa using h2,fun j hj=>by simpa using h3 j hj⟩
theorem val_struct{H:Type}{enc:TypeId × Value->H}{fs:Array Field}{base:Nat}{v:Value}{d:DataW H}{ps:List MemPlace}{C:List V->Prop}(ht:P.underlying t=some (.struct fs))(hok:Value.okWide P W .any base t v)
  (h:DataW.Trod enc P W 0 (fun _=>true) true t v d ps) (ho:Opens P W C t) (hb:Rows.uptoBulk d<=1048576):∃vs,C vs/\Rel (GW W) [] (.agg vs) v:=by
 simp only[Value.okWide,ht]at hok;obtain⟨cs,rfl,-,-⟩:=hok;obtain⟨n,hn⟩:=h;obtain⟨vs,h1,h2,h3⟩:=ho H enc n _ _ hn hb;have h2':vs.length=cs.size:=by simpa[Value.cells]using h2
 refine⟨vs,h1,.agg h2' fun j hj=> ?_⟩;have:=h3 j hj;simpa[Value.cells,gE,aG]using this
theorem val_slice{H:Type}{enc:TypeId × Value->H}{base:Nat}{v:Value}{d:DataW H}{ps:List MemPlace}{τ:Type}{E:Ty τ}(ht:P.underlying t=some (.slice e))(hok:Value.okWide P W .any base t v)
  (h:DataW.Trod enc P W 0 (fun _=>true) true t v d ps) (ho:Opens P W (fun vs=>∃l,vs=[.list E.w l.length (rowsOf E l)]) t) (hb:Rows.uptoBulk d<=1048576):∃l,Rel (GW W) [] (.list E.w l.length (rowsOf E l)) v:=by
 have hv:v.cells.toList=[v]:=by
  simp only[Value.okWide,ht,Cell.okWide,Cell.ok]at hok;cases v<;>first|rfl|simp at hok
 obtain⟨n,hn⟩:=h;rw[hv]at hn;obtain⟨vs,⟨l,rfl⟩,-,h3⟩:=ho H enc n _ _ hn hb;exact⟨l,by simpa using h3 0 (by simp)⟩
theorem post_same{H:Type}{enc:TypeId × Value->H}{f:Func}{s:ChangeSpec}{apart fresh handsOn again:Bool}{W W':World}{args:Array Value}{v:Value}{ds gs:List (DataW H)}{before pa pv:List MemPlace}
  (hW:DataW.Whole enc P f.params.toList s.vars apart W args.toList ds gs before)
  (hres:∀(b:Nat) (sp:Nat->Bool) (hd:Bool),DataW.TrodAll enc P W' b sp hd f.resultTypes.toList (v.resultList f.resultTypes.size) (s.fn H (ds++gs)).results [])
  (hargs:∀sp:Nat->Bool,(∀p∈before,sp p.block=true)->DataW.TrodAll enc P W' 0 sp true f.params.toList args.toList (s.fn H (ds++gs)).args pa)
  (hvars:∀sp:Nat->Bool,(∀p∈before,sp p.block=true)->DataW.TrodVars enc P W' sp s.vars (s.fn H (ds++gs)).vars pv)
  (hps:before=pa++pv) (hk:W.keptBut W' (·∈before)) (hfz:∀a:Addr,a.block<W.heap.size->W'.frozen? a=W.frozen? a)
  (hok:∀(j:Nat) (t:TypeId) (r:Value),f.resultTypes[j]? =some t->(v.resultList f.resultTypes.size)[j]? =some r->Value.okWide P W' .any 0 t r):
  s.post enc P f apart fresh handsOn again W args v W':=by
 have hold:∀p∈before,(fun b=>decide (b<W.heap.size)) p.block=true:=fun p hp=>by simpa using hW.lt p hp
 refine⟨ds,gs,before,[],pa,pv,hW,hres _ _ _,hargs _ hold,hvars _ hold,World.keptBut_mono (fun p hp=>⟨hp,?_⟩) hk,fun _=> ?_⟩
 ·rw[hps,List.mem_append]at hp;exact Or.inr hp
 ·have hlt:=hW.lt;obtain⟨_,_,_,_,_,hz,hn⟩:=hW;refine⟨hok,_,_,([]++pa)++pv,⟨[]++pa,pv,trodAll_append (hargs _ (fun _ _=>rfl)) (hres _ _ _),hvars _ (fun _ _=>rfl),rfl,?_,?_⟩,?_⟩
  ·intro b off hp;have hp':MemPlace.cell b off∈before:=by rw[hps];simpa using hp
   rw[hfz _ (hlt _ hp')];exact hz b off hp'
  ·intro ha;have:=hn ha;rw[hps]at this;simpa using this
  ·intro p hp _;rw[hps];simpa using hp
theorem trods_stay{H:Type}{enc:TypeId × Value->H}{W':World}{sp:Nat->Bool}(hl:laidOutB P=true):∀ {ts:List TypeId} {vs:List Value} {ds:List (DataW H)} {ps:List MemPlace},(∀t∈ts,P.readableRec t=true/\t<P.types.size)->
  DataW.TrodAll enc P W 0 (fun _=>true) true ts vs ds ps->(∀p∈ps,W.sameAt W' p)->(∀p∈ps,sp p.block=true)->DataW.TrodAll enc P W' 0 sp true ts vs ds ps
 |[],_,_,_,_,h,_,_=>by
  obtain⟨rfl,rfl,rfl⟩:=trodAll_nil h;exact trodAll_mk0
 |t::ts,_,_,_,ht,h,h1,h2=>by
  obtain⟨v,vs1,d,ds1,a,b,rfl,rfl,rfl,h3,h4⟩:=trodAll_cons h
  exact⟨a,b,WideElems.Trod_stays hl (ht t (by simp)).1 (ht t (by simp)).2 h3 (fun p hp=>h1 p (by simp[hp])) (fun p hp=>h2 p (by simp[hp])),
   trods_stay hl (fun t' h'=>ht t' (by simp[h'])) h4 (fun p hp=>h1 p (by simp[hp])) (fun p hp=>h2 p (by simp[hp])),rfl⟩
theorem bridge{H:Type}{enc:TypeId × Value->H}{f:FuncId}{fn:Func}{s:ChangeSpec}{apart fresh handsOn again:Bool}{args:Array Value}{ds gs:List (DataW H)}{before:List MemPlace}{tb:TypeId}
  (hW:DataW.Whole enc P fn.params.toList s.vars apart W args.toList ds gs before) {vs:List V} (hc:PCalls P f vs (·=.bool true)) (hl:vs.length=args.size) (hr:∀j,j<vs.length->Rel (GW W) [] (vs.getD j .undef) (args.getD j Go.undef))
  (hvars:s.vars=[]) (hfn:s.fn H (ds++gs)={results:=[.lit (.bool true)],args:=ds}) (hty:fn.resultTypes= #[tb]) (htb:P.underlying tb=some .bool) (hlo:laidOutB P=true) (hrd:∀t∈fn.params.toList,P.readableRec t=true/\t<P.types.size):
  Calls P f args W fun e W'=>∃v,e=.returned v/\s.post enc P fn apart fresh handsOn again W args v W':=by
 refine(hc.2 (GW W) W args ⟨fun b o hb=>hb,ambOf_ok W⟩ hl hr).mono ?_;rintro e W' ⟨v,x,G',rfl,h1,h2,-,h4,h5,h6,rfl⟩
 cases h6;have hamb:G'.amb.ok W':=h2.amb;rw[<-h1.same]at hamb;have hW':=hW;obtain⟨p,q,hA,hV,rfl,-,-⟩:=hW';rw[hvars]at hV;obtain⟨rfl,rfl⟩:=trodVars_none hV;have hlt:∀x∈p,x.block<W.heap.size:=fun x hx=>hW.lt x (by simp[hx]);refine⟨_,rfl,post_same (pa:=p) (pv:=[]) hW (fun _ _ _=> ?_) (fun sp hsp=> ?_) (fun sp _=> ?_) rfl ?_ (fun a ha=>World.frozen?_of_block (w:=W) (h4 _ ha)) (ok_one hty rfl (okWide_bool_mk htb _))⟩
 ·rw[hfn,hty];exact trodAll_cons_mk (shut_bool htb _) trodAll_mk0
 ·rw[hfn];refine trods_stay hlo hrd hA (fun x hx=> ?_) fun x hx=>hsp x (by simp[hx])
  cases x with
  |cell b o=>exact World.cell?_of_block (w:=W) (h4 b (hlt _ hx))
  |map b=>exact h4 b (hlt _ hx)
 ·rw[hfn,hvars];rfl
 ·refine⟨hamb.os,hamb.out,fun i hi=> ?_⟩;rw[h4 i hi];split<;>simp_all
end
section
variable {W:World}
theorem oInt:Opens Tryz.prog W (fun vs=>∃n,vs=[.int .i64 n]) 3:=Opens.int Tryz.underlying3
theorem oStr:Opens Tryz.prog W (fun vs=>∃s,vs=[.str s]) 9:=Opens.str Tryz.underlying9
theorem oInts:Opens Tryz.prog W (fun vs=>∃l:List Int,vs=[tint.lst l]) 26:=
 Opens.slice (E:=tint) Tryz.underlying26 (oInt.mono fun _ h=>h) (by kernel_rfl) (by decide) fun _=>rfl
theorem oSpan:Opens Tryz.prog W (fun vs=>∃x,vs=tSpan.cells x) 142:=
 (Opens.struct Tryz.underlying142 [fun vs=>∃n,vs=[.int .i64 n],fun vs=>∃n,vs=[.int .i64 n]] ⟨oInt,oInt,trivial⟩ (by kernel_rfl)).mono fun vs h=>by
  obtain⟨_,_,rfl,⟨lo,rfl⟩,_,_,rfl,⟨hi,rfl⟩,rfl⟩:=h;exact⟨⟨lo,hi⟩,rfl⟩
theorem oSpans:Opens Tryz.prog W (fun vs=>∃l,vs=[tSpan.lst l]) 138:=Opens.slice (E:=tSpan) Tryz.underlying138 oSpan (by kernel_rfl) (by decide) fun _=>rfl
theorem oMould:Opens Tryz.prog W (fun vs=>∃x,vs=tMould.cells x) 140:=
 (Opens.struct Tryz.underlying140 [fun vs=>∃s,vs=[.str s],fun vs=>∃n,vs=[.int .i64 n],fun vs=>∃l,vs=[tSpan.lst l]] ⟨oStr,oInt,oSpans,trivial⟩ (by kernel_rfl)).mono fun vs h=>by
  obtain⟨_,_,rfl,⟨s,rfl⟩,_,_,rfl,⟨n,rfl⟩,_,_,rfl,⟨l,rfl⟩,rfl⟩:=h;exact⟨⟨s,n,l⟩,rfl⟩
theorem oMoulds:Opens Tryz.prog W (fun vs=>∃l,vs=[tMould.lst l]) 22:=Opens.slice (E:=tMould) Tryz.underlying22 oMould (by kernel_rfl) (by decide) fun _=>rfl
theorem oHead:Opens Tryz.prog W (fun vs=>∃x,vs=tHead.cells x) 78:=
 (Opens.struct Tryz.underlying78 [fun vs=>∃s,vs=[.str s],fun vs=>∃l:List Int,vs=[tint.lst l]] ⟨oStr,oInts,trivial⟩ (by kernel_rfl)).mono fun vs h=>by
  obtain⟨_,_,rfl,⟨s,rfl⟩,_,_,rfl,⟨l,rfl⟩,rfl⟩:=h;exact⟨⟨s,l⟩,rfl⟩
theorem oHeads:Opens Tryz.prog W (fun vs=>∃l,vs=[tHead.lst l]) 23:=Opens.slice (E:=tHead) Tryz.underlying23 oHead (by kernel_rfl) (by decide) fun _=>rfl
theorem oShop:Opens Tryz.prog W (fun vs=>∃x,vs=tShop.cells x) 25:=
 (Opens.struct Tryz.underlying25 [fun vs=>∃n,vs=[.int .i64 n],fun vs=>∃l,vs=[tMould.lst l],fun vs=>∃l,vs=[tHead.lst l]] ⟨oInt,oMoulds,oHeads,trivial⟩ (by kernel_rfl)).mono fun vs h=>by
  obtain⟨_,_,rfl,⟨n,rfl⟩,_,_,rfl,⟨l,rfl⟩,_,_,rfl,⟨m,rfl⟩,rfl⟩:=h;exact⟨⟨n,l,m⟩,rfl⟩
theorem oClaim:Opens Tryz.prog W (fun vs=>∃x,vs=tClaim.cells x) 67:=
 (Opens.struct Tryz.underlying67 (List.replicate 8 fun vs=>∃n,vs=[.int .i64 n]) ⟨oInt,oInt,oInt,oInt,oInt,oInt,oInt,oInt,trivial⟩ (by kernel_rfl)).mono fun vs h=>by
  obtain⟨_,_,rfl,⟨a,rfl⟩,_,_,rfl,⟨b,rfl⟩,_,_,rfl,⟨c,rfl⟩,_,_,rfl,⟨d,rfl⟩,_,_,rfl,⟨e,rfl⟩,_,_,rfl,⟨f,rfl⟩,_,_,rfl,⟨g,rfl⟩,_,_,rfl,⟨i,rfl⟩,rfl⟩:=h;exact⟨⟨a,b,c,d,e,f,g,i⟩,rfl⟩
theorem oClaims:Opens Tryz.prog W (fun vs=>∃l,vs=[tClaim.lst l]) 27:=Opens.slice (E:=tClaim) Tryz.underlying27 oClaim (by kernel_rfl) (by decide) fun _=>rfl
theorem oCase:Opens Tryz.prog W (fun vs=>∃x,vs=tCase.cells x) 29:=
 (Opens.struct Tryz.underlying29 [fun vs=>∃x,vs=tShop.cells x,fun vs=>∃l:List Int,vs=[tint.lst l],fun vs=>∃l,vs=[tClaim.lst l]] ⟨oShop,oInts,oClaims,trivial⟩ (by kernel_rfl)).mono fun vs h=>by
  obtain⟨_,_,rfl,⟨s,rfl⟩,_,_,rfl,⟨l,rfl⟩,_,_,rfl,⟨m,rfl⟩,rfl⟩:=h;exact⟨⟨s,l,m⟩,rfl⟩
variable {H:Type} {enc:TypeId × Value->H} {base:Nat} {v:Value} {d:DataW H} {ps:List MemPlace}
theorem arg_case(hok:Value.okWide Tryz.prog W .any base 29 v)(h:DataW.Trod enc Tryz.prog W 0 (fun _=>true) true 29 v d ps)(hb:Rows.uptoBulk d<=1048576):∃x,Rel (GW W) [] (.agg (tCase.cells x)) v:=by
 obtain⟨vs,⟨x,rfl⟩,hr⟩:=val_struct Tryz.underlying29 hok h oCase hb;exact⟨x,hr⟩
theorem arg_ints(hok:Value.okWide Tryz.prog W .any base 26 v)(h:DataW.Trod enc Tryz.prog W 0 (fun _=>true) true 26 v d ps)(hb:Rows.uptoBulk d<=1048576):∃l,Rel (GW W) [] (tint.lst l) v:=
 val_slice Tryz.underlying26 hok h oInts hb
end
theorem own:ownKnob Tryz.prog.godebug=none:=by kernel_rfl
theorem laidOut:laidOutB Tryz.prog=true:=by kernel_rfl
abbrev noCase:Value:=.agg #[.int .i64 0,.slice none 0 0,.slice none 0 0,.slice none 0 0,.slice none 0 0]
abbrev noCaseD{H:Type}:DataW H:=.agg [.agg [.lit (.int .i64 0),.nil,.nil],.nil,.nil]
end Go.Proofs.YtdamoemndifpmaaGreat
