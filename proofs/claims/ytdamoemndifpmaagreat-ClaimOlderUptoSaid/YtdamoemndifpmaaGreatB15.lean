/-
  Part of the proof of the Claim laws. Conditions: those that stand in each theorem.
-/
import Derived.Test.YtdamoemndifpmaaGreatB14
set_option linter.unusedSimpArgs false
set_option linter.unusedVariables false
set_option maxRecDepth 100000
namespace Go.Proofs.YtdamoemndifpmaaGreat
open Ab Go
noncomputable section
def demoMould0:Mould:=⟨ByteArray.mk #[97,115,115,97,115,115,105,110],3,[⟨1,2⟩,⟨2,4⟩,⟨5,6⟩]⟩
def demoMould1:Mould:=⟨ByteArray.mk #[113,117,101,101,110],2,[⟨1,1⟩,⟨2,2⟩,⟨0,1⟩]⟩
def demoMould2:Mould:=⟨ByteArray.mk #[113,117,101,101,110],2,[⟨1,1⟩,⟨2,2⟩,⟨0,0⟩]⟩
def demoHeads:List Head:=[⟨ByteArray.mk #[98,114,117,116,117,115],[1,1,0]⟩,⟨ByteArray.mk #[99,97,115,115,105,117,115],[2,1,1]⟩,⟨ByteArray.mk #[114,101,103,105,110,97],[2,2,0]⟩]
def demoShop:Shop:=⟨3,[demoMould0,demoMould1],demoHeads⟩
def plainShop:Shop:=⟨3,[demoMould0,demoMould2],demoHeads⟩
def demoClaims:List Claim:=[⟨0,3,0,2,0,0,0,20⟩,⟨1,2,0,1,0,0,0,30⟩,⟨1,0,2,0,0,0,2,50⟩,⟨0,4,0,0,0,2,6,10⟩,⟨1,5,0,0,0,2,5,10⟩]
def demoCase:Case:=⟨demoShop,[0,0,1],demoClaims⟩
def plainCase:Case:=⟨plainShop,[0,0,1],demoClaims⟩
inductive P147
 |e
inductive R147
 |r0 (r0_0:Int) (r0_1:Int)
def T147(lo:Int)(hi:Int):P147->Tr P147 R147
 |.e=>(.out (.r0 lo hi))
noncomputable def g147(lo:Int)(hi:Int):P147->List Item × St
 |.e=>bd Tryz.f147 [.int .i64 lo,.int .i64 hi] 6
def n147:R147->Exit × St
 |.r0 r0_0 r0_1=>(.ret,⟨mk 8 [(4,.ref 0 0 0)],[.cells [.int .i64 r0_0,.int .i64 r0_1]],[]⟩)
def v147:R147->V
 |.r0 r0_0 r0_1=>.agg [.int .i64 r0_0,.int .i64 r0_1]
theorem s147(lo:Int)(hi:Int):Sm 0 (g147 lo hi) (T147 lo hi) (n147)
 |.e=>⟨400,by kernel_rfl⟩
theorem q147:∀r,bodyQ Tryz.prog Tryz.f147 (·=v147 r) (n147 r).1 (n147 r).2
 |.r0 r0_0 r0_1=>bq (.agg [.int .i64 r0_0,.int .i64 r0_1]) (by kernel_rfl)
theorem w147(lo:Int)(hi:Int){post:V->Prop}(h:WQ (T147 lo hi) v147 post .e):PC 147 [.int .i64 lo,.int .i64 hi] post:=
 PCalls.wq Tryz.func147 (s147 lo hi) q147 h
inductive P100_f
 |e
inductive R100_f
 |r0 (r0_0:Int) (r0_1:List Mould) (r0_2:List Head)
def T100_f:P100_f->Tr P100_f R100_f
 |.e=>let c2:=([(⟨(ByteArray.mk #[98,114,117,116,117,115]),([1,1,0]:List Int)⟩:Head),(⟨(ByteArray.mk #[99,97,115,115,105,117,115]),([2,1,1]:List Int)⟩:Head),(⟨(ByteArray.mk #[114,101,103,105,110,97]),([2,2,0]:List Int)⟩:Head)]:List Head);let c3:=(decide (3<=3))&&true;let c4:=([(⟨1,2⟩:Span),(⟨2,4⟩:Span),(⟨5,6⟩:Span)]:List Span);let c5:=([(⟨1,1⟩:Span),(⟨2,2⟩:Span),(⟨0,1⟩:Span)]:List Span);let c1:=([(⟨(ByteArray.mk #[97,115,115,97,115,115,105,110]),3,c4⟩:Mould),(⟨(ByteArray.mk #[113,117,101,101,110]),2,c5⟩:Mould)]:List Mould);let c6:List V:=[.int .i64 5,.int .i64 6];let c7:List V:=[.int .i64 2,.int .i64 4];let c8:List V:=[.int .i64 2,.int .i64 2];let c9:List V:=[.int .i64 1,.int .i64 2];let c10:List V:=[.int .i64 1,.int .i64 1];let c11:List V:=[.int .i64 0,.int .i64 1];(.call 147 c9 (.agg c9) true true (.call 147 c7 (.agg c7) true true (.call 147 c6 (.agg c6) true true (.wait 0 (.frz 1 c3 (.wait 0 (.vle 7 (.list 2 3 (litC 2 3 [.int .i64 1,.int .i64 2,.int .i64 2,.int .i64 4,.int .i64 5,.int .i64 6])) (tSpan.lst c4) (.call 147 c10 (.agg c10) true true (.call 147 c8 (.agg c8) true true (.call 147 c11 (.agg c11) true true (.wait 0 (.frz 2 c3 (.wait 0 (.vle 12 (.list 2 3 (litC 2 3 [.int .i64 1,.int .i64 1,.int .i64 2,.int .i64 2,.int .i64 0,.int .i64 1])) (tSpan.lst c5) (.wait 0 (.frz 4 c3 (.wait 0 (.vle 15 (.list 1 3 (litC 1 3 [.int .i64 1,.int .i64 1,.int .i64 0])) (tint.lst ([1,1,0]:List Int)) (.wait 0 (.frz 5 c3 (.wait 0 (.vle 17 (.list 1 3 (litC 1 3 [.int .i64 2,.int .i64 1,.int .i64 1])) (tint.lst ([2,1,1]:List Int)) (.wait 0 (.frz 6 c3 (.wait 0 (.vle 19 (.list 1 3 (litC 1 3 [.int .i64 2,.int .i64 2,.int .i64 0])) (tint.lst ([2,2,0]:List Int)) (.wait 0 (.frz 3 ((decide (2<=2))&&true) (.wait 0 (.vle 14 (.list 3 2 (litC 3 2 [.str (ByteArray.mk #[97,115,115,97,115,115,105,110]),.int .i64 3,tSpan.lst c4,.str (ByteArray.mk #[113,117,101,101,110]),.int .i64 2,tSpan.lst c5])) (tMould.lst c1) (.wait 0 (.frz 7 c3 (.wait 0 (.vle 21 (.list 2 3 (litC 2 3 [.str (ByteArray.mk #[98,114,117,116,117,115]),tint.lst ([1,1,0]:List Int),.str (ByteArray.mk #[99,97,115,115,105,117,115]),tint.lst ([2,1,1]:List Int),.str (ByteArray.mk #[114,101,103,105,110,97]),tint.lst ([2,2,0]:List Int)])) (tHead.lst c2) (.lit false (.out (.r0 3 c1 c2)))))))))))))))))))))))))))))))))))))
noncomputable def g100_f:P100_f->List Item × St
 |.e=>bd Tryz.f100 [.bool false] 31
def n100_f:R100_f->Exit × St
 |.r0 r0_0 r0_1 r0_2=>(.ret,⟨mk 32 [(2,.ref 0 0 0)],[.cells [.int .i64 r0_0,tMould.lst r0_1,tHead.lst r0_2]],[]⟩)
def v100_f:R100_f->V
 |.r0 r0_0 r0_1 r0_2=>.agg [.int .i64 r0_0,tMould.lst r0_1,tHead.lst r0_2]
theorem s100_f:Sm 0 (g100_f) (T100_f) (n100_f)
 |.e=>⟨400,by kernel_rfl⟩
theorem q100_f:∀r,bodyQ Tryz.prog Tryz.f100 (·=v100_f r) (n100_f r).1 (n100_f r).2
 |.r0 r0_0 r0_1 r0_2=>bq (.agg [.int .i64 r0_0,tMould.lst r0_1,tHead.lst r0_2]) (by kernel_rfl)
theorem w100_f{post:V->Prop}(h:WQ (T100_f) v100_f post .e):PC 100 [.bool false] post:=
 PCalls.wq Tryz.func100 (s100_f) q100_f h
theorem c147(lo hi:Int):PC 147 [.int .i64 lo,.int .i64 hi] (·=.agg [.int .i64 lo,.int .i64 hi]):=by
 refine w147 lo hi (WP.step ?_);simp only[T147,Go,Ends',v147,Tr.sure,SS];repeat' with_reducible first|intro _|apply aI
 all_goals first
  |rfl
theorem c100:PC 100 [.bool false] (·=.agg [.int .i64 3,tMould.lst demoShop.moulds,tHead.lst demoShop.heads]):=by
 refine w100_f (WP.step ?_);simp only[T100_f,Go,Ends',v100_f,Tr.sure,SS];repeat' with_reducible first|intro _|apply aI
 all_goals first|exact(c147 _ _)|exact(VLe.lit tSpan _ (by rfl) (by rfl) (fun _=>rfl))|exact(VLe.lit tint _ (by rfl) (by rfl) (fun _=>rfl))|exact(VLe.lit tMould _ (by rfl) (by rfl) (fun _=>rfl))|exact(VLe.lit tHead _ (by rfl) (by rfl) (fun _=>rfl))|(simp[Go,Ends',v100_f,-List.getD_eq_getElem?_getD, *];done)|skip
 all_goals first
  |rfl
inductive P41_f
 |e
inductive R41_f
 |r0 (r0_0:Int) (r0_1:List Mould) (r0_2:List Head) (r0_3:List Int) (r0_4:List Claim)
def T41_f:P41_f->Tr P41_f R41_f
 |.e=>let c1:=([(⟨0,3,0,2,0,0,0,20⟩:Claim),(⟨1,2,0,1,0,0,0,30⟩:Claim),(⟨1,0,2,0,0,0,2,50⟩:Claim),(⟨0,4,0,0,0,2,6,10⟩:Claim),(⟨1,5,0,0,0,2,5,10⟩:Claim)]:List Claim);(.call 100 [.bool false] (.agg [.int .i64 3,tMould.lst (demoShop.moulds),tHead.lst (demoShop.heads)]) true true (.lit false (.wait 3 (.frz 2 ((decide (3<=3))&&true) (.wait 0 (.vle 30 (.list 1 3 (litC 1 3 [.int .i64 0,.int .i64 0,.int .i64 1])) (tint.lst ([0,0,1]:List Int)) (.wait 0 (.frz 3 ((decide (5<=5))&&true) (.wait 0 (.vle 36 (.list 8 5 (litC 8 5 [.int .i64 0,.int .i64 3,.int .i64 0,.int .i64 2,.int .i64 0,.int .i64 0,.int .i64 0,.int .i64 20,.int .i64 1,.int .i64 2,.int .i64 0,.int .i64 1,.int .i64 0,.int .i64 0,.int .i64 0,.int .i64 30,.int .i64 1,.int .i64 0,.int .i64 2,.int .i64 0,.int .i64 0,.int .i64 0,.int .i64 2,.int .i64 50,.int .i64 0,.int .i64 4,.int .i64 0,.int .i64 0,.int .i64 0,.int .i64 2,.int .i64 6,.int .i64 10,.int .i64 1,.int .i64 5,.int .i64 0,.int .i64 0,.int .i64 0,.int .i64 2,.int .i64 5,.int .i64 10])) (tClaim.lst c1) (.out (.r0 3 (demoShop.moulds) (demoShop.heads) ([0,0,1]:List Int) c1))))))))))))
noncomputable def g41_f:P41_f->List Item × St
 |.e=>bd Tryz.f41 [.bool false] 37
def n41_f:R41_f->Exit × St
 |.r0 r0_0 r0_1 r0_2 r0_3 r0_4=>(.ret,⟨mk 38 [(2,.ref 0 0 0)],[.cells [.int .i64 r0_0,tMould.lst r0_1,tHead.lst r0_2,tint.lst r0_3,tClaim.lst r0_4]],[]⟩)
def v41_f:R41_f->V
 |.r0 r0_0 r0_1 r0_2 r0_3 r0_4=>.agg [.int .i64 r0_0,tMould.lst r0_1,tHead.lst r0_2,tint.lst r0_3,tClaim.lst r0_4]
theorem s41_f:Sm 0 (g41_f) (T41_f) (n41_f)
 |.e=>⟨400,by kernel_rfl⟩
theorem q41_f:∀r,bodyQ Tryz.prog Tryz.f41 (·=v41_f r) (n41_f r).1 (n41_f r).2
 |.r0 r0_0 r0_1 r0_2 r0_3 r0_4=>bq (.agg [.int .i64 r0_0,tMould.lst r0_1,tHead.lst r0_2,tint.lst r0_3,tClaim.lst r0_4]) (by kernel_rfl)
theorem w41_f{post:V->Prop}(h:WQ (T41_f) v41_f post .e):PC 41 [.bool false] post:=
 PCalls.wq Tryz.func41 (s41_f) q41_f h
inductive P41_t
 |e
inductive R41_t
 |r0 (r0_0:Int) (r0_1:List Mould) (r0_2:List Head) (r0_3:List Int) (r0_4:List Claim)
def T41_t:P41_t->Tr P41_t R41_t
 |.e=>let c4:=demoShop.moulds;let c1:=c4.getD ((1:Int)).toNat tMould.zero;let c3:=(c1.lasts).set (((2:Int)).toNat) (⟨0,0⟩:Span);let c2:=c4.set (((1:Int)).toNat) (⟨c1.name,c1.casts,c3⟩:Mould);let c5:=([(⟨0,3,0,2,0,0,0,20⟩:Claim),(⟨1,2,0,1,0,0,0,30⟩:Claim),(⟨1,0,2,0,0,0,2,50⟩:Claim),(⟨0,4,0,0,0,2,6,10⟩:Claim),(⟨1,5,0,0,0,2,5,10⟩:Claim)]:List Claim);let c6:List V:=[.str (c1.name),.int .i64 (c1.casts),tSpan.lst c3];let c7:=(0+c4.length)<=(0+c4.length);let c8:=(0+c1.lasts.length)<=(0+c1.lasts.length);let c9:=([.int .i64 0,.int .i64 0]:List V);let c10:=(decide (0<=(1:Int))&&decide ((1:Int)<((0+c4.length):Int)))&&decide c7;let c11:V:=.list 3 (0+c4.length) (rowsOf tMould c2);let c12:=rowsOf tSpan (c1.lasts);let c13:V:=.list 2 (0+c1.lasts.length) (rowsOf tSpan c3);let c14:=rowsOf tMould c4;let c15:=demoShop.heads;let c16:=((1:Int)).toNat<(0+c4.length);let c17:=(c6:List V);let c18:=tMould.lst c2;(.call 100 [.bool false] (.agg [.int .i64 3,tMould.lst c4,tHead.lst c15]) true true (.lit true (.need ((decide (0=0)&&decide (0+c4.length<=4294967296))&&true) (.scal (fun r=>(List.range 3).all fun j=>(c14 r j).scalar) (.telb 2 3 (0+c4.length) (appC 0 (litC 3 0 []) c14) c14 (.need c10 (.need (decide c16&&decide (0+3<=3)) (.need ((decide (0=0)&&decide (0+c1.lasts.length<=4294967296))&&true) (.scal (fun r=>(List.range 2).all fun j=>(c12 r j).scalar) (.telb 4 2 (0+c1.lasts.length) (appC 0 (litC 2 0 []) c12) c12 (.need ((decide (0<=(2:Int))&&decide ((2:Int)<((0+c1.lasts.length):Int)))&&decide c8) (.need ((decide (((2:Int)).toNat<(0+c1.lasts.length))&&decide (0+c9.length<=2))&&underL 0 c9) (.telb 4 2 (0+c1.lasts.length) (fun r' j=>if r'=((2:Int)).toNat/\0<=j/\j<0+c9.length then c9.getD (j-0) uU else c12 r' j) (rowsOf tSpan c3) (.frz 4 (((decide c8)&&((decide c8)&&true))&&(((decide c8)&&true)&&true)) (.vle 19 c13 (tSpan.lst c3) (.vle 22 c13 (tSpan.lst c3) (.telc 3 [.str (c1.name),.int .i64 (c1.casts),.list 2 (0+c1.lasts.length) (rowsOf tSpan c3)] c6 (.need c10 (.need ((decide c16&&decide (0+c17.length<=3))&&underL 0 c17) (.telb 2 3 (0+c4.length) (fun r' j=>if r'=((1:Int)).toNat/\0<=j/\j<0+c17.length then c17.getD (j-0) uU else c14 r' j) (rowsOf tMould c2) (.wait 1 (.frz 2 (((decide c7)&&((decide c7)&&((decide c7)&&true)))&&(((decide c7)&&true)&&true)) (.vle 10 c11 c18 (.vle 13 c11 c18 (.vle 26 c11 c18 (.telc 1 [.int .i64 3,.list 3 (0+c4.length) (rowsOf tMould c2),tHead.lst c15] [.int .i64 3,tMould.lst c2,tHead.lst c15] (.wait 1 (.frz 5 ((decide (3<=3))&&true) (.wait 0 (.vle 30 (.list 1 3 (litC 1 3 [.int .i64 0,.int .i64 0,.int .i64 1])) (tint.lst ([0,0,1]:List Int)) (.wait 0 (.frz 6 ((decide (5<=5))&&true) (.wait 0 (.vle 36 (.list 8 5 (litC 8 5 [.int .i64 0,.int .i64 3,.int .i64 0,.int .i64 2,.int .i64 0,.int .i64 0,.int .i64 0,.int .i64 20,.int .i64 1,.int .i64 2,.int .i64 0,.int .i64 1,.int .i64 0,.int .i64 0,.int .i64 0,.int .i64 30,.int .i64 1,.int .i64 0,.int .i64 2,.int .i64 0,.int .i64 0,.int .i64 0,.int .i64 2,.int .i64 50,.int .i64 0,.int .i64 4,.int .i64 0,.int .i64 0,.int .i64 0,.int .i64 2,.int .i64 6,.int .i64 10,.int .i64 1,.int .i64 5,.int .i64 0,.int .i64 0,.int .i64 0,.int .i64 2,.int .i64 5,.int .i64 10])) (tClaim.lst c5) (.out (.r0 3 c2 c15 ([0,0,1]:List Int) c5))))))))))))))))))))))))))))))))))))
noncomputable def g41_t:P41_t->List Item × St
 |.e=>bd Tryz.f41 [.bool true] 37
def n41_t:R41_t->Exit × St
 |.r0 r0_0 r0_1 r0_2 r0_3 r0_4=>(.ret,⟨mk 38 [(2,.ref 0 0 0)],[.cells [.int .i64 r0_0,tMould.lst r0_1,tHead.lst r0_2,tint.lst r0_3,tClaim.lst r0_4]],[]⟩)
def v41_t:R41_t->V
 |.r0 r0_0 r0_1 r0_2 r0_3 r0_4=>.agg [.int .i64 r0_0,tMould.lst r0_1,tHead.lst r0_2,tint.lst r0_3,tClaim.lst r0_4]
theorem s41_t:Sm 0 (g41_t) (T41_t) (n41_t)
 |.e=>⟨400,by kernel_rfl⟩
theorem q41_t:∀r,bodyQ Tryz.prog Tryz.f41 (·=v41_t r) (n41_t r).1 (n41_t r).2
 |.r0 r0_0 r0_1 r0_2 r0_3 r0_4=>bq (.agg [.int .i64 r0_0,tMould.lst r0_1,tHead.lst r0_2,tint.lst r0_3,tClaim.lst r0_4]) (by kernel_rfl)
theorem w41_t{post:V->Prop}(h:WQ (T41_t) v41_t post .e):PC 41 [.bool true] post:=
 PCalls.wq Tryz.func41 (s41_t) q41_t h
theorem c41f:PC 41 [.bool false] (·=.agg (tCase.cells demoCase)):=by
 refine w41_f (WP.step ?_);simp only[T41_f,Go,Ends',v41_f,Tr.sure,SS];repeat' with_reducible first|intro _|apply aI
 all_goals first|exact c100|exact(VLe.lit tint _ (by rfl) (by rfl) (fun _=>rfl))|exact(VLe.lit tClaim _ (by rfl) (by rfl) (fun _=>rfl))|(simp[Go,Ends',v41_f,-List.getD_eq_getElem?_getD, *];done)|skip
 all_goals first
  |rfl
  |decide
  |exact VLe.same tSpan _ (by rfl)
  |exact VLe.same tMould _ (by rfl)
  |exact tel_set tSpan (demoShop.moulds.getD (Int.toNat 1) tMould.zero).lasts (Int.toNat 2) ⟨0,0⟩ [V.int .i64 0,V.int .i64 0] rfl (w:=2) rfl rfl _ _ (by omega) (by assumption)
  |exact tel_set tMould demoShop.moulds (Int.toNat 1) ⟨(demoShop.moulds.getD (Int.toNat 1) tMould.zero).name,(demoShop.moulds.getD (Int.toNat 1) tMould.zero).casts,(demoShop.moulds.getD (Int.toNat 1) tMould.zero).lasts.set (Int.toNat 2) ⟨0,0⟩⟩ _ rfl (w:=3) rfl rfl _ _ (by omega) (by assumption)
  |exact VLe.cons (VLe.refl _) (VLe.cons (VLe.refl _) (VLe.cons (VLe.same tSpan _ (by rfl)) fun _=>VLe.refl _)) _
  |exact VLe.cons (VLe.refl _) (VLe.cons (VLe.same tMould _ (by rfl)) (VLe.cons (VLe.refl _) fun _=>VLe.refl _)) _
theorem c41t:PC 41 [.bool true] (·=.agg (tCase.cells plainCase)):=by
 refine w41_t (WP.step ?_);simp only[T41_t,Go,Ends',v41_t,Tr.sure,SS];repeat' with_reducible first|intro _|apply aI
 all_goals first|exact c100|exact(VLe.lit tint _ (by rfl) (by rfl) (fun _=>rfl))|exact(VLe.lit tClaim _ (by rfl) (by rfl) (fun _=>rfl))|exact(VLe.app0 _ _)|(simp[Go,Ends',v41_t,-List.getD_eq_getElem?_getD, *];done)|(simp_all [Go,Ends',v41_t,-List.getD_eq_getElem?_getD];done)|skip
 all_goals first
  |rfl
  |decide
  |exact VLe.same tSpan _ (by rfl)
  |exact VLe.same tMould _ (by rfl)
  |exact tel_set tSpan (demoShop.moulds.getD (Int.toNat 1) tMould.zero).lasts (Int.toNat 2) ⟨0,0⟩ [V.int .i64 0,V.int .i64 0] rfl (w:=2) rfl rfl _ _ (by omega) (by assumption)
  |exact tel_set tMould demoShop.moulds (Int.toNat 1) ⟨(demoShop.moulds.getD (Int.toNat 1) tMould.zero).name,(demoShop.moulds.getD (Int.toNat 1) tMould.zero).casts,(demoShop.moulds.getD (Int.toNat 1) tMould.zero).lasts.set (Int.toNat 2) ⟨0,0⟩⟩ _ rfl (w:=3) rfl rfl _ _ (by omega) (by assumption)
  |exact VLe.cons (VLe.refl _) (VLe.cons (VLe.refl _) (VLe.cons (VLe.same tSpan _ (by rfl)) fun _=>VLe.refl _)) _
  |exact VLe.cons (VLe.refl _) (VLe.cons (VLe.same tMould _ (by rfl)) (VLe.cons (VLe.refl _) fun _=>VLe.refl _)) _
end
theorem demo_sets:caseSets demoCase=[9,10,17,18]:=by decide+kernel
theorem demo_check:(caseCheck demoCase).2.2=0:=by decide+kernel
theorem demo_truths(other:Int):truthsE demoCase other=if other≠0 then([],other)else([9,10,17,18],0):=by
 unfold truthsE;rw[if_neg (by rw[demo_check];simp),demo_sets];rfl
theorem demo_hold0:holdsR demoCase 0=(0,0):=by unfold holdsR;rw[demo_truths,demo_sets];decide+kernel
theorem demo_hold2:holdsR demoCase 2=(2,0):=by unfold holdsR;rw[demo_truths,demo_sets];decide+kernel
theorem demo_tog:togetherR demoCase [0,3]=(true,0):=by unfold togetherR;rw[demo_truths,demo_sets];decide+kernel
theorem demo_tog1:togetherR demoCase [0,1]=(false,0):=by unfold togetherR;rw[demo_truths,demo_sets];decide+kernel
theorem demo_clash:clashR demoCase=([[0,1],[3,4]],0):=by unfold clashR;rw[demo_truths,demo_sets];decide+kernel
theorem demo_fall:fallR demoCase=([0,2,3],0):=by unfold fallR;rw[demo_truths,demo_sets];decide+kernel
theorem demo_most:mostR demoCase=([1,3],40,0):=by unfold mostR;rw[demo_truths,demo_sets];decide+kernel
theorem demo_follow:followR demoCase [0,3]=([0,3],0):=by unfold followR;rw[demo_truths,demo_sets];decide+kernel
theorem demo_follow2:followR demoCase [2]=([],9):=by unfold followR;rw[demo_truths,demo_sets];decide+kernel
theorem demo_grant:grantR demoCase=([],[2],0):=by unfold grantR;rw[demo_truths,demo_sets];decide+kernel
theorem demo_older:olderR demoCase 0=(0,0):=by unfold olderR;rw[demo_truths];decide+kernel
theorem plain_look:lookR plainCase 0=(⟨0,2⟩,0):=by decide+kernel
noncomputable section
inductive P23
 |e
inductive R23
 |r0 (r0:Bool)
def T23:P23->Tr P23 R23
 |.e=>let c1:=(decide (2<=2))&&true;let c2:=cC demoCase;let c3:=([0,3]:List Int);let c4:=litC 1 2 [iI 0,iI 3];let c5:V:=.bool true;let c6:=litC 1 2 [iI 0,iI 1];let c7:=([2]:List Int);let c8:=([[0,1],[3,4]]:List (List Int));let c9:=([0,1]:List Int);let c10:=([9,10,17,18]:List Int);let c11:=([]:List Int);let c12:=(decide (1<=1))&&true;(.call 41 [.bool false] (.agg c2) true true (.call 18 [.agg c2] (.tuple [tint.lst c10,iI 0]) true true (.call 21 [.agg c2,iI 0] (.tuple [iI 0,iI 0]) true true (.call 21 [.agg c2,iI 2] (.tuple [iI 2,iI 0]) true true (.call 24 [.agg c2,.list 1 2 c4] (.tuple [.bool true,iI 0]) c1 true (.call 24 [.agg c2,.list 1 2 c6] (.tuple [.bool false,iI 0]) c1 true (.call 26 [.agg c2] (.tuple [(tlist tint).lst c8,iI 0]) true true (.call 31 [.agg c2] (.tuple [tint.lst ([0,2,3]:List Int),iI 0]) true true (.call 33 [.agg c2] (.tuple [tint.lst ([1,3]:List Int),iI 40,iI 0]) true true (.wait 1 (.frz 1 c1 (.vle 48 (.list 1 2 c4) (tint.lst c3) (.wait 1 (.frz 3 c1 (.wait 0 (.vle 76 (.list 1 2 c4) (tint.lst c3) (.call 29 [.agg c2,tint.lst c3] (.tuple [tint.lst c3,iI 0]) true true (.wait 2 (.frz 4 c12 (.wait 0 (.vle 82 (.list 1 1 (litC 1 1 [iI 2])) (tint.lst c7) (.call 29 [.agg c2,tint.lst c7] (.tuple [tint.lst c11,iI 9]) true true (.call 35 [.agg c2] (.tuple [tint.lst c11,tint.lst c7,iI 0]) true true (.call 37 [.agg c2,iI 0] (.tuple [iI 0,iI 0]) true true (.call 41 [.bool true] (.agg (cC plainCase)) true true (.call 39 [.agg (cC plainCase),iI 0] (.tuple [.agg [iI 0,iI 2],iI 0]) true true (.wait 1 (.frz 2 c1 (.vle 54 (.list 1 2 c6) (tint.lst c9) (.lit true (.lit true (.lit true (.lit true (.lit true (.lit true (.lit true (.lit true (.lit true (.lit true (.lit true (.lit true (.lit true (.call 20 [tint.lst c10,.list 1 4 (litC 1 4 [iI 9,iI 10,iI 17,iI 18])] c5 ((decide (4<=4))&&true) true (.lit true (.lit true (.lit true (.lit true (.lit true (.wait 0 (.frz 7 c1 (.wait 0 (.vle 174 (.list 1 2 c6) (tint.lst c9) (.wait 0 (.frz 8 c1 (.wait 0 (.vle 175 (.list 1 2 (litC 1 2 [iI 3,iI 4])) (tint.lst ([3,4]:List Int)) (.call 28 [(tlist tint).lst c8,.list 1 2 (litC 1 2 [tint.lst c9,tint.lst ([3,4]:List Int)])] c5 c1 true (.lit true (.call 20 [tint.lst ([0,2,3]:List Int),.list 1 3 (litC 1 3 [iI 0,iI 2,iI 3])] c5 ((decide (3<=3))&&true) true (.lit true (.call 20 [tint.lst ([1,3]:List Int),.list 1 2 (litC 1 2 [iI 1,iI 3])] c5 c1 true (.lit true (.lit true (.call 20 [tint.lst c3,.list 1 2 c4] c5 c1 true (.lit true (.br (((c11.length):Int)==(0:Int)) (.call 20 [tint.lst c7,.list 1 1 (litC 1 1 [iI 2])] c5 c12 true (.lit true (.lit true (.out (.r0 (((0:Int)==(0:Int))&&(((2:Int)==(2:Int))&&true))))))) (.lit false (.lit false (.out (.r0 false))))))))))))))))))))))))))))))))))))))))))))))))))))))))))))))))))))))
noncomputable def g23:P23->List Item × St
 |.e=>bd Tryz.f23 [] 217
def n23:R23->Exit × St
 |.r0 r0=>(.ret,⟨mk 217 [(0,.bool r0)],[],[]⟩)
def v23:R23->V
 |.r0 r0=>.bool r0
theorem s23:Sm 0 (g23) (T23) (n23)
 |.e=>⟨400,by kernel_rfl⟩
theorem q23:∀r,bodyQ Tryz.prog Tryz.f23 (·=v23 r) (n23 r).1 (n23 r).2
 |.r0 r0=>bq (.bool r0) (by kernel_rfl)
theorem w23{post:V->Prop}(h:WQ (T23) v23 post .e):PC 23 [] post:=
 PCalls.wq Tryz.func23 (s23) q23 h
theorem a18:PC 18 [.agg (tCase.cells demoCase)] (·=.tuple [tint.lst [9,10,17,18],iI 0]):=by
 have:=c18 demoCase;rw[demo_sets,demo_truths]at this;exact this
theorem a21_0:PC 21 [.agg (tCase.cells demoCase),iI 0] (·=.tuple [iI 0,iI 0]):=by
 have:=c21 demoCase 0;rw[demo_hold0]at this;exact this
theorem a21_2:PC 21 [.agg (tCase.cells demoCase),iI 2] (·=.tuple [iI 2,iI 0]):=by
 have:=c21 demoCase 2;rw[demo_hold2]at this;exact this
theorem a24:PC 24 [.agg (tCase.cells demoCase),.list 1 2 (litC 1 2 [iI 0,iI 3])] (·=.tuple [.bool true,iI 0]):=by
 have:=PCalls.arg (pre:=[.agg (tCase.cells demoCase)]) (c24 demoCase [0,3]) (VLe.lit2 0 3);rw[demo_tog]at this;exact this
theorem a24_1:PC 24 [.agg (tCase.cells demoCase),.list 1 2 (litC 1 2 [iI 0,iI 1])] (·=.tuple [.bool false,iI 0]):=by
 have:=PCalls.arg (pre:=[.agg (tCase.cells demoCase)]) (c24 demoCase [0,1]) (VLe.lit2 0 1);rw[demo_tog1]at this;exact this
theorem a26:PC 26 [.agg (tCase.cells demoCase)] (·=.tuple [(tlist tint).lst [[0,1],[3,4]],iI 0]):=by
 have:=c26 demoCase;rw[demo_clash]at this;exact this
theorem a31:PC 31 [.agg (tCase.cells demoCase)] (·=.tuple [tint.lst [0,2,3],iI 0]):=by
 have:=c31 demoCase;rw[demo_fall]at this;exact this
theorem a33:PC 33 [.agg (tCase.cells demoCase)] (·=.tuple [tint.lst [1,3],iI 40,iI 0]):=by
 have:=c33 demoCase;rw[demo_most]at this;exact this
theorem a29:PC 29 [.agg (tCase.cells demoCase),tint.lst [0,3]] (·=.tuple [tint.lst [0,3],iI 0]):=by
 have:=c29 demoCase [0,3];rw[demo_follow]at this;exact this
theorem a29_2:PC 29 [.agg (tCase.cells demoCase),tint.lst [2]] (·=.tuple [tint.lst [],iI 9]):=by
 have:=c29 demoCase [2];rw[demo_follow2]at this;exact this
theorem a35:PC 35 [.agg (tCase.cells demoCase)] (·=.tuple [tint.lst [],tint.lst [2],iI 0]):=by
 have:=c35 demoCase;rw[demo_grant]at this;exact this
theorem a37:PC 37 [.agg (tCase.cells demoCase),iI 0] (·=.tuple [iI 0,iI 0]):=by
 have:=c37 demoCase 0;rw[demo_older]at this;exact this
theorem a39:PC 39 [.agg (tCase.cells plainCase),iI 0] (·=.tuple [.agg [iI 0,iI 2],iI 0]):=by
 have:=c39 plainCase 0;rw[plain_look]at this;exact this
theorem a20_4:PC 20 [tint.lst [9,10,17,18],.list 1 4 (litC 1 4 [iI 9,iI 10,iI 17,iI 18])] (·=.bool true):=by
 have:=PCalls.arg (pre:=[tint.lst [9,10,17,18]]) (c20 [9,10,17,18] [9,10,17,18]) (VLe.lit tint [9,10,17,18] rfl rfl (fun _=>rfl));have e:sameI [9,10,17,18] [9,10,17,18]=true:=by decide
 rw[e]at this;exact this
theorem a20_3:PC 20 [tint.lst [0,2,3],.list 1 3 (litC 1 3 [iI 0,iI 2,iI 3])] (·=.bool true):=by
 have:=PCalls.arg (pre:=[tint.lst [0,2,3]]) (c20 [0,2,3] [0,2,3]) (VLe.lit tint [0,2,3] rfl rfl (fun _=>rfl));have e:sameI [0,2,3] [0,2,3]=true:=by decide
 rw[e]at this;exact this
theorem a20_2(a b:Int):PC 20 [tint.lst [a,b],.list 1 2 (litC 1 2 [iI a,iI b])] (·=.bool true):=by
 have:=PCalls.arg (pre:=[tint.lst [a,b]]) (c20 [a,b] [a,b]) (VLe.lit2 a b);have e:sameI [a,b] [a,b]=true:=by simp[sameI]
 rw[e]at this;exact this
theorem a20_1(a:Int):PC 20 [tint.lst [a],.list 1 1 (litC 1 1 [iI a])] (·=.bool true):=by
 have:=PCalls.arg (pre:=[tint.lst [a]]) (c20 [a] [a]) (VLe.lit1 a);have e:sameI [a] [a]=true:=by simp[sameI]
 rw[e]at this;exact this
theorem a28:PC 28 [(tlist tint).lst [[0,1],[3,4]],.list 1 2 (litC 1 2 [tint.lst [0,1],tint.lst [3,4]])] (·=.bool true):=by
 have:=PCalls.arg (pre:=[(tlist tint).lst [[0,1],[3,4]]]) (c28 [[0,1],[3,4]] [[0,1],[3,4]]) (VLe.lit (tlist tint) [[0,1],[3,4]] rfl rfl (fun _=>rfl));have e:sameL [[0,1],[3,4]] [[0,1],[3,4]]=true:=by decide
 rw[e]at this;exact this
theorem c23:PC 23 [] (·=.bool true):=by
 refine w23 (WP.step ?_);simp only[T23,Go,Ends',v23,Tr.sure,SS];repeat' with_reducible first|intro _|apply aI
 all_goals first|exact c41f|exact c41t|exact a18|exact a21_0|exact a21_2|exact a24|exact a24_1|exact a26|exact a31|exact a33|exact a29|exact a29_2|exact a35|exact a37|exact a39|exact a20_4|exact a20_3|exact(a20_2 _ _)|exact(a20_1 _)|exact a28|exact(VLe.lit2 _ _)|exact(VLe.lit1 _)|(simp[Go,Ends',v23,-List.getD_eq_getElem?_getD, *];done)|(simp_all [Go,Ends',v23,-List.getD_eq_getElem?_getD];done)
end
noncomputable section
def validR(c:Case):Bool:=(caseCheck c).2.2==0
def someR(c:Case):Bool:=validR c&&decide ((truths c.shop).length>0)
theorem last_ok{s:Shop}(h:OkShop s){l:List Cast}(hl:l∈truths s){m f:Nat}(hm:m<s.moulds.length)(hf:f<s.features.toNat):(lastOf s l m f).lo<=(lastOf s l m f).hi:=by
 have key:∀n,l∈growN s n->l=[]\/agrees s l=true:=fun n=>by
  cases n with
  |zero=>intro h;simp[growN]at h;exact .inl h
  |succ n=>
   intro h;simp only[growN,List.mem_flatMap,ext,List.mem_filter]at h;obtain⟨_,_,_,h⟩:=h;exact .inr h
 rcases key _ hl with rfl|ha
 ·have e:lastOf s [] m f=(s.moulds.getD m zMould).lasts.getD f zSpan:=by
   simp[lastOf,lastTo,natF,span0]
  rw[e];have h1:=h.mould (s.moulds.getD m zMould) (getD_mem zMould s.moulds m hm);have h2:f<(s.moulds.getD m zMould).lasts.length:=by have:=h1.2.1;omega
  exact(h1.2.2 _ (getD_mem zSpan _ f h2)).2.1
 ·simp only[agrees,Bool.and_eq_true,Bool.not_eq_true']at ha;have hb:=ha.2;unfold bad at hb;have h1:=List.any_eq_false.1 hb m (List.mem_range.2 hm);have h2:=List.any_eq_false.1 (Bool.eq_false_iff.2 h1) f (List.mem_range.2 hf);have h3:¬(lastOf s l m f).hi<(lastOf s l m f).lo:=fun q=>h2 (decide_eq_true q);omega
theorem casesR_ne{c:Case}(h:OkCase c){l:List Cast}(hl:l∈truths c.shop):∃y,y∈casesR c l:=by
 refine⟨_,(mem_casesR h.five _).2 ⟨fun m f=>(lastOf c.shop l m f).lo,fun p hp=>⟨Int.le_refl _,?_⟩,rfl⟩⟩;simp only[pairsOf,List.mem_flatMap,List.mem_map,List.mem_range]at hp;obtain⟨m,hm,f,hf,rfl⟩:=hp;exact last_ok h.shop hl hm hf
theorem sets_truths{c:Case}(h:OkCase c):(caseSets c).length=0↔(truths c.shop).length=0:=by
 rw[List.length_eq_zero_iff,List.length_eq_zero_iff];constructor
 ·intro h0;refine List.eq_nil_iff_forall_not_mem.2 fun l hl=> ?_;obtain⟨y,hy⟩:=casesR_ne h hl;have:=(mem_caseSets h.five).2 ⟨l,hl,hy⟩;rw[h0]at this;cases this
 ·intro h0;refine List.eq_nil_iff_forall_not_mem.2 fun y hy=> ?_;obtain⟨l,hl,-⟩:=(mem_caseSets h.five).1 hy;rw[h0]at hl;cases hl
theorem some_iff{c:Case}:someR c=true↔(truthsE c 0).2=0:=by
 unfold someR validR truthsE;by_cases h:(caseCheck c).2.2=0
 ·have h1:=sets_truths (okCase h);by_cases h2:(caseSets c).length=0
  ·have:=h1.1 h2;simp[h,h2,this]
  ·have h3:¬(truths c.shop).length=0:=fun e=>h2 (h1.2 e);simp only[h,h2,beq_self_eq_true,Bool.true_and,ne_eq,not_true_eq_false,if_false,iff_true,decide_eq_true_eq];omega
 ·simp[h]
theorem some_ok{c:Case}(h:someR c=true):truthsE c 0=(caseSets c,0)/\OkCase c/\caseSets c≠ []:=by
 have h1:=some_iff.1 h;rcases truths_cases c 0 with⟨h2,h3,-⟩|⟨e,h2,h3⟩
 ·exact⟨h2,h3,sets_ne h1⟩
 ·rw[h2]at h1;exact absurd h1 h3
inductive P42
 |e
inductive R42
 |r0 (r0:Bool)
def T42(x:Case):P42->Tr P42 R42
 |.e=>let c1:=caseCheck x;(.call 17 [.agg (cC x)] (.tuple [iI (c1.1),iI (c1.2.1),iI (c1.2.2)]) true true (.out (.r0 (c1.2.2==(0:Int)))))
noncomputable def g42(x:Case):P42->List Item × St
 |.e=>bd Tryz.f42 [.agg (cC x)] 13
def n42:R42->Exit × St
 |.r0 r0=>(.ret,⟨mk 14 [(2,.bool r0)],[],[]⟩)
def v42:R42->V
 |.r0 r0=>.bool r0
theorem s42(x:Case):Sm 0 (g42 x) (T42 x) (n42)
 |.e=>⟨400,by kernel_rfl⟩
theorem q42:∀r,bodyQ Tryz.prog Tryz.f42 (·=v42 r) (n42 r).1 (n42 r).2
 |.r0 r0=>bq (.bool r0) (by kernel_rfl)
theorem w42(x:Case){post:V->Prop}(h:WQ (T42 x) v42 post .e):PC 42 [.agg (cC x)] post:=
 PCalls.wq Tryz.func42 (s42 x) q42 h
theorem c42(x:Case):PC 42 [.agg (tCase.cells x)] (·=.bool (validR x)):=by
 refine w42 _ (WP.step ?_);simp only[T42,Go,Ends',v42,Tr.sure,SS];repeat' with_reducible first|intro _|apply aI
 all_goals first|exact(c17 x)|(simp[validR,Go,Ends',v42,-List.getD_eq_getElem?_getD, *];done)
inductive P46
 |e
inductive R46
 |r0 (r0:Bool)
def T46(x:Case):P46->Tr P46 R46
 |.e=>(.call 42 [.agg (cC x)] (.bool (validR x)) true true (.br (validR x) (.call 95 [.agg [iI x.shop.features,tMould.lst x.shop.moulds,tHead.lst x.shop.heads]] ((tlist tCast).lst (truths x.shop)) true true (.out (.r0 (decide ((((truths x.shop).length):Int)>(0:Int)))))) (.out (.r0 false))))
noncomputable def g46(x:Case):P46->List Item × St
 |.e=>bd Tryz.f46 [.agg (cC x)] 11
def n46:R46->Exit × St
 |.r0 r0=>(.ret,⟨mk 12 [(2,.bool r0)],[],[]⟩)
def v46:R46->V
 |.r0 r0=>.bool r0
theorem s46(x:Case):Sm 0 (g46 x) (T46 x) (n46)
 |.e=>⟨400,by kernel_rfl⟩
theorem q46:∀r,bodyQ Tryz.prog Tryz.f46 (·=v46 r) (n46 r).1 (n46 r).2
 |.r0 r0=>bq (.bool r0) (by kernel_rfl)
theorem w46(x:Case){post:V->Prop}(h:WQ (T46 x) v46 post .e):PC 46 [.agg (cC x)] post:=
 PCalls.wq Tryz.func46 (s46 x) q46 h
theorem c46(x:Case):PC 46 [.agg (tCase.cells x)] (·=.bool (someR x)):=by
 by_cases hv:(caseCheck x).2.2=0
 ·have h95:=c95 x.shop (okCase hv).shop;have hv2:validR x=true:=by simp[validR,hv]
  refine w46 _ (WP.step ?_);simp only[T46,Go,Ends',v46,Tr.sure,SS];repeat' with_reducible first|intro _|apply aI
  all_goals first|exact(c42 x)|exact h95|(simp[someR,hv2,Go,Ends',v46,-List.getD_eq_getElem?_getD, *];done)|(simp_all [someR,hv2,Go,Ends',v46,-List.getD_eq_getElem?_getD];done)
 ·have hv2:validR x=false:=by simp[validR,hv]
  refine w46 _ (WP.step ?_);simp only[T46,Go,Ends',v46,Tr.sure,SS];repeat' with_reducible first|intro _|apply aI
  all_goals first|exact(c42 x)|(simp[someR,hv2,Go,Ends',v46,-List.getD_eq_getElem?_getD, *];done)|(simp_all [someR,hv2,Go,Ends',v46,-List.getD_eq_getElem?_getD];done)
end
noncomputable section
theorem some_err{x:Case}(h:someR x=false)(o:Int):(truthsE x o).2≠0:=fun h0=>by
 obtain⟨-,rfl,-⟩:=truths_ok h0;rw[some_iff.2 h0]at h;cases h
theorem index_zero{n:Int}{many:Nat}(h:0<=n/\n<many):indexErr n many=0:=by
 unfold indexErr;rw[if_pos];simp[within];omega
end
def hitL(c:Case)(l:List Cast)(m own:Int)(i:Nat):Bool:=(l.getD i zCast).mould==m&&c.owners.getD i 0==own
theorem leastTo(c:Case)(l:List Cast)(m own:Int)(hn:∀i,i<l.length->1<=(l.getD i zCast).number):∀n,n<=l.length->
  (natF (leastStep c l m own) 0 n=0/\∀i,i<n->hitL c l m own i=false)\/
  ∃i,i<n/\hitL c l m own i=true/\natF (leastStep c l m own) 0 n=(l.getD i zCast).number/\∀j,j<n->hitL c l m own j=true->(l.getD i zCast).number<=(l.getD j zCast).number
 |0,_=>.inl ⟨rfl,fun i hi=>absurd hi (Nat.not_lt_zero i)⟩
 |n+1,h=>by
  have e:natF (leastStep c l m own) 0 (n+1)=leastStep c l m own n (natF (leastStep c l m own) 0 n):=rfl;have ih:=leastTo c l m own hn n (by omega);have hnn:=hn n (by omega);rw[e];generalize natF (leastStep c l m own) 0 n=v at*
  unfold leastStep;have hs:∀i,i<n+1->i<n\/i=n:=fun i hi=>by omega
  by_cases g1:hitL c l m own n=true
  ·have g2:(l.getD n zCast).mould=m/\c.owners.getD n 0=own:=by simpa[hitL]using g1
   rcases ih with⟨i1,i2⟩|⟨i,i1,i2,i3,i4⟩
   ·subst i1;rw[if_pos (by simp[g2.1,g2.2,-List.getD_eq_getElem?_getD])]
    exact .inr ⟨n,by omega,g1,rfl,fun j hj hh=>by
     rcases hs j hj with q|q
     ·rw[i2 j q]at hh;cases hh
     ·subst q;exact Int.le_refl _⟩
   ·have hi:=hn i (by omega);by_cases g3:(l.getD n zCast).number<v
    ·rw[if_pos (by simp only[g2.1,g2.2,beq_self_eq_true,Bool.true_and,Bool.or_eq_true,decide_eq_true_eq];exact .inr g3)]
     exact .inr ⟨n,by omega,g1,rfl,fun j hj hh=>by
      rcases hs j hj with q|q
      ·have:=i4 j q hh;omega
      ·subst q;exact Int.le_refl _⟩
    ·rw[if_neg (by simp only[g2.1,g2.2,beq_self_eq_true,Bool.true_and,Bool.or_eq_true,decide_eq_true_eq,beq_iff_eq];omega)]
     exact .inr ⟨i,by omega,i2,i3,fun j hj hh=>by
      rcases hs j hj with q|q
      ·exact i4 j q hh
      ·subst q;omega⟩
  ·have g2:¬(((l.getD n zCast).mould==m&&(c.owners.getD n 0==own&&(v==0||decide ((l.getD n zCast).number<v))))=true):=by
    simp only[hitL,Bool.and_eq_true]at g1⊢;exact fun z=>g1 ⟨z.1,z.2.1⟩
   rw[if_neg g2];have g3:hitL c l m own n=false:=by simpa using g1
   rcases ih with⟨i1,i2⟩|⟨i,i1,i2,i3,i4⟩
   ·exact .inl ⟨i1,fun j hj=>by
     rcases hs j hj with q|q
     ·exact i2 j q
     ·subst q;exact g3⟩
   ·exact .inr ⟨i,by omega,i2,i3,fun j hj hh=>by
     rcases hs j hj with q|q
     ·exact i4 j q hh
     ·subst q;rw[g3]at hh;cases hh⟩
theorem grow_agrees{s:Shop}:∀ {n:Nat} {l:List Cast},l∈growN s n->0<n->agrees s l=true
 |0,_,_,h=>absurd h (Nat.lt_irrefl 0)
 |n+1,l,h,_=>by
  simp only[growN,List.mem_flatMap]at h;obtain⟨k,_,hx⟩:=h;obtain⟨_,_,_,ha⟩:=ext_mem hx;exact ha
theorem no_dup{l:List Cast}(h:dup l=false){i j:Nat}(hi:i<l.length)(hj:j<l.length)(hij:i≠j):¬((l.getD i zCast).mould=(l.getD j zCast).mould/\(l.getD i zCast).number=(l.getD j zCast).number):=by
 have key:∀i j,j<i->i<l.length->¬((l.getD i zCast).mould=(l.getD j zCast).mould/\(l.getD i zCast).number=(l.getD j zCast).number):=fun i j hji hil e=>by
  have:dup l=true:=by
   unfold dup;rw[List.any_eq_true];refine⟨i,List.mem_range.2 hil,?_⟩;rw[List.any_eq_true];exact⟨j,List.mem_range.2 hji,by unfold sameC;simp[e.1,e.2,-List.getD_eq_getElem?_getD]⟩
  rw[h]at this;cases this
 rcases Nat.lt_or_ge j i with q|q
 ·exact key i j q hi
 ·intro e;exact key j i (by omega) hj ⟨e.1.symm,e.2.symm⟩
theorem truth_nodup{s:Shop}{l:List Cast}(h:l∈truths s){i j:Nat}(hi:i<l.length)(hj:j<l.length)(hij:i≠j):¬((l.getD i zCast).mould=(l.getD j zCast).mould/\(l.getD i zCast).number=(l.getD j zCast).number):=by
 have hl:=(grow_mem h).1;have ha:=grow_agrees h (by omega);unfold agrees at ha;rw[Bool.and_eq_true]at ha;exact no_dup (by simpa using ha.1) hi hj hij
theorem truth_num{s:Shop}{l:List Cast}(h:l∈truths s){i:Nat}(hi:i<l.length):1<=(l.getD i zCast).number:=((grow_mem h).2 _ (getD_mem zCast l i hi)).2.2.1
def backC(c:Case):Case:=⟨c.shop,c.owners.map fun n=>1-n,c.claims⟩
theorem back_get(c:Case){i:Nat}(hi:i<c.owners.length):(backC c).owners.getD i 0=1-c.owners.getD i 0:=by
 simp[backC,gE,hi]
theorem least_back(c:Case){l:List Cast}(hl:l.length<=c.owners.length)(m own:Int):least (backC c) l m own=least c l m (1-own):=by
 unfold least
 have:∀n,n<=l.length->natF (leastStep (backC c) l m own) 0 n=natF (leastStep c l m (1-own)) 0 n:=by
  intro n
  induction n with
  |zero=>intro _;rfl
  |succ n ih=>
   intro hn;show leastStep (backC c) l m own n (natF _ 0 n)=leastStep c l m (1-own) n (natF _ 0 n);rw[ih (by omega)];unfold leastStep;rw[back_get c (by omega)]
   have:((1-c.owners.getD n 0)==own)=(c.owners.getD n 0==1-own):=by
    rw[Bool.eq_iff_iff,beq_iff_eq,beq_iff_eq];omega
   rw[this]
 exact this _ (Nat.le_refl _)
theorem least_ne{c:Case}{s:Shop}{l:List Cast}(h:l∈truths s){m:Int}(h0:least c l m 0≠0)(h1:least c l m 1≠0):least c l m 0≠least c l m 1:=by
 rcases leastTo c l m 0 (fun i hi=>truth_num h hi) l.length (Nat.le_refl _)with⟨a,_⟩|⟨i,i1,i2,i3,_⟩
 ·exact absurd a h0
 rcases leastTo c l m 1 (fun i hi=>truth_num h hi) l.length (Nat.le_refl _)with⟨a,_⟩|⟨j,j1,j2,j3,_⟩
 ·exact absurd a h1
 intro e;unfold least at e;rw[i3,j3]at e;simp only[hitL,Bool.and_eq_true,beq_iff_eq]at i2 j2;exact truth_nodup h i1 j1 (fun q=>by rw[q]at i2;omega) ⟨by rw[i2.1,j2.1],e⟩
theorem oldP_back{c:Case}{l:List Cast}(h:l∈truths c.shop)(hl:l.length<=c.owners.length)(m:Int):oldP (backC c) m l=newP c m l/\newP (backC c) m l=oldP c m l:=by
 have hne:=least_ne (c:=c) (m:=m) h;unfold oldP newP;rw[least_back c hl m 0,least_back c hl m 1,show(1:Int)-0=1 from rfl,show(1:Int)-1=0 from rfl];by_cases z0:least c l m 0=0
 ·simp[z0]
 by_cases z1:least c l m 1=0
 ·simp[z1]
 have:=hne z0 z1;have e0:(least c l m 0 !=0)=true:=by simpa using z0
 have e1:(least c l m 1 !=0)=true:=by simpa using z1
 rw[e0,e1];simp only[Bool.true_and,Bool.and_self];constructor
 ·rw[Bool.eq_iff_iff,Bool.not_eq_true',decide_eq_true_iff,decide_eq_false_iff_not];omega
 ·rw[Bool.eq_iff_iff,Bool.not_eq_true',decide_eq_true_iff,decide_eq_false_iff_not];omega
theorem firstE_any{τ:Type}{of:Nat->τ->Int}:∀ {l:List τ} {i:Nat},firstE of i l=none↔∀j,(hj:j<l.length)->of (i+j) l[j]=0
 |[],_=>⟨fun _ j hj=>absurd hj (Nat.not_lt_zero j),fun _=>rfl⟩
 |x::l,i=>by
  unfold firstE;by_cases h:of i x=0
  ·rw[if_pos h,firstE_any];constructor
   ·intro q j hj
    match j,hj with
    |0,_=>exact h
    |j+1,hj=>have:=q j (by simpa using hj);rw[show i+(j+1)=i+1+j by omega];exact this
   ·intro q j hj;have:=q (j+1) (by simpa using hj);rw[show i+(j+1)=i+1+j by omega]at this;exact this
  ·rw[if_neg h];exact⟨fun q=>(by cases q),fun q=>absurd (q 0 (by simp)) h⟩
theorem owners_in{c:Case}(h:OkCase c):∀j,(hj:j<c.owners.length)->within c.owners[j] 0 1=true:=fun j hj=>by
 have:=h.own _ (List.getElem_mem hj);exact within_iff.2 this
theorem back_ok{c:Case}(h:(caseCheck c).2.2=0):(caseCheck (backC c)).2.2=0:=by
 have ho:=okCase h
 have e1:firstE (fun _ n=>if within n 0 1 then 0 else 7) 0 (c.owners.map fun n=>1-n)=none:=by
  rw[firstE_any];intro j hj;have hj':j<c.owners.length:=by simpa using hj
  have:=within_iff.1 (owners_in ho j hj');rw[List.getElem_map,if_pos (within_iff.2 (by omega))]
 have e0:firstE (fun _ n=>if within n 0 1 then 0 else 7) 0 c.owners=none:=by
  rw[firstE_any];intro j hj;rw[if_pos (owners_in ho j hj)]
 unfold caseCheck at h⊢;simp only[backC,e1,List.length_map]at h⊢;rw[e0]at h;exact h
theorem back_sets(c:Case):caseSets (backC c)=caseSets c:=rfl
theorem back_truths(c:Case)(n:Int)(h:(caseCheck c).2.2=0):truthsE (backC c) n=truthsE c n:=by
 have h2:=back_ok h;have e1:¬(caseCheck (backC c)).2.2≠0:=fun q=>q h2;have e2:¬(caseCheck c).2.2≠0:=fun q=>q h;unfold truthsE;rw[if_neg e1,if_neg e2,back_sets]
theorem older_back{c:Case}(h:(caseCheck c).2.2=0){m:Int}(he:(truthsE c (indexErr m c.shop.moulds.length)).2=0):
  (olderR c m).2=(olderR (backC c) m).2/\((olderR c m).2≠0->(olderR c m).2=9/\(olderR c m).1=0/\(olderR (backC c) m).1=0)/\
  ((olderR c m).2=0->(0<=(olderR c m).1/\(olderR c m).1<=2)/\((olderR c m).1=2->(olderR (backC c) m).1=(olderR c m).1)/\((olderR c m).1≠2->(olderR (backC c) m).1=1-(olderR c m).1)):=by
 have ho:=okCase h
 have e1:(truths c.shop).countP (oldP (backC c) m)=(truths c.shop).countP (newP c m):=List.countP_congr fun l hl=>by
  rw[(oldP_back hl (by rw[(grow_mem hl).1,ho.many];exact Nat.le_refl _) m).1]
 have e2:(truths c.shop).countP (newP (backC c) m)=(truths c.shop).countP (oldP c m):=List.countP_congr fun l hl=>by
  rw[(oldP_back hl (by rw[(grow_mem hl).1,ho.many];exact Nat.le_refl _) m).2]
 have hb:(truthsE (backC c) (indexErr m (backC c).shop.moulds.length)).2=0:=by rw[back_truths c _ h];exact he
 have q1:¬(truthsE c (indexErr m c.shop.moulds.length)).2≠0:=fun q=>q he;have q2:¬(truthsE (backC c) (indexErr m (backC c).shop.moulds.length)).2≠0:=fun q=>q hb;unfold olderR;rw[if_neg q1,if_neg q2];have es:(backC c).shop=c.shop:=rfl;rw[es,e1,e2];generalize(truths c.shop).countP (oldP c m)=a
 generalize(truths c.shop).countP (newP c m)=b
 by_cases a0:a=0<;>by_cases b0:b=0<;>simp[a0,b0]
theorem older_sure{c:Case}{m:Int}(he:(truthsE c (indexErr m c.shop.moulds.length)).2=0)(hne:truths c.shop≠ [])(hl:∀l∈truths c.shop,l.length<=c.owners.length){i:Nat}(hi:i<c.owners.length)(ho:c.owners.getD i 0=0)(hlen:∀l∈truths c.shop,i<l.length)
  (hm:∀l∈truths c.shop,(l.getD i zCast).mould=m)
  (hj:∀j,j<c.owners.length->c.owners.getD j 0=1->∀l∈truths c.shop,(l.getD i zCast).mould=(l.getD j zCast).mould/\(l.getD i zCast).number<(l.getD j zCast).number) (hmet:∃j,j<c.owners.length/\c.owners.getD j 0=1/\∀l∈truths c.shop,j<l.length):olderR c m=(0,0):=by
 have key:∀l∈truths c.shop,oldP c m l=true:=fun l hlm=>by
  have hlo:=hl l hlm;have hil:=hlen l hlm;have hhit:hitL c l m 0 i=true:=by unfold hitL;rw[hm l hlm,ho];simp
  have hnum:∀i,i<l.length->1<=(l.getD i zCast).number:=fun i hi=>truth_num hlm hi;rcases leastTo c l m 0 hnum l.length (Nat.le_refl _)with⟨_,b⟩|⟨i1,i2,i3,i4,i5⟩
  ·rw[b i hil]at hhit;cases hhit
  obtain⟨j,j1,j2,j3⟩:=hmet;have hjl:=j3 l hlm;have hjj:=hj j j1 j2 l hlm;have hhj:hitL c l m 1 j=true:=by unfold hitL;rw[<-hjj.1,hm l hlm,j2];simp
  rcases leastTo c l m 1 hnum l.length (Nat.le_refl _)with⟨_,b⟩|⟨k1,k2,k3,k4,k5⟩
  ·rw[b j hjl]at hhj;cases hhj
  have hk:c.owners.getD k1 0=1:=by simp only[hitL,Bool.and_eq_true,beq_iff_eq]at k3;exact k3.2
  have hkk:=hj k1 (by omega) hk l hlm;have h1:=i5 i hil hhit;have h2:=hnum i1 i2;have h3:=hnum k1 k2;unfold oldP least;rw[i4,k4];simp only[Bool.and_eq_true,bne_iff_ne,decide_eq_true_eq];omega
 have hn:(truths c.shop).countP (newP c m)=0:=List.countP_eq_zero.2 fun l hlm=>by
  have:=key l hlm;unfold oldP at this;unfold newP;rw[Bool.and_eq_true]at this;rw[this.2];simp
 have hp:(truths c.shop).countP (oldP c m)≠0:=by
  obtain⟨l,hlm⟩:=List.exists_mem_of_ne_nil _ hne;have:=List.countP_pos_iff.2 ⟨l,hlm,key l hlm⟩;omega
 unfold olderR;rw[if_neg (by rw[he];simp),if_neg (fun q=>hp q.1),if_pos hn]
noncomputable section
inductive P192
 |e
 |l0 (x0_23:Int) (a0_0:Nat->Nat->Span)
inductive R192
 |r0 (r0:Nat->(Nat->Span)) (r1:Bool)
def T192(L0:Nat->Nat->Span)(s:Shop)(L:Nat->Nat->Span)(hd:Int)(c:Cast):P192->Tr P192 R192
 |.e=>(.wait 2 (.telb 2 8 2 (fun _ j=>([iI 0,iI 0,iI 0,iI 0,iI 0,iI 0,iI 0,iI 0]:List V).getD j uU) (rowsFn tFour (fun _=>tFour.zero)) (.need (decide (0<=hd)&&decide (hd<(s.heads.length:Int))) (.go (.l0 0 L)))))
 |.l0 x0_23 a0_0=>let c2:=(c.mould).toNat;let c1:=a0_0 c2;let c3:=c.number-(1:Int);let c4:=(c.mould).toNat<2;let c5:=((s.heads.getD (hd).toNat tHead.zero).shows).getD (x0_23).toNat tint.zero;let c6:=x0_23+(1:Int);let c7:=max ((c1 3).lo) c.number;let c8:=max ((c1 2).lo) c.number;let c9:=max ((c1 1).lo) c.number;let c10:=max ((c1 0).lo) c.number;let c11:=((decide c4&&decide (6<8))&&((decide c4&&decide (7<8))&&true))&&true;let c12:=((decide c4&&decide (4<8))&&((decide c4&&decide (5<8))&&true))&&true;let c13:=((decide c4&&decide (2<8))&&((decide c4&&decide (3<8))&&true))&&true;let c14:=((decide c4&&decide (0<8))&&((decide c4&&decide (1<8))&&true))&&true;let c15:=decide (0<=c.mould)&&decide (c.mould<(2:Int));let c16:=upd a0_0 c2 (upd c1 0 ⟨c10,(c1 0).hi⟩);let c17:=upd a0_0 c2 (upd c1 3 ⟨c7,(c1 3).hi⟩);let c18:=upd a0_0 c2 (upd c1 2 ⟨c8,(c1 2).hi⟩);let c19:=upd a0_0 c2 (upd c1 1 ⟨c9,(c1 1).hi⟩);let c20:=min ((c1 3).hi) c3;let c21:=min ((c1 2).hi) c3;let c22:=min ((c1 1).hi) c3;let c23:=min ((c1 0).hi) c3;let c25:=rowsFn tFour a0_0;let c26:=inR .i64 c6;let c24:Tr P192 R192:=.need c26 (.go (.l0 c6 a0_0));let c27:=x0_23<(((s.heads.getD (hd).toNat tHead.zero).shows.length):Int);let c28:Tr P192 R192:=.out (.r0 a0_0 false);let c29:=(inR .i64 c3)&&true;let c30:=([iI c23]:List V);let c31:=([iI c22]:List V);let c32:=([iI c21]:List V);let c33:=([iI c20]:List V);let c34:=([iI c10]:List V);let c35:=([iI c9]:List V);let c36:=([iI c8]:List V);let c37:=([iI c7]:List V);let c38:=c5==(2:Int);let c39:=c5==(1:Int);(.br (decide c27) (.need (decide (0<=x0_23)&&decide c27) (.wait 1 (.cas (decide (x0_23=0)) (.vle 10 (iI x0_23) (iI 0) (.need c15 (.need ((decide (0<=(0:Int))&&decide ((0:Int)<(4:Int)))&&true) (.br c39 (.front [] [] (((decide c4&&decide (0<8))&&true)&&true) true (.need ((decide c4&&decide (0+c34.length<=8))&&underL 0 c34) (.telb 0 8 2 (fun r' j=>if r'=(c.mould).toNat/\0<=j/\j<0+c34.length then c34.getD (j-0) uU else c25 r' j) (rowsFn tFour c16) (.front [] [] c14 true (.br (decide (((c16 c2) 0).lo>((c16 c2) 0).hi)) (.out (.r0 c16 false)) (.need c26 (.go (.l0 c6 c16)))))))) (.br c38 (.front [] [] (((decide c4&&decide (1<8))&&c29)&&true) true (.need ((decide c4&&decide (1+c30.length<=8))&&underL 0 c30) (.telb 0 8 2 (fun r' j=>if r'=(c.mould).toNat/\1<=j/\j<1+c30.length then c30.getD (j-1) uU else c25 r' j) (rowsFn tFour (upd a0_0 c2 (upd c1 0 ⟨(c1 0).lo,c23⟩))) (.front [] [] c14 true (.br (decide ((((upd a0_0 c2 (upd c1 0 ⟨(c1 0).lo,c23⟩)) c2) 0).lo>(((upd a0_0 c2 (upd c1 0 ⟨(c1 0).lo,c23⟩)) c2) 0).hi)) (.out (.r0 (upd a0_0 c2 (upd c1 0 ⟨(c1 0).lo,c23⟩)) false)) (.need c26 (.go (.l0 c6 (upd a0_0 c2 (upd c1 0 ⟨(c1 0).lo,c23⟩)))))))))) (.front [] [] c14 true (.br (decide ((c1 0).lo>(c1 0).hi)) c28 c24))))))) (.cas (decide (x0_23=1)) (.vle 10 (iI x0_23) (iI 1) (.need c15 (.need ((decide (0<=(1:Int))&&decide ((1:Int)<(4:Int)))&&true) (.br c39 (.front [] [] (((decide c4&&decide (2<8))&&true)&&true) true (.need ((decide c4&&decide (2+c35.length<=8))&&underL 0 c35) (.telb 0 8 2 (fun r' j=>if r'=(c.mould).toNat/\2<=j/\j<2+c35.length then c35.getD (j-2) uU else c25 r' j) (rowsFn tFour c19) (.front [] [] c13 true (.br (decide (((c19 c2) 1).lo>((c19 c2) 1).hi)) (.out (.r0 c19 false)) (.need c26 (.go (.l0 c6 c19)))))))) (.br c38 (.front [] [] (((decide c4&&decide (3<8))&&c29)&&true) true (.need ((decide c4&&decide (3+c31.length<=8))&&underL 0 c31) (.telb 0 8 2 (fun r' j=>if r'=(c.mould).toNat/\3<=j/\j<3+c31.length then c31.getD (j-3) uU else c25 r' j) (rowsFn tFour (upd a0_0 c2 (upd c1 1 ⟨(c1 1).lo,c22⟩))) (.front [] [] c13 true (.br (decide ((((upd a0_0 c2 (upd c1 1 ⟨(c1 1).lo,c22⟩)) c2) 1).lo>(((upd a0_0 c2 (upd c1 1 ⟨(c1 1).lo,c22⟩)) c2) 1).hi)) (.out (.r0 (upd a0_0 c2 (upd c1 1 ⟨(c1 1).lo,c22⟩)) false)) (.need c26 (.go (.l0 c6 (upd a0_0 c2 (upd c1 1 ⟨(c1 1).lo,c22⟩)))))))))) (.front [] [] c13 true (.br (decide ((c1 1).lo>(c1 1).hi)) c28 c24))))))) (.cas (decide (x0_23=2)) (.vle 10 (iI x0_23) (iI 2) (.need c15 (.need ((decide (0<=(2:Int))&&decide ((2:Int)<(4:Int)))&&true) (.br c39 (.front [] [] (((decide c4&&decide (4<8))&&true)&&true) true (.need ((decide c4&&decide (4+c36.length<=8))&&underL 0 c36) (.telb 0 8 2 (fun r' j=>if r'=(c.mould).toNat/\4<=j/\j<4+c36.length then c36.getD (j-4) uU else c25 r' j) (rowsFn tFour c18) (.front [] [] c12 true (.br (decide (((c18 c2) 2).lo>((c18 c2) 2).hi)) (.out (.r0 c18 false)) (.need c26 (.go (.l0 c6 c18)))))))) (.br c38 (.front [] [] (((decide c4&&decide (5<8))&&c29)&&true) true (.need ((decide c4&&decide (5+c32.length<=8))&&underL 0 c32) (.telb 0 8 2 (fun r' j=>if r'=(c.mould).toNat/\5<=j/\j<5+c32.length then c32.getD (j-5) uU else c25 r' j) (rowsFn tFour (upd a0_0 c2 (upd c1 2 ⟨(c1 2).lo,c21⟩))) (.front [] [] c12 true (.br (decide ((((upd a0_0 c2 (upd c1 2 ⟨(c1 2).lo,c21⟩)) c2) 2).lo>(((upd a0_0 c2 (upd c1 2 ⟨(c1 2).lo,c21⟩)) c2) 2).hi)) (.out (.r0 (upd a0_0 c2 (upd c1 2 ⟨(c1 2).lo,c21⟩)) false)) (.need c26 (.go (.l0 c6 (upd a0_0 c2 (upd c1 2 ⟨(c1 2).lo,c21⟩)))))))))) (.front [] [] c12 true (.br (decide ((c1 2).lo>(c1 2).hi)) c28 c24))))))) (.cas (decide (x0_23=3)) (.vle 10 (iI x0_23) (iI 3) (.need c15 (.need ((decide (0<=(3:Int))&&decide ((3:Int)<(4:Int)))&&true) (.br c39 (.front [] [] (((decide c4&&decide (6<8))&&true)&&true) true (.need ((decide c4&&decide (6+c37.length<=8))&&underL 0 c37) (.telb 0 8 2 (fun r' j=>if r'=(c.mould).toNat/\6<=j/\j<6+c37.length then c37.getD (j-6) uU else c25 r' j) (rowsFn tFour c17) (.front [] [] c11 true (.br (decide (((c17 c2) 3).lo>((c17 c2) 3).hi)) (.out (.r0 c17 false)) (.need c26 (.go (.l0 c6 c17)))))))) (.br c38 (.front [] [] (((decide c4&&decide (7<8))&&c29)&&true) true (.need ((decide c4&&decide (7+c33.length<=8))&&underL 0 c33) (.telb 0 8 2 (fun r' j=>if r'=(c.mould).toNat/\7<=j/\j<7+c33.length then c33.getD (j-7) uU else c25 r' j) (rowsFn tFour (upd a0_0 c2 (upd c1 3 ⟨(c1 3).lo,c20⟩))) (.front [] [] c11 true (.br (decide ((((upd a0_0 c2 (upd c1 3 ⟨(c1 3).lo,c20⟩)) c2) 3).lo>(((upd a0_0 c2 (upd c1 3 ⟨(c1 3).lo,c20⟩)) c2) 3).hi)) (.out (.r0 (upd a0_0 c2 (upd c1 3 ⟨(c1 3).lo,c20⟩)) false)) (.need c26 (.go (.l0 c6 (upd a0_0 c2 (upd c1 3 ⟨(c1 3).lo,c20⟩)))))))))) (.front [] [] c11 true (.br (decide ((c1 3).lo>(c1 3).hi)) c28 c24))))))) .never)))))) (.out (.r0 a0_0 true)))
noncomputable def g192(L0:Nat->Nat->Span)(s:Shop)(L:Nat->Nat->Span)(hd:Int)(c:Cast):P192->List Item × St
 |.e=>bd Tryz.f192 [lkS s L0,.arr 8 2 (rowsFn tFour L),iI hd,.agg [iI c.mould,iI c.number]] 67
 |.l0 x0_23 a0_0=>(cutOf Tryz.f192 0,⟨mk 71 [(5,.ref 0 0 0),(7,.ref 1 0 0),(8,.ref 2 0 0),(21,tint.lst ((s.heads.getD (hd).toNat tHead.zero).shows)),(22,iI (((s.heads.getD (hd).toNat tHead.zero).shows.length):Int)),(23,iI x0_23)],[.rows 155 8 2 (rowsFn tFour a0_0),.cells [iI c.mould,iI c.number],.rows 155 8 2 (rowsFn tFour (fun _=>tFour.zero))],[]⟩)
def n192:R192->Exit × St
 |.r0 r0 r1=>(.ret,⟨mk 71 [(8,.ref 2 0 0),(9,.bool r1)],[.gone,.gone,.rows 155 8 2 (rowsFn tFour r0)],[]⟩)
def v192:R192->V
 |.r0 r0 r1=>.tuple [.arr 8 2 (rowsFn tFour r0),.bool r1]
theorem s192(L0:Nat->Nat->Span)(s:Shop)(L:Nat->Nat->Span)(hd:Int)(c:Cast):Sm 0 (g192 L0 s L hd c) (T192 L0 s L hd c) (n192)
 |.e=>⟨400,by kernel_rfl⟩
 |.l0 _ _=>⟨400,by kernel_rfl⟩
theorem q192:∀r,bodyQ Tryz.prog Tryz.f192 (·=v192 r) (n192 r).1 (n192 r).2
 |.r0 r0 r1=>bq (.tuple [.arr 8 2 (rowsFn tFour r0),.bool r1]) (by kernel_rfl)
theorem w192(L0:Nat->Nat->Span)(s:Shop)(L:Nat->Nat->Span)(hd:Int)(c:Cast){post:V->Prop}(h:WQ (T192 L0 s L hd c) v192 post .e):PC 192 [lkS s L0,.arr 8 2 (rowsFn tFour L),iI hd,.agg [iI c.mould,iI c.number]] post:=
 PCalls.wq Tryz.func192 (s192 L0 s L hd c) q192 h
theorem tel_four(L:Nat->Nat->Span)(m f:Nat)(x:Span){vs:List V}{o r j:Nat}(hv:(o=2*f/\vs=[iI x.lo]/\x.hi=(L m f).hi)\/(o=2*f+1/\vs=[iI x.hi]/\x.lo=(L m f).lo))(hf:f<4)(hj:j<8):
  VLe (if r=m/\o<=j/\j<o+vs.length then vs.getD (j-o) uU else rowsFn tFour L r j) (rowsFn tFour (upd L m (upd (L m) f x)) r j):=by
 by_cases hr:r=m
 ·subst hr;unfold rowsFn;rw[upd_same]
  rcases show f=0\/f=1\/f=2\/f=3 by omega with rfl|rfl|rfl|rfl<;>
   rcases hv with⟨rfl,rfl,h⟩|⟨rfl,rfl,h⟩<;>
   rcases show j=0\/j=1\/j=2\/j=3\/j=4\/j=5\/j=6\/j=7 by omega with rfl|rfl|rfl|rfl|rfl|rfl|rfl|rfl<;>
   simp[tFour,upd,h]<;>exact VLe.refl _
 ·have:rowsFn tFour (upd L m (upd (L m) f x)) r j=rowsFn tFour L r j:=by
   unfold rowsFn upd;rw[if_neg hr]
  rw[if_neg (fun q=>hr q.1),this];exact VLe.refl _
theorem hi4{i:Nat}(h:i<4):i=0\/i=1\/i=2\/i=3:=by omega
def showN(s:Shop)(hd:Int):Nat:=(s.heads.getD hd.toNat zHead).shows.length
set_option maxHeartbeats 16000000 in
theorem c192(L0:Nat->Nat->Span)(s:Shop)(L:Nat->Nat->Span)(hd:Int)(c:Cast)(hh:0<=hd/\hd<s.heads.length)(hm:0<=c.mould/\c.mould<2)(hn:0<=c.number/\c.number<=1000)(h4:showN s hd<=4):
  PC 192 [lkS s L0,.arr 8 2 (rowsFn tFour L),iI hd,.agg (tCast.cells c)] (·=.tuple [.arr 8 2 (rowsFn tFour (narR s L hd c (showN s hd)).1),.bool (narR s L hd c (showN s hd)).2]):=by
 have hz:tHead.zero=zHead:=rfl;have hzi:tint.zero=0:=rfl;have rn:inR .i64 (c.number-1)=true:=inR64 (by omega) (by omega)
 have hmain:WP Tryz.prog ⟨none,0⟩ (T192 L0 s L hd c) (Ends' fun r=>v192 r=.tuple [.arr 8 2 (rowsFn tFour (narR s L hd c (showN s hd)).1),.bool (narR s L hd c (showN s hd)).2]) (.l0 0 L):=by
  refine WP.count (fun i=>.l0 (i:Int) (narR s L hd c i).1) rfl (showN s hd) (fun i=>(narR s L hd c i).2=true) rfl (fun i hi hI=> ?_) fun hI=> ?_
  ·have hi':(i:Int)<((s.heads.getD hd.toNat zHead).shows.length:Int):=by unfold showN at hi;omega
   have hr:inR .i64 ((i:Int)+1)=true:=inR64 (by omega) (by omega);have e:narR s L hd c (i+1)=narS s hd c i (narR s L hd c i):=rfl;have hstop:=narR_stop s L hd c (k:=i+1);have hstop2:=fun q=>hstop q (showN s hd) (by omega);rw[e]at hstop2⊢;unfold narS at hstop2⊢;rw[if_pos hI]at hstop2⊢;clear hstop e hI
   generalize(narR s L hd c i).1=F at*
   generalize narR s L hd c (showN s hd)=R at*
   have e1:=hi4 (show i<4 by omega);have hg:∀x:Span,(upd F c.mould.toNat (upd (F c.mould.toNat) i x)) c.mould.toNat i=x:=fun x=>by rw[upd_same,upd_same]
   have ht1:=fun(x:Span) (h:x.hi=(F c.mould.toNat i).hi) (r j:Nat) (hj:j<8)=>tel_four F c.mould.toNat i x (vs:=[iI x.lo]) (o:=2*i) (r:=r) (.inl ⟨rfl,rfl,h⟩) (by omega) hj;have ht2:=fun(x:Span) (h:x.lo=(F c.mould.toNat i).lo) (r j:Nat) (hj:j<8)=>tel_four F c.mould.toNat i x (vs:=[iI x.hi]) (o:=2*i+1) (r:=r) (.inr ⟨rfl,rfl,h⟩) (by omega) hj;have c0:((0:Nat):Int)=0:=rfl;have c1:((1:Nat):Int)=1:=rfl
   have c2:((2:Nat):Int)=2:=rfl;have c3:((3:Nat):Int)=3:=rfl;by_cases g1:(s.heads.getD hd.toNat zHead).shows.getD i 0=1
   ·have hN:narrow ((s.heads.getD hd.toNat zHead).shows.getD i 0) c.number (F c.mould.toNat i)=⟨max (F c.mould.toNat i).lo c.number,(F c.mould.toNat i).hi⟩:=if_pos g1;rw[hN]at hstop2⊢;have ht:=ht1 ⟨max (F c.mould.toNat i).lo c.number,(F c.mould.toNat i).hi⟩ rfl;have hg':=hg ⟨max (F c.mould.toNat i).lo c.number,(F c.mould.toNat i).hi⟩;clear ht1 ht2 hg hN
    by_cases q:max (F c.mould.toNat i).lo c.number>(F c.mould.toNat i).hi
    ·have hR:=hstop2 (by simp[q]);rw[hR];clear hR hstop2
     rcases e1 with rfl|rfl|rfl|rfl
     all_goals
      refine WP.once ?_;simp only[T192,Tr.sure,SS,hi',hz,hzi,c0,c1,c2,c3,g1,hg',q,Int.reduceEq,Int.reduceBEq,Int.reduceToNat];repeat' with_reducible first|intro _|apply aI
      all_goals first|(simp[hr,rn,Go,Ends',v192,-List.getD_eq_getElem?_getD, *];done)|(simp_all [hr,rn,Go,Ends',v192,-List.getD_eq_getElem?_getD];done)|skip
      all_goals first
       |exact ht _ _ (by assumption)
       |exact VLe.refl _
       |exact(rfl:underL 0 [V.int .i64 _]=true)
    ·clear hstop2
     rcases e1 with rfl|rfl|rfl|rfl
     all_goals
      refine WP.once ?_;simp only[T192,Tr.sure,SS,hi',hz,hzi,c0,c1,c2,c3,g1,hg',q,Int.reduceEq,Int.reduceBEq,Int.reduceToNat];repeat' with_reducible first|intro _|apply aI
      all_goals first|(simp[hr,rn,Go,Ends',v192,-List.getD_eq_getElem?_getD, *];done)|(simp_all [hr,rn,Go,Ends',v192,-List.getD_eq_getElem?_getD];done)|skip
      all_goals first
       |exact ht _ _ (by assumption)
       |exact VLe.refl _
       |exact(rfl:underL 0 [V.int .i64 _]=true)
   by_cases g2:(s.heads.getD hd.toNat zHead).shows.getD i 0=2
   ·have hN:narrow ((s.heads.getD hd.toNat zHead).shows.getD i 0) c.number (F c.mould.toNat i)=⟨(F c.mould.toNat i).lo,min (F c.mould.toNat i).hi (c.number-1)⟩:=by unfold narrow;rw[if_neg g1,if_pos g2]
    rw[hN]at hstop2⊢;have ht:=ht2 ⟨(F c.mould.toNat i).lo,min (F c.mould.toNat i).hi (c.number-1)⟩ rfl;have hg':=hg ⟨(F c.mould.toNat i).lo,min (F c.mould.toNat i).hi (c.number-1)⟩;clear ht1 ht2 hg hN
    by_cases q:(F c.mould.toNat i).lo>min (F c.mould.toNat i).hi (c.number-1)
    ·have hR:=hstop2 (by simp[q]);rw[hR];clear hR hstop2
     rcases e1 with rfl|rfl|rfl|rfl
     all_goals
      refine WP.once ?_;simp only[T192,Tr.sure,SS,hi',hz,hzi,c0,c1,c2,c3,g1,g2,hg',q,Int.reduceEq,Int.reduceBEq,Int.reduceToNat];repeat' with_reducible first|intro _|apply aI
      all_goals first|(simp[hr,rn,Go,Ends',v192,-List.getD_eq_getElem?_getD, *];done)|(simp_all [hr,rn,Go,Ends',v192,-List.getD_eq_getElem?_getD];done)|skip
      all_goals first
       |exact ht _ _ (by assumption)
       |exact VLe.refl _
       |exact(rfl:underL 0 [V.int .i64 _]=true)
    ·clear hstop2
     rcases e1 with rfl|rfl|rfl|rfl
     all_goals
      refine WP.once ?_;simp only[T192,Tr.sure,SS,hi',hz,hzi,c0,c1,c2,c3,g1,g2,hg',q,Int.reduceEq,Int.reduceBEq,Int.reduceToNat];repeat' with_reducible first|intro _|apply aI
      all_goals first|(simp[hr,rn,Go,Ends',v192,-List.getD_eq_getElem?_getD, *];done)|(simp_all [hr,rn,Go,Ends',v192,-List.getD_eq_getElem?_getD];done)|skip
      all_goals first
       |exact ht _ _ (by assumption)
       |exact VLe.refl _
       |exact(rfl:underL 0 [V.int .i64 _]=true)
   ·have hN:narrow ((s.heads.getD hd.toNat zHead).shows.getD i 0) c.number (F c.mould.toNat i)=F c.mould.toNat i:=by unfold narrow;rw[if_neg g1,if_neg g2]
    rw[hN,upd_self,upd_self]at hstop2⊢;clear ht1 ht2 hg hN
    by_cases q:(F c.mould.toNat i).lo>(F c.mould.toNat i).hi
    ·have hR:=hstop2 (by simp[q]);rw[hR];clear hR hstop2
     rcases e1 with rfl|rfl|rfl|rfl
     all_goals
      refine WP.once ?_;simp only[T192,Tr.sure,SS,hi',hz,hzi,c0,c1,c2,c3,g1,g2,q,Int.reduceEq,Int.reduceBEq,Int.reduceToNat];repeat' with_reducible first|intro _|apply aI
      all_goals first|(simp[hr,rn,Go,Ends',v192,-List.getD_eq_getElem?_getD, *];done)|(simp_all [hr,rn,Go,Ends',v192,-List.getD_eq_getElem?_getD];done)|skip
      all_goals first
       |exact VLe.refl _
       |exact(rfl:underL 0 [V.int .i64 _]=true)
    ·clear hstop2
     rcases e1 with rfl|rfl|rfl|rfl
     all_goals
      refine WP.once ?_;simp only[T192,Tr.sure,SS,hi',hz,hzi,c0,c1,c2,c3,g1,g2,q,Int.reduceEq,Int.reduceBEq,Int.reduceToNat];repeat' with_reducible first|intro _|apply aI
      all_goals first|(simp[hr,rn,Go,Ends',v192,-List.getD_eq_getElem?_getD, *];done)|(simp_all [hr,rn,Go,Ends',v192,-List.getD_eq_getElem?_getD];done)|skip
      all_goals first
       |exact VLe.refl _
       |exact(rfl:underL 0 [V.int .i64 _]=true)
  ·have hi':¬((showN s hd:Nat):Int)<((s.heads.getD hd.toNat zHead).shows.length:Int):=Int.lt_irrefl _;rw[hI];refine WP.once ?_;simp only[T192,Tr.sure,SS,hi',hz];repeat' with_reducible first|intro _|apply aI
   all_goals simp[Go,Ends',v192,-List.getD_eq_getElem?_getD, *]
 refine w192 L0 s L hd c (WP.step ?_);simp only[T192,Go,Ends',v192,Tr.sure,SS,hz];repeat' with_reducible first|intro _|apply aI
 all_goals first|exact hmain|(simp[hh,h4,Go,Ends',v192,-List.getD_eq_getElem?_getD, *];done)|skip
 all_goals first
  |exact VLe.refl _
end
noncomputable section
inductive P215
 |e
 |l0 (x0_12:Int) (e0_0:List V)
 |l1 (x0_12:Int) (x1_19:Int) (e1_0:List V)
inductive R215
 |r0 (r0:List V)
 |r1 (r0:List V)
def T215(X:Ext)(s:Shop)(L:Nat->Nat->Span):P215->Tr P215 R215
 |.e=>(.go (.l0 0 ([])))
 |.l0 x0_12 e0_0=>let c1:=x0_12<(s.moulds.length:Int);(.br (decide c1) (.need (decide (0<=x0_12)&&decide c1) (.go (.l1 x0_12 0 e0_0))) (.out (.r0 e0_0)))
 |.l1 x0_12 x1_19 e1_0=>let c3:=x1_19+(1:Int);let c1:List V:=[.agg [iI x0_12,iI c3]];let c2:=e1_0++ [V.tuple c1];(.br (decide (x1_19<(s.moulds.getD (x0_12).toNat tMould.zero).casts)) (.need (inR .i64 c3) (.yld X e1_0 c1 c1 true (.br (!(X.go c2)) (.out (.r1 c2)) (.need (inR .i64 c3) (.go (.l1 x0_12 c3 c2)))))) (.need (inR .i64 (x0_12+(1:Int))) (.go (.l0 (x0_12+(1:Int)) e1_0))))
noncomputable def g215(X:Ext)(s:Shop)(L:Nat->Nat->Span):P215->List Item × St
 |.e=>([.code (Tryz.f215.body.getD .skip)],⟨[.yld 0,rR (lkS s L)]++List.replicate 29 uU,[.ext X ([])],[]⟩)
 |.l0 x0_12 e0_0=>(cutOf Tryz.f215 0,⟨mk 31 [(0,.yld 0),(10,tMould.lst s.moulds),(11,iI (s.moulds.length:Int)),(12,iI x0_12)],[.ext X e0_0],[]⟩)
 |.l1 x0_12 x1_19 e1_0=>(cutOf Tryz.f215 1,⟨mk 31 [(0,.yld 0),(3,iI x0_12),(10,tMould.lst s.moulds),(11,iI (s.moulds.length:Int)),(12,iI x0_12),(18,iI ((s.moulds.getD (x0_12).toNat tMould.zero).casts)),(19,iI x1_19)],[.ext X e1_0],[]⟩)
def n215(X:Ext)(s:Shop)(L:Nat->Nat->Span):R215->Exit × St
 |.r0 r0=>(.normal,⟨mk 31 [],[.ext X r0],[]⟩)
 |.r1 r0=>(.ret,⟨mk 31 [],[.ext X r0],[]⟩)
theorem s215(X:Ext)(s:Shop)(L:Nat->Nat->Span):Sm 1 (g215 X s L) (T215 X s L) (n215 X s L)
 |.e=>⟨400,by kernel_rfl⟩
 |.l0 _ _=>⟨400,by kernel_rfl⟩
 |.l1 _ _ _=>⟨400,by kernel_rfl⟩
def hh215(X:Ext)(s:Shop)(L:Nat->Nat->Span):R215->List Blk
 |.r0 r0=>[.ext X r0]
 |.r1 r0=>[.ext X r0]
def v215(X:Ext)(s:Shop)(L:Nat->Nat->Span):R215->V
 |.r0 r0=>.tuple []
 |.r1 r0=>.tuple []
theorem q215(X:Ext)(s:Shop)(L:Nat->Nat->Span):∀r,((n215 X s L r).1=.normal\/(n215 X s L r).1=.ret)/\(n215 X s L r).2.d=[]/\(n215 X s L r).2.h=hh215 X s L r/\resultV Tryz.prog Tryz.f215 (n215 X s L r).2=some (v215 X s L r)
 |.r0 r0=>⟨.inl rfl,rfl,rfl,by kernel_rfl⟩
 |.r1 r0=>⟨.inr rfl,rfl,rfl,by kernel_rfl⟩
theorem w215(X:Ext)(s:Shop)(L:Nat->Nat->Span){V0:V}{h':List Blk}(h:WP Tryz.prog ⟨none,1⟩ (T215 X s L) (Ends' fun r=>v215 X s L r=V0/\hh215 X s L r=h') .e):HCalls Tryz.prog 215 [.yld 0,rR (lkS s L)] V0 [.ext X ([])] h':=
 HCalls.wp mx Tryz.func215 (by kernel_rfl) (by kernel_rfl) (T215 X s L) (g215 X s L) (n215 X s L) .e rfl (s215 X s L) h fun r hr=>by rw[<-hr.1,<-hr.2];exact q215 X s L r
def yC(c:Cast):V:=.tuple [.agg (tCast.cells c)]
def ysC(s:Shop):List V:=(allCasts s).map yC
set_option maxHeartbeats 4000000 in
theorem c215(s:Shop)(L:Nat->Nat->Span)(h:OkShop s):Iter Tryz.prog 215 [rR (lkS s L)] (ysC s):=by
 intro X hX hY hg;refine⟨.tuple [],?_⟩;have hm2:=h.nm
 obtain⟨K,hK⟩:∃K:List Cast->List V,K=fun P=>feed X.go [] (P.map yC):=⟨_,rfl⟩
 have K0:K []=[]:=by rw[hK];rfl
 have Kp:∀P,X.go (K P)=true->K P=P.map yC:=fun P hP=>by
  rw[hK]at hP⊢;have:=feed_all (go:=X.go) (a:=P.map yC) (tr:=[]) hP;simpa using this
 have hall:feed X.go [] (ysC s)=K (allCasts s):=by rw[hK];rfl
 have hmain:WP Tryz.prog ⟨none,1⟩ (T215 X s L) (Ends' fun r=>v215 X s L r=.tuple []/\hh215 X s L r=[.ext X (feed X.go [] (ysC s))]) (.l0 0 []):=by
  rw[hall];refine WP.count (fun m=>.l0 m (K (castsTo s m 0))) (by rw[castsTo_0,K0];rfl) s.moulds.length (fun m=>X.go (K (castsTo s m 0))=true) (by rw[castsTo_0,K0];exact hg) (fun m hm hI=> ?_) fun hI=> ?_
  ·have hr:inR .i64 ((m:Int)+1)=true:=inR64 (by omega) (by omega);have hm':(m:Int)<s.moulds.length:=by omega
   have hc:=(h.mould _ (getD_mem zMould s.moulds m hm)).1;refine WP.step ?_;simp only[T215,Go,Ends',v215,Tr.sure,SS,hm'];repeat' with_reducible first|intro _|apply aI
   refine WP.count (fun k=>.l1 m k (K (castsTo s m k))) rfl (s.moulds.getD m zMould).casts.toNat (fun k=>X.go (K (castsTo s m k))=true) hI (fun k hk hI1=> ?_) fun hI1=> ?_
   ·have hk':(k:Int)<(s.moulds.getD m zMould).casts:=by omega
    have hr1:inR .i64 ((k:Int)+1)=true:=inR64 (by omega) (by omega);have hsn:=castsTo_snoc s m k
    have hKs:K (castsTo s m (k+1))=K (castsTo s m k)++ [yC ⟨(m:Int),(k:Int)+1⟩]:=by
     rw[hsn,hK];rw[hK]at hI1;simp only[List.map_append,feed_app];exact feed_one hI1 _
    have hyc:yC ⟨(m:Int),(k:Int)+1⟩=V.tuple [.agg [iI m,iI ((k:Int)+1)]]:=rfl;obtain⟨Q,hQs⟩:=castsTo_part s hm hk
    have hp':K (castsTo s m k)++ [V.tuple [.agg [iI m,iI ((k:Int)+1)]]]<+:X.ys:=by
     rw[Kp _ hI1,hX];unfold ysC;rw[hQs,List.map_append,List.map_cons];exact(List.prefix_append_right_inj _).2 ⟨Q.map yC,rfl⟩
    have hgoQ:X.go (K (castsTo s m (k+1)))=false->K (allCasts s)=K (castsTo s m (k+1)):=fun hgo=>by
     rw[hQs,show castsTo s m k++⟨(m:Int),(k:Int)+1⟩::Q=(castsTo s m k++ [⟨(m:Int),(k:Int)+1⟩])++Q by simp,<-hsn,hK];simp only[List.map_append,feed_app];rw[hK]at hgo;exact feed_stop hgo _
    rw[hyc]at hKs;rw[hKs]at hgoQ⊢;generalize K (castsTo s m k)=tr at*
    cases hq:X.go (tr++ [V.tuple [.agg [iI m,iI ((k:Int)+1)]]])with
    |false=>
     have hf:=hgoQ hq;rw[hf];refine WP.once ?_;simp only[T215,Tr.sure,SS,hk',z2,hq,hI1];repeat' with_reducible first|intro _|apply aI
     all_goals first|exact hY|exact hp'|exact(by with_reducible exact vle_one _ _)|(simp[hr1,Go,Ends',v215,-List.getD_eq_getElem?_getD, *];done)|skip
     all_goals first
      |(right;right;exact⟨rfl,rfl⟩)
    |true=>
     refine WP.once ?_;simp only[T215,Tr.sure,SS,hk',z2,hq,hI1];repeat' with_reducible first|intro _|apply aI
     all_goals first|exact hY|exact hp'|exact(by with_reducible exact vle_one _ _)|(simp[hr1,Go,Ends',v215,-List.getD_eq_getElem?_getD, *];done)
   ·have hle:¬(((s.moulds.getD m zMould).casts.toNat:Nat):Int)<(s.moulds.getD m zMould).casts:=by omega
    have hrow:=castsTo_row s m;rw[hrow]at hI1⊢;refine WP.step ?_;simp only[T215,Go,Ends',v215,Tr.sure,SS,z2,hle];repeat' with_reducible first|intro _|apply aI
    all_goals first|(simp[hr,hI1,Go,Ends',v215,-List.getD_eq_getElem?_getD, *];done)|skip
    refine WP.stop ?_;left
    exact⟨rfl,hI1⟩
  ·rw[castsTo_all]at hI⊢;refine WP.once ?_;simp only[T215,Tr.sure,SS,Int.lt_irrefl];repeat' with_reducible first|intro _|apply aI
   all_goals first
    |exact⟨rfl,rfl⟩
 refine w215 X s L (WP.step ?_);simp only[T215,Go,Ends',v215,Tr.sure,SS];repeat' with_reducible first|intro _|apply aI
 all_goals exact hmain
inductive P191
 |e
inductive R191
 |r0
def T191(L:Nat->Nat->Span)(s:Shop):P191->Tr P191 R191
 |.e=>(.out (.r0))
noncomputable def g191(L:Nat->Nat->Span)(s:Shop):P191->List Item × St
 |.e=>bd Tryz.f191 [lkS s L] 3
def n191(L:Nat->Nat->Span)(s:Shop):R191->Exit × St
 |.r0=>(.ret,⟨mk 4 [(2,fG 215 [.ref 0 0 0])],[.cells [lkS s L]],[]⟩)
def v191(L:Nat->Nat->Span)(s:Shop):R191->V
 |.r0=>fG 215 [rR (lkS s L)]
theorem s191(L:Nat->Nat->Span)(s:Shop):Sm 0 (g191 L s) (T191 L s) (n191 L s)
 |.e=>⟨400,by kernel_rfl⟩
theorem q191(L:Nat->Nat->Span)(s:Shop):∀r,bodyQ Tryz.prog Tryz.f191 (·=v191 L s r) (n191 L s r).1 (n191 L s r).2
 |.r0=>⟨.inr rfl,by simp[n191],(fG 215 [.ref 0 0 0]),(fG 215 [rR (lkS s L)]),by kernel_rfl,(.func rfl rfl (by intro j hj;exact absurd hj (by simp)) (by intro j hj;match j,hj with|0,_=>exact .weak (.ref (n:=1) rfl (Nat.le_refl _) (by intro j hj;match j,hj with|0,_=>exact .imm rfl)) (VLe.refl _))),rfl⟩
theorem w191(L:Nat->Nat->Span)(s:Shop){post:V->Prop}(h:WP Tryz.prog ⟨none,0⟩ (T191 L s) (Ends' fun r=>post (v191 L s r)) .e):PC 191 [lkS s L] post:=
 PCalls.wq Tryz.func191 (s191 L s) (q191 L s) h
theorem c191(L:Nat->Nat->Span)(s:Shop):PC 191 [lkS s L] (·=fG 215 [rR (lkS s L)]):=by
 refine w191 L s (WP.step ?_);simp only[T191,Go,Ends',v191,Tr.sure,SS];repeat' with_reducible first|intro _|apply aI
 all_goals first
  |exact rfl
inductive P149
 |e
inductive R149
 |r0
def T149(L:Nat->Nat->Span)(s:Shop):P149->Tr P149 R149
 |.e=>(.out (.r0))
noncomputable def g149(L:Nat->Nat->Span)(s:Shop):P149->List Item × St
 |.e=>bd Tryz.f149 [lkS s L] 3
def n149(L:Nat->Nat->Span)(s:Shop):R149->Exit × St
 |.r0=>(.ret,⟨mk 4 [(2,fG 189 [.ref 0 0 0])],[.cells [lkS s L]],[]⟩)
def v149(L:Nat->Nat->Span)(s:Shop):R149->V
 |.r0=>fG 189 [rR (lkS s L)]
theorem s149(L:Nat->Nat->Span)(s:Shop):Sm 0 (g149 L s) (T149 L s) (n149 L s)
 |.e=>⟨400,by kernel_rfl⟩
theorem q149(L:Nat->Nat->Span)(s:Shop):∀r,bodyQ Tryz.prog Tryz.f149 (·=v149 L s r) (n149 L s r).1 (n149 L s r).2
 |.r0=>⟨.inr rfl,by simp[n149],(fG 189 [.ref 0 0 0]),(fG 189 [rR (lkS s L)]),by kernel_rfl,(.func rfl rfl (by intro j hj;exact absurd hj (by simp)) (by intro j hj;match j,hj with|0,_=>exact .weak (.ref (n:=1) rfl (Nat.le_refl _) (by intro j hj;match j,hj with|0,_=>exact .imm rfl)) (VLe.refl _))),rfl⟩
theorem w149(L:Nat->Nat->Span)(s:Shop){post:V->Prop}(h:WP Tryz.prog ⟨none,0⟩ (T149 L s) (Ends' fun r=>post (v149 L s r)) .e):PC 149 [lkS s L] post:=
 PCalls.wq Tryz.func149 (s149 L s) (q149 L s) h
theorem c149m(L:Nat->Nat->Span)(s:Shop):PC 149 [lkS s L] (·=fG 189 [rR (lkS s L)]):=by
 refine w149 L s (WP.step ?_);simp only[T149,Go,Ends',v149,Tr.sure,SS];repeat' with_reducible first|intro _|apply aI
 all_goals first
  |exact rfl
end
noncomputable section
inductive P107
 |e
 |l0 (x0_8:Int)
inductive R107
 |r0 (r0:Int)
def T107(l:List Int):P107->Tr P107 R107
 |.e=>(.go (.l0 0))
 |.l0 x0_8=>let c1:=l.getD (x0_8).toNat tint.zero;(.br (decide (x0_8<(l.length:Int))) (.need (decide (0<=x0_8)&&decide (x0_8<(l.length:Int))) (.br (c1 !=(0:Int)) (.out (.r0 c1)) (.need (inR .i64 (x0_8+(1:Int))) (.go (.l0 (x0_8+(1:Int))))))) (.out (.r0 0)))
noncomputable def g107(l:List Int):P107->List Item × St
 |.e=>bd Tryz.f107 [tint.lst l] 17
 |.l0 x0_8=>(cutOf Tryz.f107 0,⟨mk 18 [(3,iI 0),(6,tint.lst l),(7,iI (l.length:Int)),(8,iI x0_8)],[],[]⟩)
def n107:R107->Exit × St
 |.r0 r0=>(.ret,⟨mk 18 [(2,iI r0)],[],[]⟩)
def v107:R107->V
 |.r0 r0=>iI r0
theorem s107(l:List Int):Sm 0 (g107 l) (T107 l) (n107)
 |.e=>⟨400,by kernel_rfl⟩
 |.l0 _=>⟨400,by kernel_rfl⟩
theorem q107:∀r,bodyQ Tryz.prog Tryz.f107 (·=v107 r) (n107 r).1 (n107 r).2
 |.r0 r0=>bq (iI r0) (by kernel_rfl)
theorem w107(l:List Int){post:V->Prop}(h:WQ (T107 l) v107 post .e):PC 107 [tint.lst l] post:=
 PCalls.wq Tryz.func107 (s107 l) q107 h
def orI:List Int->Int
 |[]=>0
 |x::l=>if x=0 then orI l else x
theorem orI_drop(l:List Int){i:Nat}(hi:i<l.length):orI (l.drop i)=if l.getD i 0=0 then orI (l.drop (i+1))else l.getD i 0:=by
 rw[drop_cons 0 l i hi];rfl
theorem c107(l:List Int)(hl:l.length<=1000):PC 107 [tint.lst l] (·=iI (orI l)):=by
 have hmain:WP Tryz.prog ⟨none,0⟩ (T107 l) (Ends' fun r=>v107 r=iI (orI l)) (.l0 0):=by
  refine WP.count (fun i=>.l0 (i:Int)) rfl l.length (fun i=>orI (l.drop i)=orI l) rfl (fun i hi hI=> ?_) fun hI=> ?_
  ·have hr:inR .i64 ((i:Int)+1)=true:=inR64 (by omega) (by omega);have hi':(i:Int)<l.length:=by omega
   have hz:tint.zero=0:=rfl;rw[orI_drop l hi]at hI;by_cases g:l.getD i 0=0
   ·rw[if_pos g]at hI;refine WP.once ?_;simp only[T107,Tr.sure,SS,hi',hz,g,hI];repeat' with_reducible first|intro _|apply aI
    all_goals simp[hr,Go,Ends',v107,-List.getD_eq_getElem?_getD, *]
   ·rw[if_neg g]at hI;refine WP.once ?_;simp only[T107,Tr.sure,SS,hi',hz,g,hI];repeat' with_reducible first|intro _|apply aI
    all_goals first|(simp[hr,Go,Ends',v107,-List.getD_eq_getElem?_getD, *];done)|(simp_all [hr,Go,Ends',v107,-List.getD_eq_getElem?_getD];done)
  ·rw[List.drop_length]at hI;have h0:orI l=0:=hI.symm;refine WP.once ?_;simp only[T107,Tr.sure,SS,Int.lt_irrefl];repeat' with_reducible first|intro _|apply aI
   all_goals simp[h0,Go,Ends',v107,-List.getD_eq_getElem?_getD, *]
 refine w107 l (WP.step ?_);simp only[T107,Go,Ends',v107,Tr.sure,SS];repeat' with_reducible first|intro _|apply aI
 all_goals exact hmain
inductive P106
 |e
inductive R106
 |r0 (r0:Int)
def T106(x:Cast)(y:Cast):P106->Tr P106 R106
 |.e=>let c1:=x.number-y.number;let c2:=x.mould-y.mould;let c3:=orI ([c2,c1]:List Int);(.need (inR .i64 c2) (.need (inR .i64 c1) (.call 107 [.list 1 2 (litC 1 2 [iI c2,iI c1])] (iI c3) ((decide (2<=2))&&true) true (.out (.r0 c3)))))
noncomputable def g106(x:Cast)(y:Cast):P106->List Item × St
 |.e=>bd Tryz.f106 [.agg [iI x.mould,iI x.number],.agg [iI y.mould,iI y.number]] 15
def n106:R106->Exit × St
 |.r0 r0=>(.ret,⟨mk 17 [(4,iI r0)],[],[]⟩)
def v106:R106->V
 |.r0 r0=>iI r0
theorem s106(x:Cast)(y:Cast):Sm 0 (g106 x y) (T106 x y) (n106)
 |.e=>⟨400,by kernel_rfl⟩
theorem q106:∀r,bodyQ Tryz.prog Tryz.f106 (·=v106 r) (n106 r).1 (n106 r).2
 |.r0 r0=>bq (iI r0) (by kernel_rfl)
theorem w106(x:Cast)(y:Cast){post:V->Prop}(h:WQ (T106 x y) v106 post .e):PC 106 [.agg [iI x.mould,iI x.number],.agg [iI y.mould,iI y.number]] post:=
 PCalls.wq Tryz.func106 (s106 x y) q106 h
def cmpC(x y:Cast):Int:=orI [x.mould-y.mould,x.number-y.number]
theorem vle_two(a b:Int):VLe (.list 1 2 (litC 1 2 [iI a,iI b])) (tint.lst [a,b]):=by
 show VLe _ (.list 1 2 (rowsOf tint [a,b]));refine VLe.list fun r j hr hj=> ?_;obtain rfl:j=0:=by omega
 rcases show r=0\/r=1 by omega with rfl|rfl<;>exact rfl
theorem c106(x y:Cast)(hx:(0<=x.mould/\x.mould<=1000)/\0<=x.number/\x.number<=1000)(hy:(0<=y.mould/\y.mould<=1000)/\0<=y.number/\y.number<=1000):PC 106 [.agg (tCast.cells x),.agg (tCast.cells y)] (·=iI (cmpC x y)):=by
 have r1:inR .i64 (x.mould-y.mould)=true:=inR64 (by omega) (by omega);have r2:inR .i64 (x.number-y.number)=true:=inR64 (by omega) (by omega);have k:=PCalls.arg (pre:=[]) (c107 [x.mould-y.mould,x.number-y.number] (by simp)) (vle_two _ _);have e:cmpC x y=orI [x.mould-y.mould,x.number-y.number]:=rfl;rw[e];refine w106 x y (WP.step ?_);simp only[T106,Go,Ends',v106,Tr.sure,SS];repeat' with_reducible first|intro _|apply aI
 all_goals first|exact k|(simp[r1,r2,Go,Ends',v106,-List.getD_eq_getElem?_getD, *];done)
end
end Go.Proofs.YtdamoemndifpmaaGreat
