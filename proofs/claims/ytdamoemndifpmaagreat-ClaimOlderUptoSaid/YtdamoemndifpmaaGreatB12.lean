/-
  Part of the proof of the Claim laws. Conditions: those that stand in each theorem.
-/
import Derived.Test.YtdamoemndifpmaaGreatB11
set_option linter.unusedSimpArgs false
set_option linter.unusedVariables false
set_option maxRecDepth 100000
namespace Go.Proofs.YtdamoemndifpmaaGreat
open Ab Go
noncomputable section
inductive P186
 |e
inductive R186
 |r0 (r0:Bool)
def T186(n:Int):P186->Tr P186 R186
 |.e=>(.out (.r0 (decide (n≥(4:Int)))))
noncomputable def g186(n:Int):P186->List Item × St
 |.e=>bd Tryz.f186 [iI n] 4
def n186:R186->Exit × St
 |.r0 r0=>(.ret,⟨mk 5 [(2,.bool r0)],[],[]⟩)
def v186:R186->V
 |.r0 r0=>.bool r0
theorem s186(n:Int):Sm 0 (g186 n) (T186 n) (n186)
 |.e=>⟨400,by kernel_rfl⟩
theorem q186:∀r,bodyQ Tryz.prog Tryz.f186 (·=v186 r) (n186 r).1 (n186 r).2
 |.r0 r0=>bq (.bool r0) (by kernel_rfl)
theorem w186(n:Int){post:V->Prop}(h:WQ (T186 n) v186 post .e):PC 186 [iI n] post:=
 PCalls.wq Tryz.func186 (s186 n) q186 h
theorem c186(n:Int)(h:0<=n/\n<=5):PC 186 [iI n] (·=.bool (lasting n)):=by
 have hd:lasting n=decide (n≥4):=by
  rcases show n=0\/n=1\/n=2\/n=3\/n=4\/n=5 by omega with e|e|e|e|e|e<;>rw[e]<;>rfl
 refine w186 _ (WP.step ?_);simp only[T186,Go,Ends',v186,Tr.sure,SS];repeat' with_reducible first|intro _|apply aI
 all_goals simp[hd,Go,Ends',v186,-List.getD_eq_getElem?_getD, *]
inductive P164
 |e
inductive R164
 |r0 (r0:Bool)
def T164(g:Nat)(p:Cast->Cast->Bool)(x:Claim)(l:Nat->Cast)(n:Int):P164->Tr P164 R164
 |.e=>let c1:=l ((x.b).toNat);let c2:=l ((x.a).toNat);(.front [] [] (((decide (0<=x.a)&&decide (x.a<(4:Int)))&&((decide ((x.a).toNat<4)&&decide (0+2<=2))&&((decide (0<=x.b)&&decide (x.b<(4:Int)))&&((decide ((x.b).toNat<4)&&decide (0+2<=2))&&true))))&&true) true (.call g [.agg [iI (c2.mould),iI (c2.number)],.agg [iI (c1.mould),iI (c1.number)]] (.bool (p c2 c1)) true true (.out (.r0 (p c2 c1)))))
noncomputable def g164(g:Nat)(p:Cast->Cast->Bool)(x:Claim)(l:Nat->Cast)(n:Int):P164->List Item × St
 |.e=>bd Tryz.f164 [.agg [iI x.own,iI x.kind,iI x.a,iI x.b,iI x.mould,iI x.feature,iI x.number,iI x.worth],.arr 2 4 (rowsFn tCast l),iI n,rR (.func (.func g) [] [])] 14
def n164:R164->Exit × St
 |.r0 r0=>(.ret,⟨mk 18 [(7,.bool r0)],[],[]⟩)
def v164:R164->V
 |.r0 r0=>.bool r0
theorem s164(g:Nat)(p:Cast->Cast->Bool)(x:Claim)(l:Nat->Cast)(n:Int):Sm 0 (g164 g p x l n) (T164 g p x l n) (n164)
 |.e=>⟨400,by kernel_rfl⟩
theorem q164:∀r,bodyQ Tryz.prog Tryz.f164 (·=v164 r) (n164 r).1 (n164 r).2
 |.r0 r0=>bq (.bool r0) (by kernel_rfl)
theorem w164(g:Nat)(p:Cast->Cast->Bool)(x:Claim)(l:Nat->Cast)(n:Int){post:V->Prop}(h:WQ (T164 g p x l n) v164 post .e):PC 164 [.agg [iI x.own,iI x.kind,iI x.a,iI x.b,iI x.mould,iI x.feature,iI x.number,iI x.worth],.arr 2 4 (rowsFn tCast l),iI n,rR (.func (.func g) [] [])] post:=
 PCalls.wq Tryz.func164 (s164 g p x l n) q164 h
theorem c164{g:Nat}{p:Cast->Cast->Bool}(x:Claim)(l:Nat->Cast)(n:Int)(hg:∀a b:Cast,PC g [.agg (tCast.cells a),.agg (tCast.cells b)] (·=.bool (p a b)))(ha:0<=x.a/\x.a<4)(hb:0<=x.b/\x.b<4):
  PC 164 [.agg (tClaim.cells x),.arr 2 4 (rowsFn tCast l),iI n,fc g] (·=.bool (p (l x.a.toNat) (l x.b.toNat))):=by
 refine w164 g p x l n (WP.step ?_);simp only[T164,Go,Ends',v164,Tr.sure,SS,ha.1,ha.2,hb.1,hb.2];repeat' with_reducible first|intro _|apply aI
 all_goals first|exact(hg _ _)|(simp[ha.1,ha.2,hb.1,hb.2,Go,Ends',v164,-List.getD_eq_getElem?_getD, *];done)
inductive P169
 |e
inductive R169
 |r0 (r0:Bool)
def T169(g:Nat)(p:Int->Int->Bool)(x:Claim)(l:Nat->Cast)(n:Int):P169->Tr P169 R169
 |.e=>(.call g [iI n,iI x.number] (.bool (p n x.number)) true true (.out (.r0 (p n x.number))))
noncomputable def g169(g:Nat)(p:Int->Int->Bool)(x:Claim)(l:Nat->Cast)(n:Int):P169->List Item × St
 |.e=>bd Tryz.f169 [.agg [iI x.own,iI x.kind,iI x.a,iI x.b,iI x.mould,iI x.feature,iI x.number,iI x.worth],.arr 2 4 (rowsFn tCast l),iI n,rR (.func (.func g) [] [])] 9
def n169:R169->Exit × St
 |.r0 r0=>(.ret,⟨mk 13 [(7,.bool r0)],[],[]⟩)
def v169:R169->V
 |.r0 r0=>.bool r0
theorem s169(g:Nat)(p:Int->Int->Bool)(x:Claim)(l:Nat->Cast)(n:Int):Sm 0 (g169 g p x l n) (T169 g p x l n) (n169)
 |.e=>⟨400,by kernel_rfl⟩
theorem q169:∀r,bodyQ Tryz.prog Tryz.f169 (·=v169 r) (n169 r).1 (n169 r).2
 |.r0 r0=>bq (.bool r0) (by kernel_rfl)
theorem w169(g:Nat)(p:Int->Int->Bool)(x:Claim)(l:Nat->Cast)(n:Int){post:V->Prop}(h:WQ (T169 g p x l n) v169 post .e):PC 169 [.agg [iI x.own,iI x.kind,iI x.a,iI x.b,iI x.mould,iI x.feature,iI x.number,iI x.worth],.arr 2 4 (rowsFn tCast l),iI n,rR (.func (.func g) [] [])] post:=
 PCalls.wq Tryz.func169 (s169 g p x l n) q169 h
theorem c169{g:Nat}{p:Int->Int->Bool}(x:Claim)(l:Nat->Cast)(n:Int)(hg:∀a b:Int,PC g [iI a,iI b] (·=.bool (p a b))):
  PC 169 [.agg (tClaim.cells x),.arr 2 4 (rowsFn tCast l),iI n,fc g] (·=.bool (p n x.number)):=by
 refine w169 g p x l n (WP.step ?_);simp only[T169,Go,Ends',v169,Tr.sure,SS];repeat' with_reducible first|intro _|apply aI
 all_goals exact(hg _ _)
inductive P173
 |e
inductive R173
 |r0 (r0:Bool)
def T173(x:Claim)(l:Nat->Cast)(n:Int):P173->Tr P173 R173
 |.e=>(.front [] [] (((decide (0<=x.a)&&decide (x.a<(4:Int)))&&((decide ((x.a).toNat<4)&&decide (0+2<=2))&&true))&&true) true (.out (.r0 (((l ((x.a).toNat)).mould==x.mould)&&(((l ((x.a).toNat)).number==x.number)&&true)))))
noncomputable def g173(x:Claim)(l:Nat->Cast)(n:Int):P173->List Item × St
 |.e=>bd Tryz.f173 [.agg [iI x.own,iI x.kind,iI x.a,iI x.b,iI x.mould,iI x.feature,iI x.number,iI x.worth],.arr 2 4 (rowsFn tCast l),iI n] 14
def n173:R173->Exit × St
 |.r0 r0=>(.ret,⟨mk 17 [(6,.bool r0)],[],[]⟩)
def v173:R173->V
 |.r0 r0=>.bool r0
theorem s173(x:Claim)(l:Nat->Cast)(n:Int):Sm 0 (g173 x l n) (T173 x l n) (n173)
 |.e=>⟨400,by kernel_rfl⟩
theorem q173:∀r,bodyQ Tryz.prog Tryz.f173 (·=v173 r) (n173 r).1 (n173 r).2
 |.r0 r0=>bq (.bool r0) (by kernel_rfl)
theorem w173(x:Claim)(l:Nat->Cast)(n:Int){post:V->Prop}(h:WQ (T173 x l n) v173 post .e):PC 173 [.agg [iI x.own,iI x.kind,iI x.a,iI x.b,iI x.mould,iI x.feature,iI x.number,iI x.worth],.arr 2 4 (rowsFn tCast l),iI n] post:=
 PCalls.wq Tryz.func173 (s173 x l n) q173 h
theorem c173(x:Claim)(l:Nat->Cast)(n:Int)(ha:0<=x.a/\x.a<4):
  PC 173 [.agg (tClaim.cells x),.arr 2 4 (rowsFn tCast l),iI n] (·=.bool (l x.a.toNat==⟨x.mould,x.number⟩)):=by
 refine w173 x l n (WP.step ?_);simp only[T173,Go,Ends',v173,Tr.sure,SS,ha.1,ha.2];repeat' with_reducible first|intro _|apply aI
 all_goals simp[cast_beq,Go,Ends',v173,-List.getD_eq_getElem?_getD, *]
inductive P142
 |e
 |l0 (x0_33:Int) (c0_2_0:Int) (c0_2_1:Int)
inductive R142
 |r0 (r0_0:Int) (r0_1:Int)
def T142(ks:List Int)(c:Case)(l:Nat->Cast)(m:Int)(f:Int):P142->Tr P142 R142
 |.e=>let c1:=c.shop.moulds.getD (m).toNat tMould.zero;let c2:=(c1.lasts).getD (f).toNat tSpan.zero;(.need (decide (0<=m)&&decide (m<(c.shop.moulds.length:Int))) (.need (decide (0<=f)&&decide (f<((c1.lasts.length):Int))) (.go (.l0 0 (c2.lo) (c2.hi)))))
 |.l0 x0_33 c0_2_0 c0_2_1=>let c2:=c.shop.heads.getD (x0_33).toNat tHead.zero;let c3:=l ((x0_33).toNat);let c4:=decide (0<=f)&&decide (f<((c2.shows.length):Int));let c5:=x0_33+(1:Int);let c1:Tr P142 R142:=.need (inR .i64 c5) (.go (.l0 c5 c0_2_0 c0_2_1));let c6:=x0_33<(c.shop.heads.length:Int);let c7:=(c2.shows).getD (f).toNat tint.zero;(.br (decide c6) (.need (decide (0<=x0_33)&&decide c6) (.need (decide (0<=x0_33)&&decide (x0_33<(4:Int))) (.need (decide ((x0_33).toNat<4)&&decide (0+2<=2)) (.br ((c3.mould==(0:Int))&&((c3.number==(0:Int))&&true)) (.lit true c1) (.br (c3.mould !=m) c1 (.need c4 (.br (c7==(1:Int)) (.need (inR .i64 c5) (.go (.l0 c5 (max c0_2_0 (c3.number)) c0_2_1))) (.need c4 (.br (c7==(2:Int)) (.need (inR .i64 (c3.number-(1:Int))) (.need (inR .i64 c5) (.go (.l0 c5 c0_2_0 (min c0_2_1 (c3.number-(1:Int))))))) c1))))))))) (.out (.r0 c0_2_0 c0_2_1)))
noncomputable def g142(ks:List Int)(c:Case)(l:Nat->Cast)(m:Int)(f:Int):P142->List Item × St
 |.e=>bd Tryz.f142 [court c ks,.arr 2 4 (rowsFn tCast l),iI m,iI f] 76
 |.l0 x0_33 c0_2_0 c0_2_1=>(cutOf Tryz.f142 0,⟨mk 80 [(2,iI m),(3,iI f),(5,.ref 0 0 0),(8,.ref 1 0 0),(9,.ref 2 0 0),(31,tHead.lst c.shop.heads),(32,iI (c.shop.heads.length:Int)),(33,iI x0_33)],[.rows 130 2 4 (rowsFn tCast l),.cells [iI 0,iI 0],.cells [iI c0_2_0,iI c0_2_1]],[]⟩)
def n142:R142->Exit × St
 |.r0 r0_0 r0_1=>(.ret,⟨mk 80 [(8,.ref 1 0 0)],[.gone,.cells [iI r0_0,iI r0_1]],[]⟩)
def v142:R142->V
 |.r0 r0_0 r0_1=>.agg [iI r0_0,iI r0_1]
theorem s142(ks:List Int)(c:Case)(l:Nat->Cast)(m:Int)(f:Int):Sm 0 (g142 ks c l m f) (T142 ks c l m f) (n142)
 |.e=>⟨400,by kernel_rfl⟩
 |.l0 _ _ _=>⟨400,by kernel_rfl⟩
theorem q142:∀r,bodyQ Tryz.prog Tryz.f142 (·=v142 r) (n142 r).1 (n142 r).2
 |.r0 r0_0 r0_1=>bq (.agg [iI r0_0,iI r0_1]) (by kernel_rfl)
theorem w142(ks:List Int)(c:Case)(l:Nat->Cast)(m:Int)(f:Int){post:V->Prop}(h:WQ (T142 ks c l m f) v142 post .e):PC 142 [court c ks,.arr 2 4 (rowsFn tCast l),iI m,iI f] post:=
 PCalls.wq Tryz.func142 (s142 ks c l m f) q142 h
theorem c142(c:Case)(ks:List Int)(l:Nat->Cast)(m f:Int)(h:OkShop c.shop)(hl:∀i,0<=(l i).number/\(l i).number<=4)(hm:0<=m/\m<c.shop.moulds.length)(hf:0<=f/\f<c.shop.features):
  PC 142 [court c ks,.arr 2 4 (rowsFn tCast l),iI m,iI f] (·=.agg (tSpan.cells (lastA c.shop l m f c.shop.heads.length))):=by
 have hh:=h.nh;have h1:=(h.mould _ (getD_mem zMould c.shop.moulds m.toNat (by omega))).2.1;refine w142 ks c l m f (WP.step ?_);simp only[T142,Go,Ends',v142,Tr.sure,SS,z2,z4,hm,hf,h1];repeat' with_reducible first|intro _|apply aI
 refine WP.run (fun i=>.l0 i (lastA c.shop l m f i).lo (lastA c.shop l m f i).hi) rfl c.shop.heads.length (fun i hi=> ?_) ?_
 ·have hr:inR .i64 ((i:Int)+1)=true:=inR64 (by omega) (by omega);have hi4:i<4:=by omega
  have hi4':(i:Int)<4:=by omega
  have h2:=(h.head _ (getD_mem zHead c.shop.heads i hi)).1;have hn:=hl i;have hr':inR .i64 ((l i).number-1)=true:=inR64 (by omega) (by omega)
  have hz:(l i=zCast)↔((l i).mould=0/\(l i).number=0):=by
   generalize l i=z;obtain⟨a,b⟩:=z;simp[zCast]
  have hs:lastA c.shop l m f (i+1)=lastStepA c.shop m f l i (lastA c.shop l m f i):=rfl;refine WP.once ?_;simp only[T142,Tr.sure,SS,hi,hi4,hi4',z3,z1,hf,h2];repeat' with_reducible first|intro _|apply aI
  all_goals first|(simp[hr,hr',hs,lastStepA,narrow,hz,Go,Ends',v142,-List.getD_eq_getElem?_getD, *];done)|(simp_all [hr,hr',hs,lastStepA,narrow,hz,Go,Ends',v142,-List.getD_eq_getElem?_getD];done)
 ·refine WP.step ?_;simp only[T142,Go,Ends',v142,Tr.sure,SS,Int.lt_irrefl];repeat' with_reducible first|intro _|apply aI
  all_goals simp[tSpan,Go,Ends',v142,-List.getD_eq_getElem?_getD, *]
end
noncomputable section
theorem c186f(k:Int)(h:0<=k/\k<=3):PC 186 [iI k] (·=.bool false):=by
 have h1:=c186 k (by omega);rcases show k=0\/k=1\/k=2\/k=3 by omega with e|e|e|e<;>subst e<;>exact h1
theorem c186t(k:Int)(h:4<=k/\k<=5):PC 186 [iI k] (·=.bool true):=by
 have h1:=c186 k (by omega);rcases show k=4\/k=5 by omega with e|e<;>subst e<;>exact h1
def kcells(x:Claim)(k:Int):List V:=[iI x.own,iI k,iI x.a,iI x.b,iI x.mould,iI x.feature,iI x.number,iI x.worth]
theorem kcells_eq{x:Claim}{k:Int}(h:x.kind=k):tClaim.cells x=kcells x k:=by subst h;rfl
theorem so0(x:Claim)(l:Nat->Cast)(hk:x.kind=0)(ha:0<=x.a/\x.a<4):PC 173 [.agg (kcells x 0),.arr 2 4 (rowsFn tCast l),iI 0] (·=.bool (soF x l)):=by
 have:=c173 x l 0 ha;rw[kcells_eq hk]at this;simpa[soF,hk]using this
theorem so1(x:Claim)(l:Nat->Cast)(hk:x.kind=1)(ha:0<=x.a/\x.a<4)(hb:0<=x.b/\x.b<4):PC 164 [.agg (kcells x 1),.arr 2 4 (rowsFn tCast l),iI 0,fc 174] (·=.bool (soF x l)):=by
 have:=c164 x l 0 c174 ha hb;rw[kcells_eq hk]at this;simpa[soF,hk]using this
theorem so2(x:Claim)(l:Nat->Cast)(hk:x.kind=2)(ha:0<=x.a/\x.a<4)(hb:0<=x.b/\x.b<4):PC 164 [.agg (kcells x 2),.arr 2 4 (rowsFn tCast l),iI 0,fc 175] (·=.bool (soF x l)):=by
 have:=c164 x l 0 c175 ha hb;rw[kcells_eq hk]at this;simpa[soF,hk]using this
theorem so3(x:Claim)(l:Nat->Cast)(hk:x.kind=3)(ha:0<=x.a/\x.a<4)(hb:0<=x.b/\x.b<4):PC 164 [.agg (kcells x 3),.arr 2 4 (rowsFn tCast l),iI 0,fc 176] (·=.bool (soF x l)):=by
 have:=c164 x l 0 c176 ha hb;rw[kcells_eq hk]at this;simpa[soF,hk]using this
theorem so4(x:Claim)(l:Nat->Cast)(n:Int)(hk:x.kind=4):PC 169 [.agg (kcells x 4),.arr 2 4 (rowsFn tCast l),iI n,fc 177] (·=.bool (soL x n)):=by
 have:=c169 x l n c177;rw[kcells_eq hk]at this;simpa[soL,hk]using this
theorem so5(x:Claim)(l:Nat->Cast)(n:Int)(hk:x.kind=5):PC 169 [.agg (kcells x 5),.arr 2 4 (rowsFn tCast l),iI n,fc 178] (·=.bool (soL x n)):=by
 have:=c169 x l n c178;rw[kcells_eq hk]at this;simpa[soL,hk]using this
inductive P144
 |e
 |l0 (x0_25:Int) (a0_1:List Int)
 |l1 (x1_5:List Int) (x1_62:Int)
 |l2 (x1_62:Int) (x2_5:List Int) (x2_71:Int)
 |l3 (x1_62:Int) (x2_5:List Int) (x2_71:Int) (x3_12:Int) (a3_2:List Int)
 |l4 (x1_62:Int) (x2_5:List Int) (x2_71:Int) (x3_12:Int) (a3_2:List Int) (x4_13:Int) (x4_93:Int)
 |l5 (x1_62:Int) (x2_5:List Int) (x2_71:Int) (x3_12:Int) (x4_13:Int) (x5_134:Int) (a5_2:List Int)
inductive R144
 |r0 (r0:List Int)
def T144(ks:List Int)(c:Case)(l:Nat->Cast):P144->Tr P144 R144
 |.e=>(.wait 6 (.telb 1 1 1 (litC 1 1 [iI 0]) (rowsOf tint ([0]:List Int)) (.go (.l0 0 ([0]:List Int)))))
 |.l0 x0_25 a0_1=>let c1:=c.claims.getD (x0_25).toNat tClaim.zero;let c2:=bitsOf .or .i64 (a0_1.getD ((0:Int)).toNat tint.zero) ((1:Int)*2^(min (x0_25).toNat 64));let c4:List V:=[iI (c1.own),iI (c1.kind),iI (c1.a),iI (c1.b),iI (c1.mould),iI (c1.feature),iI (c1.number),iI (c1.worth)];let c5:Tr P144 R144:=.need (inR .i64 (x0_25+(1:Int))) (.go (.l0 (x0_25+(1:Int)) a0_1));let c7:Tr P144 R144:=.need (inR .i64 (x0_25+(1:Int))) (.go (.l0 (x0_25+(1:Int)) (a0_1.set (((0:Int)).toNat) c2)));let c8:=(decide (0<=(0:Int))&&decide ((0:Int)<(1:Int)))&&decide (1<=1);let c3:=(c8&&((decide (((0:Int)).toNat<1)&&decide (0<1))&&((decide (0<=x0_25)&&inR .i64 ((1:Int)*2^(min (x0_25).toNat 64)))&&true)))&&true;let c9:=rowsOf tint (a0_1.set (((0:Int)).toNat) c2);let c10:=([iI c2]:List V);let c6:=(decide (((0:Int)).toNat<1)&&decide (0+c10.length<=1))&&underL 0 c10;let c11:List V:=[iI (c1.own),iI 3,iI (c1.a),iI (c1.b),iI (c1.mould),iI (c1.feature),iI (c1.number),iI (c1.worth)];let c12:List V:=[iI (c1.own),iI 2,iI (c1.a),iI (c1.b),iI (c1.mould),iI (c1.feature),iI (c1.number),iI (c1.worth)];let c13:List V:=[iI (c1.own),iI 1,iI (c1.a),iI (c1.b),iI (c1.mould),iI (c1.feature),iI (c1.number),iI (c1.worth)];let c14:List V:=[iI (c1.own),iI 0,iI (c1.a),iI (c1.b),iI (c1.mould),iI (c1.feature),iI (c1.number),iI (c1.worth)];let c15:=rowsOf tint a0_1;let c16:=rowsFn tCast l;let c17:=x0_25<(c.claims.length:Int);(.br (decide c17) (.need (decide (0<=x0_25)&&decide c17) (.wait 1 (.cas (c1.kind==0) (.telc 2 c4 c14 (.front [(2,186,[iI 0],.bool false),(15,173,[.agg c14,.arr 2 4 c16,iI 0],.bool (soF c1 l))] [] ((((decide (0<=(0:Int))&&decide ((0:Int)<(6:Int)))&&true)&&true)&&true) true (.br (soF c1 l) (.front [] [] c3 true (.need c8 (.need c6 (.telb 1 1 1 (fun r' j=>if r'=((0:Int)).toNat/\0<=j/\j<0+c10.length then c10.getD (j-0) uU else c15 r' j) c9 c7)))) c5))) (.cas (c1.kind==1) (.telc 2 c4 c13 (.front [(2,186,[iI 1],.bool false),(15,164,[.agg c13,.arr 2 4 c16,iI 0,rR (fF 174)],.bool (soF c1 l))] [] ((((decide (0<=(1:Int))&&decide ((1:Int)<(6:Int)))&&true)&&true)&&true) true (.br (soF c1 l) (.front [] [] c3 true (.need c8 (.need c6 (.telb 1 1 1 (fun r' j=>if r'=((0:Int)).toNat/\0<=j/\j<0+c10.length then c10.getD (j-0) uU else c15 r' j) c9 c7)))) c5))) (.cas (c1.kind==2) (.telc 2 c4 c12 (.front [(2,186,[iI 2],.bool false),(15,164,[.agg c12,.arr 2 4 c16,iI 0,rR (fF 175)],.bool (soF c1 l))] [] ((((decide (0<=(2:Int))&&decide ((2:Int)<(6:Int)))&&true)&&true)&&true) true (.br (soF c1 l) (.front [] [] c3 true (.need c8 (.need c6 (.telb 1 1 1 (fun r' j=>if r'=((0:Int)).toNat/\0<=j/\j<0+c10.length then c10.getD (j-0) uU else c15 r' j) c9 c7)))) c5))) (.cas (c1.kind==3) (.telc 2 c4 c11 (.front [(2,186,[iI 3],.bool false),(15,164,[.agg c11,.arr 2 4 c16,iI 0,rR (fF 176)],.bool (soF c1 l))] [] ((((decide (0<=(3:Int))&&decide ((3:Int)<(6:Int)))&&true)&&true)&&true) true (.br (soF c1 l) (.front [] [] c3 true (.need c8 (.need c6 (.telb 1 1 1 (fun r' j=>if r'=((0:Int)).toNat/\0<=j/\j<0+c10.length then c10.getD (j-0) uU else c15 r' j) c9 c7)))) c5))) (.cas (c1.kind==4) (.telc 2 c4 [iI (c1.own),iI 4,iI (c1.a),iI (c1.b),iI (c1.mould),iI (c1.feature),iI (c1.number),iI (c1.worth)] (.front [(2,186,[iI 4],.bool true)] [] true true (.lit false c5))) (.cas (c1.kind==5) (.telc 2 c4 [iI (c1.own),iI 5,iI (c1.a),iI (c1.b),iI (c1.mould),iI (c1.feature),iI (c1.number),iI (c1.worth)] (.front [(2,186,[iI 5],.bool true)] [] true true (.lit false c5))) .never)))))))) (.wait 5 (.frz 1 ((decide (1<=1))&&true) (.vle 5 (.list 1 1 c15) (tint.lst a0_1) (.go (.l1 a0_1 0))))))
 |.l1 x1_5 x1_62=>(.br (decide (x1_62<(c.shop.moulds.length:Int))) (.go (.l2 x1_62 x1_5 0)) (.out (.r0 x1_5)))
 |.l2 x1_62 x2_5 x2_71=>let c1:=spanA c l x1_62 x2_71;(.br (decide (x2_71<c.shop.features)) (.call 142 [court c ks,.arr 2 4 (rowsFn tCast l),iI x1_62,iI x2_71] (.agg [iI (c1.lo),iI (c1.hi)]) true true (.wait 2 (.own 11 3 1 (.go (.l3 x1_62 x2_5 x2_71 (c1.lo) ([])))))) (.need (inR .i64 (x1_62+(1:Int))) (.go (.l1 x2_5 (x1_62+(1:Int))))))
 |.l3 x1_62 x2_5 x2_71 x3_12 a3_2=>let c1:=Lib.compact (sortZ a3_2.reverse);let c2:List V:=[iI ((spanA c l x1_62 x2_71).lo),iI ((spanA c l x1_62 x2_71).hi)];let c3:=rowsOf tint (padZ c1 a3_2.length);let c4:List Blk:=[.rows 130 2 4 (rowsFn tCast l),.cells c2,.rows 3 1 a3_2.length (rowsOf tint (sortZ a3_2.reverse))];let c5:=decide (a3_2.length<=a3_2.length);let c6:=tint.lst (padZ c1 a3_2.length);let c7:V:=.list 1 a3_2.length c3;let c8:=decide (c1.length<=a3_2.length);(.br (decide (x3_12<=(spanA c l x1_62 x2_71).hi)) (.go (.l4 x1_62 x2_5 x2_71 x3_12 a3_2 0 0)) (.hcall 145 [.row 2 a3_2.length] (.tuple []) [.rows 130 2 4 (rowsFn tCast l),.cells c2,.rows 3 1 a3_2.length (rowsRev tint a3_2)] c4 true (.hcall 187 [.row 2 a3_2.length] (.row 2 (c1.length)) c4 [.rows 130 2 4 (rowsFn tCast l),.cells c2,.rows 3 1 a3_2.length c3] true (.need (inR .i64 (x2_71+(1:Int))) (.frz 2 (c8&&(c5&&(c5&&(c5&&(c8&&true))))) (.vle 5 (.list 1 (c1.length) c3) (tint.lst c1) (.vle 11 c7 c6 (.vle 145 c7 c6 (.vle 147 c7 c6 (.vle 148 (.list 1 (c1.length) c3) (tint.lst c1) (.go (.l2 x1_62 c1 (x2_71+(1:Int))))))))))))))
 |.l4 x1_62 x2_5 x2_71 x3_12 a3_2 x4_13 x4_93=>let c1:=c.claims.getD (x4_93).toNat tClaim.zero;let c2:Tr P144 R144:=.need (inR .i64 (x4_93+(1:Int))) (.go (.l4 x1_62 x2_5 x2_71 x3_12 a3_2 x4_13 (x4_93+(1:Int))));let c4:Tr P144 R144:=.br (soL c1 x3_12) (.need (decide (0<=x4_93)&&inR .i64 ((1:Int)*2^(min (x4_93).toNat 64))) (.need (inR .i64 (x4_93+(1:Int))) (.go (.l4 x1_62 x2_5 x2_71 x3_12 a3_2 (bitsOf .or .i64 x4_13 ((1:Int)*2^(min (x4_93).toNat 64))) (x4_93+(1:Int)))))) c2;let c5:=c1.mould==x1_62;let c8:=c1.feature==x2_71;let c9:Tr P144 R144:=.lit false c2;let c10:=((c5==true)&&((c8==false)&&true))&&true;let c11:=x4_93<(c.claims.length:Int);let c12:=((c5==false)&&true)&&true;let c13:=c1.feature;let c3:List V:=[iI (c1.own),iI (c1.kind),iI (c1.a),iI (c1.b),iI (c1.mould),iI c13,iI (c1.number),iI (c1.worth)];let c6:List V:=[iI (c1.own),iI 5,iI (c1.a),iI (c1.b),iI (c1.mould),iI c13,iI (c1.number),iI (c1.worth)];let c7:List V:=[iI (c1.own),iI 4,iI (c1.a),iI (c1.b),iI (c1.mould),iI c13,iI (c1.number),iI (c1.worth)];(.br (decide c11) (.need (decide (0<=x4_93)&&decide c11) (.wait 1 (.cas (c1.kind==0) (.telc 3 c3 [iI (c1.own),iI 0,iI (c1.a),iI (c1.b),iI (c1.mould),iI c13,iI (c1.number),iI (c1.worth)] (.front [(2,186,[iI 0],.bool false)] [] true true c9)) (.cas (c1.kind==1) (.telc 3 c3 [iI (c1.own),iI 1,iI (c1.a),iI (c1.b),iI (c1.mould),iI c13,iI (c1.number),iI (c1.worth)] (.front [(2,186,[iI 1],.bool false)] [] true true c9)) (.cas (c1.kind==2) (.telc 3 c3 [iI (c1.own),iI 2,iI (c1.a),iI (c1.b),iI (c1.mould),iI c13,iI (c1.number),iI (c1.worth)] (.front [(2,186,[iI 2],.bool false)] [] true true c9)) (.cas (c1.kind==3) (.telc 3 c3 [iI (c1.own),iI 3,iI (c1.a),iI (c1.b),iI (c1.mould),iI c13,iI (c1.number),iI (c1.worth)] (.front [(2,186,[iI 3],.bool false)] [] true true c9)) (.cas (c1.kind==4) (.telc 3 c3 c7 (.br c5 (.br c8 (.front [(2,186,[iI 4],.bool true),(27,169,[.agg c7,.arr 2 4 (rowsFn tCast l),iI x3_12,rR (fF 177)],.bool (soL c1 x3_12))] [(9,true),(15,true)] (((c5==true)&&((c8==true)&&(((decide (0<=(4:Int))&&decide ((4:Int)<(6:Int)))&&true)&&true)))&&true) true c4) (.front [(2,186,[iI 4],.bool true)] [(9,true),(15,false)] c10 true c9)) (.front [(2,186,[iI 4],.bool true)] [(9,false)] c12 true c9))) (.cas (c1.kind==5) (.telc 3 c3 c6 (.br c5 (.br c8 (.front [(2,186,[iI 5],.bool true),(27,169,[.agg c6,.arr 2 4 (rowsFn tCast l),iI x3_12,rR (fF 178)],.bool (soL c1 x3_12))] [(9,true),(15,true)] (((c5==true)&&((c8==true)&&(((decide (0<=(5:Int))&&decide ((5:Int)<(6:Int)))&&true)&&true)))&&true) true c4) (.front [(2,186,[iI 5],.bool true)] [(9,true),(15,false)] c10 true c9)) (.front [(2,186,[iI 5],.bool true)] [(9,false)] c12 true c9))) .never)))))))) (.go (.l5 x1_62 x2_5 x2_71 x3_12 x4_13 0 a3_2)))
 |.l5 x1_62 x2_5 x2_71 x3_12 x4_13 x5_134 a5_2=>let c1:=x5_134<(x2_5.length:Int);(.br (decide c1) (.need (decide (0<=x5_134)&&decide c1) (.need ((decide (a5_2.length=a5_2.length)&&decide (a5_2.length+1<=4294967296))&&decide (1<=1)) (.scal (fun _=>true) (.need (inR .i64 (x5_134+(1:Int))) (.go (.l5 x1_62 x2_5 x2_71 x3_12 x4_13 (x5_134+(1:Int)) ((bitsOf .or .i64 (x2_5.getD (x5_134).toNat tint.zero) x4_13)::a5_2))))))) (.need (inR .i64 (x3_12+(1:Int))) (.go (.l3 x1_62 x2_5 x2_71 (x3_12+(1:Int)) a5_2))))
noncomputable def g144(ks:List Int)(c:Case)(l:Nat->Cast):P144->List Item × St
 |.e=>bd Tryz.f144 [court c ks,.arr 2 4 (rowsFn tCast l)] 150
 |.l0 x0_25 a0_1=>(cutOf Tryz.f144 0,⟨mk 152 [(0,court c ks),(3,.ref 0 0 0),(5,.row 1 1),(23,tClaim.lst c.claims),(24,iI (c.claims.length:Int)),(25,iI x0_25)],[.rows 130 2 4 (rowsFn tCast l),.rows 3 1 1 (rowsOf tint a0_1)],[]⟩)
 |.l1 x1_5 x1_62=>(cutOf Tryz.f144 1,⟨mk 152 [(0,court c ks),(3,.ref 0 0 0),(5,tint.lst x1_5),(61,iI (c.shop.moulds.length:Int)),(62,iI x1_62)],[.rows 130 2 4 (rowsFn tCast l)],[]⟩)
 |.l2 x1_62 x2_5 x2_71=>(cutOf Tryz.f144 2,⟨mk 152 [(0,court c ks),(3,.ref 0 0 0),(5,tint.lst x2_5),(8,iI x1_62),(61,iI (c.shop.moulds.length:Int)),(62,iI x1_62),(70,iI c.shop.features),(71,iI x2_71)],[.rows 130 2 4 (rowsFn tCast l)],[]⟩)
 |.l3 x1_62 x2_5 x2_71 x3_12 a3_2=>(cutOf Tryz.f144 3,⟨mk 152 [(0,court c ks),(3,.ref 0 0 0),(5,tint.lst x2_5),(8,iI x1_62),(9,iI x2_71),(10,.ref 1 0 0),(11,.row 2 a3_2.length),(12,iI x3_12),(61,iI (c.shop.moulds.length:Int)),(62,iI x1_62),(70,iI c.shop.features),(71,iI x2_71)],[.rows 130 2 4 (rowsFn tCast l),.cells [iI ((spanA c l x1_62 x2_71).lo),iI ((spanA c l x1_62 x2_71).hi)],.rows 3 1 a3_2.length (rowsRev tint a3_2)],[]⟩)
 |.l4 x1_62 x2_5 x2_71 x3_12 a3_2 x4_13 x4_93=>(cutOf Tryz.f144 4,⟨mk 152 [(0,court c ks),(3,.ref 0 0 0),(5,tint.lst x2_5),(8,iI x1_62),(9,iI x2_71),(10,.ref 1 0 0),(11,.row 2 a3_2.length),(12,iI x3_12),(13,iI x4_13),(61,iI (c.shop.moulds.length:Int)),(62,iI x1_62),(70,iI c.shop.features),(71,iI x2_71),(91,tClaim.lst c.claims),(92,iI (c.claims.length:Int)),(93,iI x4_93)],[.rows 130 2 4 (rowsFn tCast l),.cells [iI ((spanA c l x1_62 x2_71).lo),iI ((spanA c l x1_62 x2_71).hi)],.rows 3 1 a3_2.length (rowsRev tint a3_2)],[]⟩)
 |.l5 x1_62 x2_5 x2_71 x3_12 x4_13 x5_134 a5_2=>(cutOf Tryz.f144 5,⟨mk 152 [(0,court c ks),(3,.ref 0 0 0),(5,tint.lst x2_5),(8,iI x1_62),(9,iI x2_71),(10,.ref 1 0 0),(11,.row 2 a5_2.length),(12,iI x3_12),(13,iI x4_13),(61,iI (c.shop.moulds.length:Int)),(62,iI x1_62),(70,iI c.shop.features),(71,iI x2_71),(132,tint.lst x2_5),(133,iI (x2_5.length:Int)),(134,iI x5_134)],[.rows 130 2 4 (rowsFn tCast l),.cells [iI ((spanA c l x1_62 x2_71).lo),iI ((spanA c l x1_62 x2_71).hi)],.rows 3 1 a5_2.length (rowsRev tint a5_2)],[]⟩)
def n144:R144->Exit × St
 |.r0 r0=>(.ret,⟨mk 152 [(4,tint.lst r0)],[],[]⟩)
def v144:R144->V
 |.r0 r0=>tint.lst r0
theorem s144(ks:List Int)(c:Case)(l:Nat->Cast):Sm 0 (g144 ks c l) (T144 ks c l) (n144)
 |.e=>⟨400,by kernel_rfl⟩
 |.l0 _ _=>⟨400,by kernel_rfl⟩
 |.l1 _ _=>⟨400,by kernel_rfl⟩
 |.l2 _ _ _=>⟨400,by kernel_rfl⟩
 |.l3 _ _ _ _ _=>⟨400,by kernel_rfl⟩
 |.l4 _ _ _ _ _ _ _=>⟨400,by kernel_rfl⟩
 |.l5 _ _ _ _ _ _ _=>⟨400,by kernel_rfl⟩
theorem q144:∀r,bodyQ Tryz.prog Tryz.f144 (·=v144 r) (n144 r).1 (n144 r).2
 |.r0 r0=>bq (tint.lst r0) (by kernel_rfl)
theorem w144(ks:List Int)(c:Case)(l:Nat->Cast){post:V->Prop}(h:WQ (T144 ks c l) v144 post .e):PC 144 [court c ks,.arr 2 4 (rowsFn tCast l)] post:=
 PCalls.wq Tryz.func144 (s144 ks c l) q144 h
theorem c145(h:List Blk)(q:Nat)(l:List Int)(c c':Nat->Nat->V)(hi:h[q]? =some (.rows 3 1 l.length c))(hc:RowI c l)(hc':RowI c' (sortZ l)):HCalls Tryz.prog 145 [.row q l.length] (.tuple []) h (h.set q (.rows 3 1 l.length c')):=
 HCalls.sort (PCalls.enters Tryz.func145 (c:=Tryz.f145.body.getD .skip) (by kernel_rfl) (by kernel_rfl)) Tryz.slices_Sort_int Tryz.slices_Sort_int_none hi hc hc'
theorem c187(h:List Blk)(q:Nat)(l:List Int)(c c':Nat->Nat->V)(hi:h[q]? =some (.rows 3 1 l.length c))(hc:RowI c l)(hc':RowI c' (padZ (Lib.compact l) l.length)):HCalls Tryz.prog 187 [.row q l.length] (.row q (Lib.compact l).length) h (h.set q (.rows 3 1 l.length c')):=
 HCalls.compact (PCalls.enters Tryz.func187 (c:=Tryz.f187.body.getD .skip) (by kernel_rfl) (by kernel_rfl)) Tryz.slices_Compact_int Tryz.slices_Compact_int_empty hi hc hc'
theorem rowI_of(l:List Int):RowI (rowsOf tint l) l:=fun _ _=>rfl
theorem rowI_rev(l:List Int):RowI (rowsRev tint l) l.reverse:=fun r hr=>by
 have hr':r<l.length:=by simpa using hr
 have e:∀(l:List Int) (r:Nat),r<l.length->rowsRev tint l r 0=iI (l.reverse.getD r 0):=by
  intro l
  induction l with
  |nil=>intro r h;simp at h
  |cons x l ih=>
   intro r h;simp only[rowsRev,appC];by_cases q:r<l.length
   ·rw[if_pos q,ih r q,List.reverse_cons,gE,gE,aL (by simpa using q)]
   ·have hq:r=l.length:=by simp at h;omega
    subst hq;simp[tint,gE]
 exact e l r hr'
theorem tel_kind{x:Claim}{k:Int}(h:x.kind=k)(j:Nat):VLe ((tClaim.cells x).getD j uU) ((kcells x k).getD j uU):=by rw[kcells_eq h];exact VLe.refl _
theorem getD_one(b x:Int):([b]:List Int).getD 0 x=b:=rfl
theorem c145r(h:List Blk)(q:Nat)(a:List Int)(hi:h[q]? =some (.rows 3 1 a.length (rowsRev tint a))):HCalls Tryz.prog 145 [.row q a.length] (.tuple []) h (h.set q (.rows 3 1 a.length (rowsOf tint (sortZ a.reverse)))):=by
 have:=c145 h q a.reverse (rowsRev tint a) (rowsOf tint (sortZ a.reverse)) (by rw[List.length_reverse];exact hi) (rowI_rev a) (rowI_of _);rwa[List.length_reverse]at this
theorem c187r(h:List Blk)(q:Nat)(l:List Int)(n:Nat)(hn:n=l.length)(hi:h[q]? =some (.rows 3 1 n (rowsOf tint l))):HCalls Tryz.prog 187 [.row q n] (.row q (Lib.compact l).length) h (h.set q (.rows 3 1 n (rowsOf tint (padZ (Lib.compact l) n)))):=by
 subst hn;exact c187 h q l (rowsOf tint l) _ hi (rowI_of l) (rowI_of _)
theorem VLe.pad(l:List Int)(n:Nat):VLe (.list 1 l.length (rowsOf tint (padZ l n))) (tint.lst l):=
 VLe.list fun i j hi _=>by
  simp only[rowsOf,padZ,gE,aL hi]
theorem own_or{c:Case}{m f last:Int}{i:Nat}(h5:i<5)(hp:ownP c m f last i=true):bitsOf .or .i64 (ownA c m f last i) ((1:Int)*2^(min i 64))=ownA c m f last (i+1):=by
 have:=or_bit (p:=ownP c m f last) (n:=i) h5 hp;rw[Int.one_mul,show min i 64=i by omega];exact this
theorem own_no{c:Case}{m f last:Int}{i:Nat}(hp:ownP c m f last i=false):ownA c m f last (i+1)=ownA c m f last i:=by
 unfold ownA;rw[mask_succ,hp];rfl
set_option maxHeartbeats 4000000 in
theorem w144_4(c:Case)(ks:List Int)(l:Nat->Cast)(h:OkCase c)(m f last:Int)(out acc:List Int)(i:Nat)(hi:i<c.claims.length):
  WP Tryz.prog ⟨none,0⟩ (T144 ks c l) (fun x=>x=.inl (.l4 m out f last acc (ownA c m f last (i+1)) ((i+1:Nat):Int))) (.l4 m out f last acc (ownA c m f last i) i):=by
 have h5:=h.five;have hr:inR .i64 ((i:Int)+1)=true:=inR64 (by omega) (by omega);have hk:=h.cl hi;have hor:=own_or (c:=c) (m:=m) (f:=f) (last:=last) (i:=i) (by omega)
 have hbb:inR .i64 ((1:Int)*2^(min i 64))=true:=by
  rcases show i=0\/i=1\/i=2\/i=3\/i=4 by omega with e|e|e|e|e<;>subst e<;>decide
 have hno:=own_no (c:=c) (m:=m) (f:=f) (last:=last) (i:=i);have hcl:c.claims.getD i zClaim=cl c i:=rfl;have hP:ownP c m f last i=(lasting (cl c i).kind&&((cl c i).mould==m&&((cl c i).feature==f&&soL (cl c i) last))):=rfl;generalize ownA c m f last (i+1)=M1 at*
 generalize ownA c m f last i=M0 at*
 generalize ownP c m f last i=B at*
 generalize cl c i=X at*
 have hi':(i:Int)<c.claims.length:=by omega
 have hgo:B=true->(Sum.inl (P144.l4 m out f last acc (bitsOf .or .i64 M0 ((1:Int)*2^(min i 64))) ((i:Int)+1)):P144⊕R144)=Sum.inl (P144.l4 m out f last acc M1 ((i+1:Nat):Int)):=fun hb=>by
  rw[hor hb];rfl
 have hst:B=false->(Sum.inl (P144.l4 m out f last acc M0 ((i:Int)+1)):P144⊕R144)=Sum.inl (P144.l4 m out f last acc M1 ((i+1:Nat):Int)):=fun hb=>by rw[hno hb];rfl
 clear hor hno
 rcases show X.kind=0\/X.kind=1\/X.kind=2\/X.kind=3\/X.kind=4\/X.kind=5 by have:=hk.kind;omega with e|e|e|e|e|e
 ·have hB:B=false:=by rw[hP,e];rfl
  refine WP.once ?_;simp only[T144,Tr.sure,SS,hi',hi,z8,z1,hcl];repeat' with_reducible first|intro _|apply aI
  all_goals first|exact(c186f 0 (by omega))|exact(tel_kind e _)|exact(by with_reducible exact hst hB)|(simp[hr,Go,Ends',v144,-List.getD_eq_getElem?_getD, *];done)|(simp_all [hr,Go,Ends',v144,-List.getD_eq_getElem?_getD];done)
 ·have hB:B=false:=by rw[hP,e];rfl
  refine WP.once ?_;simp only[T144,Tr.sure,SS,hi',hi,z8,z1,hcl];repeat' with_reducible first|intro _|apply aI
  all_goals first|exact(c186f 1 (by omega))|exact(tel_kind e _)|exact(by with_reducible exact hst hB)|(simp[hr,Go,Ends',v144,-List.getD_eq_getElem?_getD, *];done)|(simp_all [hr,Go,Ends',v144,-List.getD_eq_getElem?_getD];done)
 ·have hB:B=false:=by rw[hP,e];rfl
  refine WP.once ?_;simp only[T144,Tr.sure,SS,hi',hi,z8,z1,hcl];repeat' with_reducible first|intro _|apply aI
  all_goals first|exact(c186f 2 (by omega))|exact(tel_kind e _)|exact(by with_reducible exact hst hB)|(simp[hr,Go,Ends',v144,-List.getD_eq_getElem?_getD, *];done)|(simp_all [hr,Go,Ends',v144,-List.getD_eq_getElem?_getD];done)
 ·have hB:B=false:=by rw[hP,e];rfl
  refine WP.once ?_;simp only[T144,Tr.sure,SS,hi',hi,z8,z1,hcl];repeat' with_reducible first|intro _|apply aI
  all_goals first|exact(c186f 3 (by omega))|exact(tel_kind e _)|exact(by with_reducible exact hst hB)|(simp[hr,Go,Ends',v144,-List.getD_eq_getElem?_getD, *];done)|(simp_all [hr,Go,Ends',v144,-List.getD_eq_getElem?_getD];done)
 ·have hB:B=(X.mould==m&&(X.feature==f&&soL X last)):=by rw[hP,e];rfl
  refine WP.once ?_;simp only[T144,Tr.sure,SS,hi',hi,z8,z1,hcl];repeat' with_reducible first|intro _|apply aI
  all_goals first|exact(c186t 4 (by omega))|exact(so4 X l last e)|exact(tel_kind e _)|(simp[hr,Go,Ends',v144,-List.getD_eq_getElem?_getD, *];done)|(simp_all [hr,Go,Ends',v144,-List.getD_eq_getElem?_getD];done)
 ·have hB:B=(X.mould==m&&(X.feature==f&&soL X last)):=by rw[hP,e];rfl
  refine WP.once ?_;simp only[T144,Tr.sure,SS,hi',hi,z8,z1,hcl];repeat' with_reducible first|intro _|apply aI
  all_goals first|exact(c186t 5 (by omega))|exact(so5 X l last e)|exact(tel_kind e _)|(simp[hr,Go,Ends',v144,-List.getD_eq_getElem?_getD, *];done)|(simp_all [hr,Go,Ends',v144,-List.getD_eq_getElem?_getD];done)
set_option maxHeartbeats 4000000 in
theorem c144(c:Case)(ks:List Int)(l:Nat->Cast)(h:OkCase c)(hl:∀i,0<=(l i).number/\(l i).number<=4):PC 144 [court c ks,.arr 2 4 (rowsFn tCast l)] (·=tint.lst (casesA c l)):=by
 have h5:=h.five;have hm:=h.shop.nm;have hf:=h.shop.feat;have hn4:=h.shop.nh;refine w144 ks c l (WP.step ?_);simp only[T144,Go,Ends',v144,Tr.sure,SS];repeat' with_reducible first|intro _|apply aI
 all_goals first|exact tel_lit tint [0] rfl rfl (fun _=>rfl) rfl (by assumption) (by assumption)|skip
 refine WP.run (fun i=>.l0 i [maskTo (castPA c l) i]) rfl c.claims.length (fun i hi=> ?_) ?_
 ·have hr:inR .i64 ((i:Int)+1)=true:=inR64 (by omega) (by omega);have hk:=h.cl hi;have hs:maskTo (castPA c l) (i+1)=if castPA c l i=true then maskTo (castPA c l) i+bitZ i else maskTo (castPA c l) i:=mask_succ _ _
  have hor:castPA c l i=true->bitsOf .or .i64 (maskTo (castPA c l) i) ((1:Int)*2^(min i 64))=maskTo (castPA c l) (i+1):=fun hp=>by
   have:=or_bit (p:=castPA c l) (n:=i) (by omega) hp;rw[Int.one_mul,show min i 64=i by omega];exact this
  have hbb:inR .i64 ((1:Int)*2^(min i 64))=true:=by
   rcases show i=0\/i=1\/i=2\/i=3\/i=4 by omega with e|e|e|e|e<;>subst e<;>decide
  have hno:castPA c l i=false->maskTo (castPA c l) (i+1)=maskTo (castPA c l) i:=fun hp=>by rw[hs,hp];rfl
  have hcl:c.claims.getD i zClaim=cl c i:=rfl;have hP:castPA c l i=(!lasting (cl c i).kind&&soF (cl c i) l):=rfl;generalize maskTo (castPA c l) (i+1)=M1 at*
  generalize maskTo (castPA c l) i=M0 at*
  generalize castPA c l i=B at*
  generalize cl c i=X at*
  have hi':(i:Int)<c.claims.length:=by omega
  have hgo:B=true->(Sum.inl (P144.l0 ((i:Int)+1) (([M0]:List Int).set 0 (bitsOf .or .i64 (([M0]:List Int).getD 0 0) ((1:Int)*2^(min i 64))))):P144⊕R144)=Sum.inl (P144.l0 ((i+1:Nat):Int) [M1]):=fun hb=>by
   rw[getD_one,hor hb];rfl
  have hst:B=false->(Sum.inl (P144.l0 ((i:Int)+1) [M0]):P144⊕R144)=Sum.inl (P144.l0 ((i+1:Nat):Int) [M1]):=fun hb=>by rw[hno hb];rfl
  clear hs hor hno
  rcases show X.kind=0\/X.kind=1\/X.kind=2\/X.kind=3\/X.kind=4\/X.kind=5 by have:=hk.kind;omega with e|e|e|e|e|e
  ·have ha:=hk.cast e;have hB:B=soF X l:=by rw[hP,e];rfl
   refine WP.once ?_;simp only[T144,Tr.sure,SS,hi',hi,z8,z1,hcl,Int.toNat_zero];repeat' with_reducible first|intro _|apply aI
   all_goals first|exact(c186f 0 (by omega))|exact(so0 X l e (by omega))|exact(tel_set tint _ _ _ _ rfl rfl rfl _ _ (by assumption) (by assumption))|exact(tel_kind e _)|exact(by with_reducible exact hgo (hB.trans (by assumption)))|exact(by with_reducible exact hst (hB.trans (by assumption)))|(simp[hr,underL_int,Go,Ends',v144,-List.getD_eq_getElem?_getD, *];done)|(simp_all [hr,underL_int,Go,Ends',v144,-List.getD_eq_getElem?_getD];done)
  ·have ha:=hk.pair (.inl e);have hB:B=soF X l:=by rw[hP,e];rfl
   refine WP.once ?_;simp only[T144,Tr.sure,SS,hi',hi,z8,z1,hcl,Int.toNat_zero];repeat' with_reducible first|intro _|apply aI
   all_goals first|exact(c186f 1 (by omega))|exact(so1 X l e (by omega) (by omega))|exact(tel_set tint _ _ _ _ rfl rfl rfl _ _ (by assumption) (by assumption))|exact(tel_kind e _)|exact(by with_reducible exact hgo (hB.trans (by assumption)))|exact(by with_reducible exact hst (hB.trans (by assumption)))|(simp[hr,underL_int,Go,Ends',v144,-List.getD_eq_getElem?_getD, *];done)|(simp_all [hr,underL_int,Go,Ends',v144,-List.getD_eq_getElem?_getD];done)
  ·have ha:=hk.pair (.inr (.inl e));have hB:B=soF X l:=by rw[hP,e];rfl
   refine WP.once ?_;simp only[T144,Tr.sure,SS,hi',hi,z8,z1,hcl,Int.toNat_zero];repeat' with_reducible first|intro _|apply aI
   all_goals first|exact(c186f 2 (by omega))|exact(so2 X l e (by omega) (by omega))|exact(tel_set tint _ _ _ _ rfl rfl rfl _ _ (by assumption) (by assumption))|exact(tel_kind e _)|exact(by with_reducible exact hgo (hB.trans (by assumption)))|exact(by with_reducible exact hst (hB.trans (by assumption)))|(simp[hr,underL_int,Go,Ends',v144,-List.getD_eq_getElem?_getD, *];done)|(simp_all [hr,underL_int,Go,Ends',v144,-List.getD_eq_getElem?_getD];done)
  ·have ha:=hk.pair (.inr (.inr e));have hB:B=soF X l:=by rw[hP,e];rfl
   refine WP.once ?_;simp only[T144,Tr.sure,SS,hi',hi,z8,z1,hcl,Int.toNat_zero];repeat' with_reducible first|intro _|apply aI
   all_goals first|exact(c186f 3 (by omega))|exact(so3 X l e (by omega) (by omega))|exact(tel_set tint _ _ _ _ rfl rfl rfl _ _ (by assumption) (by assumption))|exact(tel_kind e _)|exact(by with_reducible exact hgo (hB.trans (by assumption)))|exact(by with_reducible exact hst (hB.trans (by assumption)))|(simp[hr,underL_int,Go,Ends',v144,-List.getD_eq_getElem?_getD, *];done)|(simp_all [hr,underL_int,Go,Ends',v144,-List.getD_eq_getElem?_getD];done)
  ·have hB:B=false:=by rw[hP,e];rfl
   refine WP.once ?_;simp only[T144,Tr.sure,SS,hi',hi,z8,z1,hcl,Int.toNat_zero];repeat' with_reducible first|intro _|apply aI
   all_goals first|exact(c186t 4 (by omega))|exact(tel_kind e _)|exact(by with_reducible exact hst hB)|(simp[hr,underL_int,Go,Ends',v144,-List.getD_eq_getElem?_getD, *];done)|(simp_all [hr,underL_int,Go,Ends',v144,-List.getD_eq_getElem?_getD];done)
  ·have hB:B=false:=by rw[hP,e];rfl
   refine WP.once ?_;simp only[T144,Tr.sure,SS,hi',hi,z8,z1,hcl,Int.toNat_zero];repeat' with_reducible first|intro _|apply aI
   all_goals first|exact(c186t 5 (by omega))|exact(tel_kind e _)|exact(by with_reducible exact hst hB)|(simp[hr,underL_int,Go,Ends',v144,-List.getD_eq_getElem?_getD, *];done)|(simp_all [hr,underL_int,Go,Ends',v144,-List.getD_eq_getElem?_getD];done)
 ·refine WP.step ?_;simp only[T144,Go,Ends',v144,Tr.sure,SS,Int.lt_irrefl];repeat' with_reducible first|intro _|apply aI
  all_goals first|exact tel_one tint _ rfl|(simp[Go,Ends',v144,-List.getD_eq_getElem?_getD, *];done)|skip
  refine WP.run (fun m=>.l1 (mouldA c l m) m) rfl c.shop.moulds.length (fun m hmi=> ?_) ?_
  ·have hr:inR .i64 ((m:Int)+1)=true:=inR64 (by omega) (by omega);have hml:=mouldA_le h.shop l m (by omega);have hlt:=mouldA_lt h5 (l:=l) m
   have hml':(mouldA c l m).length<=2401:=Nat.le_trans hml (by
    rcases show m=0\/m=1 by omega with e|e<;>subst e<;>decide)
   refine WP.step ?_;simp only[T144,Go,Ends',v144,Tr.sure,SS,hmi];repeat' with_reducible first|intro _|apply aI
   obtain⟨F,hF⟩:∃F:Nat,c.shop.features.toNat=F:=⟨_,rfl⟩
   refine WP.run (fun f=>.l2 m (featA c l m (mouldA c l m) f) f) rfl F (fun f hfi=> ?_) ?_
   ·have hr':inR .i64 ((f:Int)+1)=true:=inR64 (by omega) (by omega);have hfl:(f:Int)<c.shop.features:=by omega
    have hcall:=c142 c ks l m f h.shop hl (by omega) (by omega);have hlen:=featA_le h.shop l (m:=(m:Int)) (by omega) (mouldA c l m) f (by omega);have h7:=pow7 (F:=f) (by omega)
    have hlen':(featA c l m (mouldA c l m) f).length<=6000000:=by
     have:=Nat.mul_le_mul h7 hml';omega
    have hnext:featA c l m (mouldA c l m) (f+1)=stepA c l m f (featA c l m (mouldA c l m) f):=rfl;have hwd:=wideA_le h.shop l (m:=(m:Int)) (f:=(f:Int)) (by omega) (by omega) c.shop.heads.length;have hin:=lastA_in h.shop l (m:=(m:Int)) (f:=(f:Int)) (by omega) (by omega) c.shop.heads.length;generalize featA c l m (mouldA c l m) f=out at*
    have hsp:lastA c.shop l m f c.shop.heads.length=spanA c l m f:=rfl;rw[hsp]at hwd hin hcall;refine WP.step ?_;simp only[T144,Go,Ends',v144,Tr.sure,SS,hfl];repeat' with_reducible first|intro _|apply aI
    all_goals first|exact hcall|skip
    have hnl:∀n,(nextA c m f (spanA c l m f).lo out n).length<=n*out.length:=nextA_len c m f (spanA c l m f).lo out;refine WP.run (fun n=>.l3 m out f ((spanA c l m f).lo+(n:Int)) (nextA c m f (spanA c l m f).lo out n).reverse) (by simp[nextA]) (Go.Proofs.YtdamoemndifpmaaGreat.wide (spanA c l m f)) (fun n hn=> ?_) ?_
    ·have hle:(spanA c l m f).lo+(n:Int)<=(spanA c l m f).hi:=by unfold Go.Proofs.YtdamoemndifpmaaGreat.wide at hn;omega
     have hr3:inR .i64 ((spanA c l m f).lo+(n:Int)+1)=true:=inR64 (by omega) (by omega);have hx:(spanA c l m f).lo+((n+1:Nat):Int)=(spanA c l m f).lo+(n:Int)+1:=by omega
     have hla:=hnl n;have hlb:(nextA c m f (spanA c l m f).lo out n).length<=140000000:=Nat.le_trans hla (Nat.le_trans (Nat.mul_le_mul (show n<=7 by omega) hlen') (by decide))
     have hns:nextA c m f (spanA c l m f).lo out (n+1)=nextA c m f (spanA c l m f).lo out n++out.map fun s=>orZ s (ownA c m f ((spanA c l m f).lo+(n:Int)) c.claims.length):=by
      unfold nextA;rw[List.range_succ,List.flatMap_append];simp
     rw[hx,hns];generalize(spanA c l m f).lo+(n:Int)=last at*
     generalize nextA c m f (spanA c l m f).lo out n=acc at*
     refine WP.step ?_;simp only[T144,Go,Ends',v144,Tr.sure,SS,hle];repeat' with_reducible first|intro _|apply aI
     refine WP.run (fun i=>.l4 m out f last acc.reverse (ownA c m f last i) i) rfl c.claims.length (fun i hi=>w144_4 c ks l h m f last out acc.reverse i hi) ?_;generalize ownA c m f last c.claims.length=own
     refine WP.step ?_;simp only[T144,Go,Ends',v144,Tr.sure,SS,Int.lt_irrefl];repeat' with_reducible first|intro _|apply aI
     refine WP.run (fun k=>.l5 m out f last own k (((out.take k).map fun s=>orZ s own).reverse++acc.reverse)) rfl out.length (fun k hk=> ?_) ?_
     ·have hr5:inR .i64 ((k:Int)+1)=true:=inR64 (by omega) (by omega);have hk':(k:Int)<out.length:=by omega
      have hbl:(((out.take k).map fun s=>orZ s own).reverse++acc.reverse).length+1<=4294967296:=by simp;omega
      have hts:=rev_take (fun s=>orZ s own) 0 out k hk;refine WP.once ?_;simp only[T144,Tr.sure,SS,hk',hk,z1];repeat' with_reducible first|intro _|apply aI
      all_goals first|(simp[hr5,hbl,hts,orZ,Go,Ends',v144,-List.getD_eq_getElem?_getD, *];done)|(simp_all [hr5,hbl,hts,orZ,Go,Ends',v144,-List.getD_eq_getElem?_getD];done)
     ·rw[List.take_length];refine WP.once ?_;simp only[T144,Tr.sure,SS,Int.lt_irrefl];repeat' with_reducible first|intro _|apply aI
      all_goals simp[hr3,Go,Ends',v144,-List.getD_eq_getElem?_getD, *]
    ·have hle:¬(spanA c l m f).lo+(Go.Proofs.YtdamoemndifpmaaGreat.wide (spanA c l m f):Int)<=(spanA c l m f).hi:=by unfold Go.Proofs.YtdamoemndifpmaaGreat.wide;omega
     have he:stepA c l m f out=Lib.compact (sortZ (nextA c m f (spanA c l m f).lo out (Go.Proofs.YtdamoemndifpmaaGreat.wide (spanA c l m f)))):=rfl;have hcs:=compact_len (sortZ (nextA c m f (spanA c l m f).lo out (Go.Proofs.YtdamoemndifpmaaGreat.wide (spanA c l m f))));rw[sortZ_len]at hcs;rw[hnext,he];have hsl:=sortZ_len (nextA c m f (spanA c l m f).lo out (Go.Proofs.YtdamoemndifpmaaGreat.wide (spanA c l m f)))
     generalize nextA c m f (spanA c l m f).lo out (Go.Proofs.YtdamoemndifpmaaGreat.wide (spanA c l m f))=acc at*
     have hrr:acc.reverse.reverse=acc:=List.reverse_reverse acc;have hlr:acc.reverse.length=acc.length:=List.length_reverse;have hpl:=padZ_len hcs;have hsq:acc.reverse.length=(sortZ acc.reverse.reverse).length:=by rw[hrr,hsl,hlr]
     refine WP.once ?_;simp only[T144,Tr.sure,SS,hle];repeat' with_reducible first|intro _|apply aI
     all_goals first|exact(c145r _ 2 acc.reverse rfl)|exact(c187r _ 2 (sortZ acc.reverse.reverse) acc.reverse.length hsq rfl)|exact(VLe.pad _ _)|exact(VLe.same tint _ (by rw[hrr,hlr,hpl]))|(simp[hr',hcs,hrr,hlr,Go,Ends',v144,-List.getD_eq_getElem?_getD, *];done)
   ·have hle:¬(F:Int)<c.shop.features:=by omega
    have he:mouldA c l (m+1)=featA c l m (mouldA c l m) F:=by rw[<-hF];rfl
    refine WP.once ?_;simp only[T144,Tr.sure,SS,hle];repeat' with_reducible first|intro _|apply aI
    all_goals simp[hr,he,Go,Ends',v144,-List.getD_eq_getElem?_getD, *]
  ·refine WP.step ?_;simp only[T144,Go,Ends',v144,Tr.sure,SS,Int.lt_irrefl];repeat' with_reducible first|intro _|apply aI
   all_goals simp[casesA,Go,Ends',v144,-List.getD_eq_getElem?_getD, *]
end
noncomputable section
theorem sameC_b(a b:Cast):(a.mould==b.mould&&(a.number==b.number&&true))=sameC a b:=by simp[sameC]
inductive P184
 |e
 |l0 (x0_8:Int)
inductive R184
 |r0 (r0:Int)
def T184(s:List Cast)(v:Cast):P184->Tr P184 R184
 |.e=>(.go (.l0 0))
 |.l0 x0_8=>let c1:=s.getD (x0_8).toNat tCast.zero;(.br (decide (x0_8<(s.length:Int))) (.front [] [] (((decide (0<=x0_8)&&decide (x0_8<(s.length:Int)))&&true)&&true) true (.br ((v.mould==c1.mould)&&((v.number==c1.number)&&true)) (.out (.r0 x0_8)) (.need (inR .i64 (x0_8+(1:Int))) (.go (.l0 (x0_8+(1:Int))))))) (.out (.r0 (-1))))
noncomputable def g184(s:List Cast)(v:Cast):P184->List Item × St
 |.e=>bd Tryz.f184 [tCast.lst s,.agg [iI v.mould,iI v.number]] 17
 |.l0 x0_8=>(cutOf Tryz.f184 0,⟨mk 19 [(0,tCast.lst s),(3,.ref 0 0 0),(7,iI (s.length:Int)),(8,iI x0_8)],[.cells [iI v.mould,iI v.number]],[]⟩)
def n184:R184->Exit × St
 |.r0 r0=>(.ret,⟨mk 19 [(4,iI r0)],[],[]⟩)
def v184:R184->V
 |.r0 r0=>iI r0
theorem s184(s:List Cast)(v:Cast):Sm 0 (g184 s v) (T184 s v) (n184)
 |.e=>⟨400,by kernel_rfl⟩
 |.l0 _=>⟨400,by kernel_rfl⟩
theorem q184:∀r,bodyQ Tryz.prog Tryz.f184 (·=v184 r) (n184 r).1 (n184 r).2
 |.r0 r0=>bq (iI r0) (by kernel_rfl)
theorem w184(s:List Cast)(v:Cast){post:V->Prop}(h:WQ (T184 s v) v184 post .e):PC 184 [tCast.lst s,.agg [iI v.mould,iI v.number]] post:=
 PCalls.wq Tryz.func184 (s184 s v) q184 h
theorem e184:∀xs w,(callFunc 184 xs).run Tryz.prog w=.ok (.enter 184 xs) w:=PCalls.enters Tryz.func184 (c:=Tryz.f184.body.getD .skip) (by kernel_rfl) (by kernel_rfl)
theorem c184(s:List Cast)(v:Cast):PC 184 [tCast.lst s,.agg (tCast.cells v)] (·=iI (place (firstI (fun x=>sameC v x) 0 s))):=by
 refine PCalls.assume e184 0 (by simp) .list fun hs=> ?_;refine w184 s v (WP.step ?_);simp only[T184,Go,Ends',v184,Tr.sure,SS];repeat' with_reducible first|intro _|apply aI
 refine WP.findI (fun i=>.l0 i) rfl s zCast (fun x=>sameC v x) (fun i hi=> ?_) fun hI=> ?_
 ·have hr:=inRi hi hs;refine WP.once ?_;simp only[T184,Tr.sure,SS,hi,z5,sameC_b];repeat' with_reducible first|intro _|apply aI
  all_goals first|(simp[hr,place,Go,Ends',v184,-List.getD_eq_getElem?_getD, *];done)|(simp_all [hr,place,Go,Ends',v184,-List.getD_eq_getElem?_getD];done)
 ·refine WP.step ?_;simp only[T184,Go,Ends',v184,Tr.sure,SS];repeat' with_reducible first|intro _|apply aI
  all_goals simp[hI,place,Go,Ends',v184,-List.getD_eq_getElem?_getD, *]
inductive P141
 |e
inductive R141
 |r0 (r0:Bool)
def T141(s:List Cast)(v:Cast):P141->Tr P141 R141
 |.e=>(.call 184 [tCast.lst s,.agg [iI v.mould,iI v.number]] (iI (place (firstI (fun x=>sameC v x) 0 s))) true true (.out (.r0 (decide ((place (firstI (fun x=>sameC v x) 0 s))≥(0:Int))))))
noncomputable def g141(s:List Cast)(v:Cast):P141->List Item × St
 |.e=>bd Tryz.f141 [tCast.lst s,.agg [iI v.mould,iI v.number]] 7
def n141:R141->Exit × St
 |.r0 r0=>(.ret,⟨mk 9 [(4,.bool r0)],[],[]⟩)
def v141:R141->V
 |.r0 r0=>.bool r0
theorem s141(s:List Cast)(v:Cast):Sm 0 (g141 s v) (T141 s v) (n141)
 |.e=>⟨400,by kernel_rfl⟩
theorem q141:∀r,bodyQ Tryz.prog Tryz.f141 (·=v141 r) (n141 r).1 (n141 r).2
 |.r0 r0=>bq (.bool r0) (by kernel_rfl)
theorem w141(s:List Cast)(v:Cast){post:V->Prop}(h:WQ (T141 s v) v141 post .e):PC 141 [tCast.lst s,.agg [iI v.mould,iI v.number]] post:=
 PCalls.wq Tryz.func141 (s141 s v) q141 h
theorem c141(s:List Cast)(v:Cast):PC 141 [tCast.lst s,.agg (tCast.cells v)] (·=.bool (s.any fun x=>sameC v x)):=by
 have h1:decide (0<=place (firstI (fun x=>sameC v x) 0 s))=s.any fun x=>sameC v x:=by rw[<-firstI_any _ s 0,Bool.eq_iff_iff,decide_eq_true_iff];exact place_ge _
 refine w141 s v (WP.step ?_);simp only[T141,Go,Ends',v141,Tr.sure,SS];repeat' with_reducible first|intro _|apply aI
 all_goals first|exact(c184 _ _)|(simp[h1,Go,Ends',v141,-List.getD_eq_getElem?_getD, *];done)
inductive P140
 |e
 |l0 (x0_32:Int) (e0_0:List V) (a0_2:Nat->Cast)
 |l1 (x0_32:Int) (x1_39:Int) (e1_0:List V) (a1_2:Nat->Cast)
 |l2 (x0_32:Int) (x1_39:Int) (e1_0:List V) (a1_2:Nat->Cast) (x2_59:Int)
inductive R140
 |r0 (r0:List V) (r1:Nat->Cast) (r2:Bool)
def T140(X:Ext)(tr:List V)(c:Case)(ks:List Int)(f:Nat->Cast)(hd:Nat):P140->Tr P140 R140
 |.e=>let c1:List V:=[.arr 2 4 (rowsFn tCast f)];(.br ((hd:Int)==(c.shop.heads.length:Int)) (.yld X tr c1 c1 true (.out (.r0 (tr++ [V.tuple c1]) f (X.go (tr++ [V.tuple c1]))))) (.go (.l0 0 tr f)))
 |.l0 x0_32 e0_0 a0_2=>let c1:=x0_32<(c.shop.moulds.length:Int);(.br (decide c1) (.need (decide (0<=x0_32)&&decide c1) (.go (.l1 x0_32 0 e0_0 a0_2))) (.out (.r0 e0_0 a0_2 true)))
 |.l1 x0_32 x1_39 e1_0 a1_2=>let c1:=x1_39+(1:Int);let c2:=([iI x0_32,iI c1]:List V);let c3:=(hd:Int);let c4:=(⟨x0_32,c1⟩:Cast);(.br (decide (x1_39<(c.shop.moulds.getD (x0_32).toNat tMould.zero).casts)) (.need (inR .i64 c1) (.front [] [] (((((decide (0<=(0:Int))&&decide ((0:Int)<=(hd:Int)))&&decide ((hd:Int)<=(4:Int)))&&decide (4=4))&&true)&&true) true (.call 141 [.list 2 (c3.toNat) (rowsFn tCast a1_2),.agg [iI x0_32,iI c1]] (.bool ((preA f hd).any fun x=>sameC c4 x)) ((decide (c3.toNat<=4))&&true) true (.br ((preA f hd).any fun x=>sameC c4 x) (.need (inR .i64 c1) (.go (.l1 x0_32 c1 e1_0 a1_2))) (.need (decide (0<=(hd:Int))&&decide ((hd:Int)<(4:Int))) (.need ((decide (c3.toNat<4)&&decide (0+c2.length<=2))&&underL 0 c2) (.telb 2 2 4 (fun r' j=>if r'=c3.toNat/\0<=j/\j<0+c2.length then c2.getD (j-0) uU else(rowsFn tCast a1_2) r' j) (rowsFn tCast (upd a1_2 (c3.toNat) c4)) (.go (.l2 x0_32 x1_39 e1_0 a1_2 0))))))))) (.need (inR .i64 (x0_32+(1:Int))) (.go (.l0 (x0_32+(1:Int)) e1_0 a1_2))))
 |.l2 x0_32 x1_39 e1_0 a1_2 x2_59=>let c3:=([iI 0,iI 0]:List V);let c6:=(decide (((hd:Int)).toNat<4)&&decide (0+c3.length<=2))&&underL 0 c3;let c8:List V:=[fG 140 [rR (court c ks),.ref 1 0 0,.ref 2 0 0,.ref 3 0 0]];let c9:=decide (0<=(hd:Int))&&decide ((hd:Int)<(4:Int));let c10:=((hd:Int)).toNat;let c11:=x1_39+(1:Int);let c1:=upd a1_2 c10 (⟨x0_32,c11⟩:Cast);let c2:=leavesH c.shop (hd+1) c1;let c4:=lastA c.shop c1 x0_32 x2_59 c.shop.heads.length;let c5:=feed X.go e1_0 (ysA c2);let c7:=endF X.go c1 e1_0 c2;let c12:=(⟨0,0⟩:Cast);let c13:=rowsFn tCast c1;(.br (decide (x2_59<c.shop.features)) (.call 142 [court c ks,.arr 2 4 c13,iI x0_32,iI x2_59] (.agg [iI (c4.lo),iI (c4.hi)]) true true (.br (decide (c4.lo>c4.hi)) (.need c9 (.need c6 (.telb 2 2 4 (fun r' j=>if r'=((hd:Int)).toNat/\0<=j/\j<0+c3.length then c3.getD (j-0) uU else c13 r' j) (rowsFn tCast (upd c1 c10 c12)) (.need (inR .i64 c11) (.go (.l1 x0_32 c11 e1_0 (upd c1 c10 c12))))))) (.need (inR .i64 (x2_59+(1:Int))) (.go (.l2 x0_32 x1_39 e1_0 a1_2 (x2_59+(1:Int))))))) (.need (inR .i64 ((hd:Int)+(1:Int))) (.hcall 140 [iI ((hd:Int)+(1:Int)),rR (court c ks),.ref 1 0 0,.ref 2 0 0,.ref 3 0 0] (.bool (X.go c5)) [.ext X e1_0,.cells [.yld 0],.rows 130 2 4 c13,.cells c8] [.ext X c5,.cells [.yld 0],.rows 130 2 4 (rowsFn tCast c7),.cells c8] true (.br (!(X.go c5)) (.out (.r0 c5 c7 false)) (.need c9 (.need c6 (.telb 2 2 4 (fun r' j=>if r'=((hd:Int)).toNat/\0<=j/\j<0+c3.length then c3.getD (j-0) uU else(rowsFn tCast c7) r' j) (rowsFn tCast (upd c7 c10 c12)) (.need (inR .i64 c11) (.go (.l1 x0_32 c11 c5 (upd c7 c10 c12)))))))))))
noncomputable def g140(X:Ext)(tr:List V)(c:Case)(ks:List Int)(f:Nat->Cast)(hd:Nat):P140->List Item × St
 |.e=>([.code (Tryz.f140.body.getD .skip)],⟨[iI (hd:Int),rR (court c ks),.ref 1 0 0,.ref 2 0 0,.ref 3 0 0]++List.replicate 81 uU,[.ext X tr,.cells [.yld 0],.rows 130 2 4 (rowsFn tCast f),.cells [fG 140 [rR (court c ks),.ref 1 0 0,.ref 2 0 0,.ref 3 0 0]]],[]⟩)
 |.l0 x0_32 e0_0 a0_2=>(cutOf Tryz.f140 0,⟨mk 86 [(0,iI (hd:Int)),(1,rR (court c ks)),(3,.ref 2 0 0),(4,.ref 3 0 0),(30,tMould.lst c.shop.moulds),(31,iI (c.shop.moulds.length:Int)),(32,iI x0_32)],[.ext X e0_0,.cells [.yld 0],.rows 130 2 4 (rowsFn tCast a0_2),.cells [fG 140 [rR (court c ks),.ref 1 0 0,.ref 2 0 0,.ref 3 0 0]]],[]⟩)
 |.l1 x0_32 x1_39 e1_0 a1_2=>(cutOf Tryz.f140 1,⟨mk 86 [(0,iI (hd:Int)),(1,rR (court c ks)),(3,.ref 2 0 0),(4,.ref 3 0 0),(7,iI x0_32),(30,tMould.lst c.shop.moulds),(31,iI (c.shop.moulds.length:Int)),(32,iI x0_32),(38,iI ((c.shop.moulds.getD (x0_32).toNat tMould.zero).casts)),(39,iI x1_39)],[.ext X e1_0,.cells [.yld 0],.rows 130 2 4 (rowsFn tCast a1_2),.cells [fG 140 [rR (court c ks),.ref 1 0 0,.ref 2 0 0,.ref 3 0 0]]],[]⟩)
 |.l2 x0_32 x1_39 e1_0 a1_2 x2_59=>(cutOf Tryz.f140 2,⟨mk 86 [(0,iI (hd:Int)),(1,rR (court c ks)),(3,.ref 2 0 0),(4,.ref 3 0 0),(7,iI x0_32),(30,tMould.lst c.shop.moulds),(31,iI (c.shop.moulds.length:Int)),(32,iI x0_32),(38,iI ((c.shop.moulds.getD (x0_32).toNat tMould.zero).casts)),(39,iI x1_39),(58,iI c.shop.features),(59,iI x2_59)],[.ext X e1_0,.cells [.yld 0],.rows 130 2 4 (rowsFn tCast (upd a1_2 (((hd:Int)).toNat) (⟨x0_32,(x1_39+(1:Int))⟩:Cast))),.cells [fG 140 [rR (court c ks),.ref 1 0 0,.ref 2 0 0,.ref 3 0 0]]],[]⟩)
def n140(X:Ext)(tr:List V)(c:Case)(ks:List Int)(f:Nat->Cast)(hd:Nat):R140->Exit × St
 |.r0 r0 r1 r2=>(.ret,⟨mk 86 [(6,.bool r2)],[.ext X r0,.cells [.yld 0],.rows 130 2 4 (rowsFn tCast r1),.cells [fG 140 [rR (court c ks),.ref 1 0 0,.ref 2 0 0,.ref 3 0 0]]],[]⟩)
theorem s140(X:Ext)(tr:List V)(c:Case)(ks:List Int)(f:Nat->Cast)(hd:Nat):Sm 4 (g140 X tr c ks f hd) (T140 X tr c ks f hd) (n140 X tr c ks f hd)
 |.e=>⟨400,by kernel_rfl⟩
 |.l0 _ _ _=>⟨400,by kernel_rfl⟩
 |.l1 _ _ _ _=>⟨400,by kernel_rfl⟩
 |.l2 _ _ _ _ _=>⟨400,by kernel_rfl⟩
def hh140(X:Ext)(tr:List V)(c:Case)(ks:List Int)(f:Nat->Cast)(hd:Nat):R140->List Blk
 |.r0 r0 r1 r2=>[.ext X r0,.cells [.yld 0],.rows 130 2 4 (rowsFn tCast r1),.cells [fG 140 [rR (court c ks),.ref 1 0 0,.ref 2 0 0,.ref 3 0 0]]]
def v140(X:Ext)(tr:List V)(c:Case)(ks:List Int)(f:Nat->Cast)(hd:Nat):R140->V
 |.r0 r0 r1 r2=>.bool r2
theorem q140(X:Ext)(tr:List V)(c:Case)(ks:List Int)(f:Nat->Cast)(hd:Nat):∀r,((n140 X tr c ks f hd r).1=.normal\/(n140 X tr c ks f hd r).1=.ret)/\(n140 X tr c ks f hd r).2.d=[]/\(n140 X tr c ks f hd r).2.h=hh140 X tr c ks f hd r/\resultV Tryz.prog Tryz.f140 (n140 X tr c ks f hd r).2=some (v140 X tr c ks f hd r)
 |.r0 r0 r1 r2=>⟨.inr rfl,rfl,rfl,by kernel_rfl⟩
theorem w140(X:Ext)(tr:List V)(c:Case)(ks:List Int)(f:Nat->Cast)(hd:Nat){V0:V}{h':List Blk}(h:WP Tryz.prog ⟨none,4⟩ (T140 X tr c ks f hd) (Ends' fun r=>v140 X tr c ks f hd r=V0/\hh140 X tr c ks f hd r=h') .e):HCalls Tryz.prog 140 [iI (hd:Int),rR (court c ks),.ref 1 0 0,.ref 2 0 0,.ref 3 0 0] V0 [.ext X tr,.cells [.yld 0],.rows 130 2 4 (rowsFn tCast f),.cells [fG 140 [rR (court c ks),.ref 1 0 0,.ref 2 0 0,.ref 3 0 0]]] h':=
 HCalls.wp mx Tryz.func140 (by kernel_rfl) (by kernel_rfl) (T140 X tr c ks f hd) (g140 X tr c ks f hd) (n140 X tr c ks f hd) .e rfl (s140 X tr c ks f hd) h fun r hr=>by rw[<-hr.1,<-hr.2];exact q140 X tr c ks f hd r
abbrev nextV(c:Case)(ks:List Int):V:=fG 140 [rR (court c ks),.ref 1 0 0,.ref 2 0 0,.ref 3 0 0]
abbrev HN(X:Ext)(c:Case)(ks:List Int)(tr:List V)(f:Nat->Cast):List Blk:=[.ext X tr,.cells [.yld 0],.rows 130 2 4 (rowsFn tCast f),.cells [nextV c ks]]
def castsTo(s:Shop)(m n:Nat):List Cast:=(List.range m).flatMap (castsAt s)++(List.range n).map fun(k:Nat)=>⟨(m:Int),(k:Int)+1⟩
theorem castsTo_0(s:Shop):castsTo s 0 0=[]:=rfl
theorem castsTo_snoc(s:Shop)(m n:Nat):castsTo s m (n+1)=castsTo s m n++ [⟨(m:Int),(n:Int)+1⟩]:=by
 unfold castsTo;rw[List.range_succ,List.map_append];simp
theorem castsTo_row(s:Shop)(m:Nat):castsTo s m (s.moulds.getD m zMould).casts.toNat=castsTo s (m+1) 0:=by
 unfold castsTo;rw[List.range_succ,List.flatMap_append];simp[castsAt]
theorem castsTo_all(s:Shop):castsTo s s.moulds.length 0=allCasts s:=by simp[castsTo,allCasts]
theorem castsTo_part(s:Shop){m n:Nat}(hm:m<s.moulds.length)(hn:n<(s.moulds.getD m zMould).casts.toNat):∃Q,allCasts s=castsTo s m n++⟨(m:Int),(n:Int)+1⟩::Q:=by
 obtain⟨d,hd⟩:∃d,s.moulds.length=m+1+d:=⟨s.moulds.length-(m+1),by omega⟩
 obtain⟨g,hg⟩:∃g,(s.moulds.getD m zMould).casts.toNat=n+1+g:=⟨(s.moulds.getD m zMould).casts.toNat-(n+1),by omega⟩
 refine⟨(List.range g).map (fun(k:Nat)=>(⟨(m:Int),((n+1+k:Nat):Int)+1⟩:Cast))++(List.range d).flatMap fun k=>castsAt s (m+1+k),?_⟩
 have h1:allCasts s=castsTo s (m+1) 0++(List.range d).flatMap fun k=>castsAt s (m+1+k):=by
  unfold allCasts castsTo;rw[hd,List.range_add,List.flatMap_append,List.flatMap_map];simp
 have h2:castsTo s (m+1) 0=castsTo s m (n+1)++(List.range g).map (fun(k:Nat)=>(⟨(m:Int),((n+1+k:Nat):Int)+1⟩:Cast)):=by
  rw[<-castsTo_row,hg];unfold castsTo;rw[List.range_add,List.map_append,List.map_map,List.append_assoc];rfl
 rw[h1,h2,castsTo_snoc];simp
theorem VLe.pre(f:Nat->Cast)(n k:Nat)(h:k=n):VLe (.list 2 k (rowsFn tCast f)) (tCast.lst (preA f n)):=by
 subst h;have e:(preA f k).length=k:=by simp[preA]
 show VLe _ (.list 2 (preA f k).length (rowsOf tCast (preA f k)));rw[e];exact VLe.list fun i j hi _=>by simp[rowsFn,rowsOf,preA,gE,hi]
theorem tel_updK(f:Nat->Cast)(i:Nat)(a b:Int)(r j:Nat):VLe (if r=i/\0<=j/\j<0+([iI a,iI b]:List V).length then([iI a,iI b]:List V).getD (j-0) uU else rowsFn tCast f r j) (rowsFn tCast (upd f i ⟨a,b⟩) r j):=by
 rcases Nat.lt_or_ge j 2 with hj|hj
 ·exact tel_upd tCast f i ⟨a,b⟩ (n:=r+1) (w:=2) _ rfl rfl r j (by omega) hj
 ·have:rowsFn tCast (upd f i ⟨a,b⟩) r j=uU:=by
   unfold rowsFn;rw[gE,List.getElem?_eq_none (by simpa[tCast]using hj)];rfl
  rw[this];exact VLe.undef _
theorem under2(a b:Int):underL 0 [iI a,iI b]=true:=rfl
theorem vle_one(v:V)(j:Nat):VLe (([v]:List V).getD j uU) (([v]:List V).getD j uU):=VLe.refl _
theorem go_stop{α ρ:Type}{P:Program}{ro:Env}{T:α->Tr α ρ}{φ:α⊕ρ->Prop}{b:α}(h:φ (.inl b)):Ab.Go P ro T φ (.inl b):=WP.stop h
set_option maxHeartbeats 4000000 in
theorem c140(c:Case)(ks:List Int)(h:OkCase c)(X:Ext)(hY:YSpec Tryz.prog X):∀(n hd:Nat) (f:Nat->Cast) (tr:List V),hd+n=c.shop.heads.length->(∀i,hd<=i->f i=zCast)->(∀i,0<=(f i).number/\(f i).number<=4)->
  X.go tr=true->tr++ysA (leavesH c.shop hd f)<+:X.ys->HCalls Tryz.prog 140 [iI (hd:Int),rR (court c ks),.ref 1 0 0,.ref 2 0 0,.ref 3 0 0] (.bool (X.go (feed X.go tr (ysA (leavesH c.shop hd f)))))
   (HN X c ks tr f) (HN X c ks (feed X.go tr (ysA (leavesH c.shop hd f))) (endF X.go f tr (leavesH c.shop hd f)))
 |0,hd,f,tr,hn,hz,hb,hg,hp=>by
  have hh:hd=c.shop.heads.length:=by omega
  have hl:leavesH c.shop hd f=[f]:=by rw[hh];exact leavesH_end c.shop f
  rw[hl]at hp⊢;have hf:feed X.go tr (ysA [f])=tr++ [yA f]:=feed_one hg (yA f)
  have he:endF X.go f tr [f]=f:=by
   simp only[endF,hg,cond_true];cases X.go (tr++ [yA f])<;>rfl
  rw[hf,he];have hi:((hd:Int)==(c.shop.heads.length:Int))=true:=by rw[hh];simp
  have hp':tr++ [V.tuple [.arr 2 4 (rowsFn tCast f)]]<+:X.ys:=hp;refine w140 X tr c ks f hd (WP.step ?_);simp only[T140,Go,Ends',v140,Tr.sure,SS,hi];repeat' with_reducible first|intro _|apply aI
  all_goals first|exact hY|exact hp'|exact(by with_reducible exact vle_one _ _)|(simp[hh140,yA,hg,Go,Ends',v140,-List.getD_eq_getElem?_getD, *];done)
 |n+1,hd,f,tr,hn,hz,hb,hg,hp=>by
  have hlt:hd<c.shop.heads.length:=by omega
  have h4:=h.shop.nh;have hm2:=h.shop.nm;have hft:=h.shop.feat;rw[leavesH_step c.shop hlt f]at hp⊢
  obtain⟨B,hB⟩:∃B,B=belowA c.shop hd f:=⟨_,rfl⟩
  rw[<-hB]at hp⊢;have hi:((hd:Int)==(c.shop.heads.length:Int))=false:=by rw[beq_eq_false_iff_ne];omega
  obtain⟨K,hK⟩:∃K:List Cast->List V,K=fun P=>feed X.go tr (ysA (P.flatMap B)):=⟨_,rfl⟩
  have K0:K []=tr:=by rw[hK];rfl
  have Ks:∀P x,K (P++ [x])=feed X.go (K P) (ysA (B x)):=fun P x=>by
   rw[hK];simp only[List.flatMap_append,List.flatMap_cons,List.flatMap_nil,List.append_nil,ysA_app,feed_app]
  have Kp:∀P,X.go (K P)=true->K P=tr++ysA (P.flatMap B):=fun P hP=>by
   rw[hK]at hP⊢;exact feed_all hP
  have hall:feed X.go tr (ysA ((allCasts c.shop).flatMap B))=K (allCasts c.shop):=by rw[hK]
  have hd0:0<=(hd:Int):=by omega
  have hd4:(hd:Int)<4:=by omega
  have hd4':hd<4:=by omega
  have hd5:hd<=4:=by omega
  have hd5':(hd:Int)<=4:=by omega
  have hz0:f hd=zCast:=hz hd (Nat.le_refl _);rw[hall];refine w140 X tr c ks f hd (WP.step ?_);simp only[T140,Go,Ends',v140,Tr.sure,SS,hi];repeat' with_reducible first|intro _|apply aI
  refine WP.count (fun m=>.l0 m (K (castsTo c.shop m 0)) f) (by rw[castsTo_0,K0];rfl) c.shop.moulds.length (fun m=>X.go (K (castsTo c.shop m 0))=true) (by rw[castsTo_0,K0];exact hg) (fun m hm hI=> ?_) fun hI=> ?_
  ·have hr:inR .i64 ((m:Int)+1)=true:=inR64 (by omega) (by omega);have hm':(m:Int)<c.shop.moulds.length:=by omega
   have hc:=(h.shop.mould _ (getD_mem zMould c.shop.moulds m hm)).1;refine WP.step ?_;simp only[T140,Go,Ends',v140,Tr.sure,SS,hm'];repeat' with_reducible first|intro _|apply aI
   refine WP.count (fun k=>.l1 m k (K (castsTo c.shop m k)) f) rfl (c.shop.moulds.getD m zMould).casts.toNat (fun k=>X.go (K (castsTo c.shop m k))=true) hI (fun k hk hI1=> ?_) fun hI1=> ?_
   ·have hk':(k:Int)<(c.shop.moulds.getD m zMould).casts:=by omega
    have hr1:inR .i64 ((k:Int)+1)=true:=inR64 (by omega) (by omega)
    obtain⟨x,hx⟩:∃x:Cast,x=⟨(m:Int),(k:Int)+1⟩:=⟨_,rfl⟩
    have hsn:=castsTo_snoc c.shop m k;rw[<-hx]at hsn
    have hno:okA c.shop f hd x=false->K (castsTo c.shop m (k+1))=K (castsTo c.shop m k):=fun e=>by
     have:B x=[]:=by rw[hB,belowA,e];rfl
     rw[hsn,Ks,this];rfl
    have hstep:∀b:Bool,okA c.shop f hd x=false->(Sum.inl (P140.l1 m ((k:Int)+1) (K (castsTo c.shop m k)) f):P140⊕R140)=Sum.inl (P140.l1 m ((k+1:Nat):Int) (K (castsTo c.shop m (k+1))) f):=fun _ e=>by rw[hno e];rfl
    have hoff:(preA f hd).any (fun y=>sameC x y)=true->okA c.shop f hd x=false:=fun e=>by unfold okA;rw[e];rfl
    rw[hx]at hoff;have hpre:=PCalls.arg (pre:=[]) (c141 (preA f hd) x) (VLe.pre f hd hd rfl);rw[hx]at hpre;have hbk:upd (upd f hd x) hd (⟨0,0⟩:Cast)=f:=upd_back hz0 x;rw[hx]at hbk
    obtain⟨F,hF⟩:∃F:Nat,c.shop.features=F:=⟨c.shop.features.toNat,by omega⟩
    have hF':c.shop.features.toNat=F:=by omega
    have hnum:∀i,0<=(upd f hd x i).number/\(upd f hd x i).number<=4:=fun i=>by
     unfold upd;split
     ·rw[hx];simp only;omega
     ·exact hb i
    rw[hx]at hnum;refine WP.step ?_;simp only[T140,Go,Ends',v140,Tr.sure,SS,hk',hd0,hd4,hd4',z2,z5];repeat' with_reducible first|intro _|apply aI
    all_goals first|exact hpre|exact(by with_reducible exact tel_updK _ _ _ _ _ _)|exact(by with_reducible exact under2 _ _)|(simp[hr1,hd5,hd5',Go,Ends',v140,-List.getD_eq_getElem?_getD, *];done)|skip
    ·have hany:((preA f hd).any fun y=>sameC (⟨(m:Int),(k:Int)+1⟩:Cast) y)=true:=by with_reducible assumption
     have hk0:okA c.shop f hd x=false:=by rw[hx];exact hoff hany
     have hk1:X.go (K (castsTo c.shop m (k+1)))=true:=by rw[hno hk0];exact hI1
     refine WP.stop ?_;left
     exact⟨hstep true hk0,hk1⟩
    ·have hany:((preA f hd).any fun y=>sameC (⟨(m:Int),(k:Int)+1⟩:Cast) y)=false:=by with_reducible assumption
     have hokq:∀b:Bool,((List.range F).any fun(q:Nat)=>decide ((lastA c.shop (upd f hd x) m q c.shop.heads.length).hi<(lastA c.shop (upd f hd x) m q c.shop.heads.length).lo))=b->okA c.shop f hd x= !b:=fun b hb=>by
      unfold okA;rw[hF'];have e:(⟨(m:Int),(k:Int)+1⟩:Cast).mould=m:=rfl;rw[<-hx]at hany e;rw[hany,e,hb];rfl
     refine WP.anyR (fun q=>.l2 m k (K (castsTo c.shop m k)) f q) rfl F (fun q=>decide ((lastA c.shop (upd f hd x) m q c.shop.heads.length).hi<(lastA c.shop (upd f hd x) m q c.shop.heads.length).lo)) (fun q hq=> ?_) fun hQ=> ?_
     ·have hrq:inR .i64 ((q:Int)+1)=true:=inR64 (by omega) (by omega);have hq':(q:Int)<F:=by omega
      have hcall:=c142 c ks (upd f hd (⟨(m:Int),(k:Int)+1⟩:Cast)) m q h.shop hnum (by omega) (by omega);have hbad:((List.range F).any fun(q:Nat)=>decide ((lastA c.shop (upd f hd x) m q c.shop.heads.length).hi<(lastA c.shop (upd f hd x) m q c.shop.heads.length).lo))=true->okA c.shop f hd x=false:=hokq true;rw[hx]at hbad;rw[hx];refine WP.once ?_;simp only[T140,Tr.sure,SS,hq',hd0,hd4,hd4',hF];repeat' with_reducible first|intro _|apply aI
      all_goals first|exact hcall|exact(by with_reducible exact tel_updK _ _ _ _ _ _)|exact(by with_reducible exact under2 _ _)|(simp[hrq,hr1,hbk,Go,Ends',v140,-List.getD_eq_getElem?_getD, *];done)|skip
      all_goals
       right
       refine⟨by with_reducible assumption,fun hany2=> ?_⟩;have hk0:okA c.shop f hd x=false:=by rw[hx];exact hbad hany2
       have hk1:X.go (K (castsTo c.shop m (k+1)))=true:=by rw[hno hk0];exact hI1
       rw[hbk];refine go_stop ?_;left
       exact⟨hstep true hk0,hk1⟩
     ·have hok:okA c.shop f hd x=true:=hokq false hQ;have hBx:B x=leavesH c.shop (hd+1) (upd f hd x):=by rw[hB,belowA,hok];rfl
      have hKs:feed X.go (K (castsTo c.shop m k)) (ysA (leavesH c.shop (hd+1) (upd f hd x)))=K (castsTo c.shop m (k+1)):=by rw[hsn,Ks,hBx]
      obtain⟨Q,hQs⟩:=castsTo_part c.shop hm hk;rw[<-hx]at hQs
      have hpf:K (castsTo c.shop m k)++ysA (leavesH c.shop (hd+1) (upd f hd x))<+:X.ys:=by
       rw[Kp _ hI1];refine List.IsPrefix.trans ?_ hp;rw[hQs,List.flatMap_append,List.flatMap_cons,ysA_app,ysA_app,hBx,List.append_assoc];exact(List.prefix_append_right_inj tr).2 ((List.prefix_append_right_inj _).2 (List.prefix_append _ _))
      have ih:=c140 c ks h X hY n (hd+1) (upd f hd x) (K (castsTo c.shop m k)) (by omega) (fun i hi2=>by unfold upd;rw[if_neg (by omega)];exact hz i (by omega)) (by rw[hx];exact hnum) hI1 hpf;rw[hKs]at ih
      have hf0:X.go (K (castsTo c.shop m (k+1)))=true->upd (endF X.go (upd f hd x) (K (castsTo c.shop m k)) (leavesH c.shop (hd+1) (upd f hd x))) hd ⟨0,0⟩=f:=fun hgo=>by
       rw[endF_go (by rw[hKs];exact hgo),hx];exact hbk
      have hgoQ:X.go (K (castsTo c.shop m (k+1)))=false->K (allCasts c.shop)=K (castsTo c.shop m (k+1)):=fun hgo=>by
       rw[hQs,show castsTo c.shop m k++x::Q=(castsTo c.shop m k++ [x])++Q by simp,<-hsn,hK];simp only[List.flatMap_append,ysA_app,feed_app];rw[hK]at hgo;exact feed_stop hgo _
      have heQ:X.go (K (castsTo c.shop m (k+1)))=false->endF X.go f tr ((allCasts c.shop).flatMap B)=endF X.go (upd f hd x) (K (castsTo c.shop m k)) (leavesH c.shop (hd+1) (upd f hd x)):=fun hgo=>by
       have hkk:K (castsTo c.shop m k)=feed X.go tr (ysA ((castsTo c.shop m k).flatMap B)):=by rw[hK]
       rw[hQs,List.flatMap_append,List.flatMap_cons,endF_app (by rw[<-hkk];exact hI1),<-hkk,hBx];exact endF_stop _ hI1 (by rw[hKs];exact hgo)
      rw[hx]at ih hf0 heQ hKs;simp only[Int.natCast_add]at ih;have hrh:inR .i64 ((hd:Int)+1)=true:=inR64 (by omega) (by omega);refine WP.step ?_;simp only[T140,Go,Ends',v140,Tr.sure,SS,Int.lt_irrefl,hF,hKs,hd0,hd4,hd4'];repeat' with_reducible first|intro _|apply aI
      all_goals first|exact ih|exact(by with_reducible exact tel_updK _ _ _ _ _ _)|exact(by with_reducible exact under2 _ _)|(simp[hrh,Go,Ends',v140,-List.getD_eq_getElem?_getD, *];done)|skip
      ·have hgf:X.go (K (castsTo c.shop m (k+1)))=false:=by with_reducible assumption
       right;right
       rw[hgoQ hgf,heQ hgf,hgf];exact⟨rfl,rfl⟩
      ·have hgt:X.go (K (castsTo c.shop m (k+1)))=true:=by with_reducible assumption
       rw[hf0 hgt];refine WP.stop ?_;left
       exact⟨rfl,hgt⟩
   ·have hle:¬(((c.shop.moulds.getD m zMould).casts.toNat:Nat):Int)<(c.shop.moulds.getD m zMould).casts:=by omega
    have hrow:=castsTo_row c.shop m;rw[hrow]at hI1⊢;refine WP.step ?_;simp only[T140,Go,Ends',v140,Tr.sure,SS,z2,hle];repeat' with_reducible first|intro _|apply aI
    all_goals first|(simp[hr,hI1,Go,Ends',v140,-List.getD_eq_getElem?_getD, *];done)|skip
    refine WP.stop ?_;left
    exact⟨rfl,hI1⟩
  ·have hE:endF X.go f tr ((allCasts c.shop).flatMap B)=f:=endF_go (by rw[hall,<-castsTo_all];exact hI);rw[hE];rw[castsTo_all]at hI⊢;refine WP.step ?_;simp only[T140,Go,Ends',v140,Tr.sure,SS,Int.lt_irrefl];repeat' with_reducible first|intro _|apply aI
   all_goals first|(simp[hh140,hI,Go,Ends',v140,-List.getD_eq_getElem?_getD, *];done)|(simp_all [hh140,hI,Go,Ends',v140,-List.getD_eq_getElem?_getD];done)
end
noncomputable section
inductive P139
 |e
inductive R139
 |r0 (r0:List V)
def T139(X:Ext)(c:Case)(ks:List Int):P139->Tr P139 R139
 |.e=>let c1:List V:=[fG 140 [rR (court c ks),.ref 1 0 0,.ref 2 0 0,.ref 3 0 0]];(.wait 4 (.telb 2 2 4 (fun _ j=>([iI 0,iI 0]:List V).getD j uU) (rowsFn tCast (fun _=>tCast.zero)) (.hcall 140 [iI 0,rR (court c ks),.ref 1 0 0,.ref 2 0 0,.ref 3 0 0] (.bool (X.go (feed X.go ([]) (ysA (leavesH c.shop 0 (fun _=>tCast.zero)))))) [.ext X ([]),.cells [.yld 0],.rows 130 2 4 (rowsFn tCast (fun _=>tCast.zero)),.cells c1] [.ext X (feed X.go ([]) (ysA (leavesH c.shop 0 (fun _=>tCast.zero)))),.cells [.yld 0],.rows 130 2 4 (rowsFn tCast (endF X.go (fun _=>tCast.zero) ([]) (leavesH c.shop 0 (fun _=>tCast.zero)))),.cells c1] true (.out (.r0 (feed X.go ([]) (ysA (leavesH c.shop 0 (fun _=>tCast.zero)))))))))
noncomputable def g139(X:Ext)(c:Case)(ks:List Int):P139->List Item × St
 |.e=>([.code (Tryz.f139.body.getD .skip)],⟨[.yld 0,rR (court c ks)]++List.replicate 6 uU,[.ext X ([])],[]⟩)
def n139(X:Ext)(c:Case)(ks:List Int):R139->Exit × St
 |.r0 r0=>(.normal,⟨mk 8 [],[.ext X r0],[]⟩)
theorem s139(X:Ext)(c:Case)(ks:List Int):Sm 1 (g139 X c ks) (T139 X c ks) (n139 X c ks)
 |.e=>⟨400,by kernel_rfl⟩
def hh139(X:Ext)(c:Case)(ks:List Int):R139->List Blk
 |.r0 r0=>[.ext X r0]
def v139(X:Ext)(c:Case)(ks:List Int):R139->V
 |.r0 r0=>.tuple []
theorem q139(X:Ext)(c:Case)(ks:List Int):∀r,((n139 X c ks r).1=.normal\/(n139 X c ks r).1=.ret)/\(n139 X c ks r).2.d=[]/\(n139 X c ks r).2.h=hh139 X c ks r/\resultV Tryz.prog Tryz.f139 (n139 X c ks r).2=some (v139 X c ks r)
 |.r0 r0=>⟨.inl rfl,rfl,rfl,by kernel_rfl⟩
theorem w139(X:Ext)(c:Case)(ks:List Int){V0:V}{h':List Blk}(h:WP Tryz.prog ⟨none,1⟩ (T139 X c ks) (Ends' fun r=>v139 X c ks r=V0/\hh139 X c ks r=h') .e):HCalls Tryz.prog 139 [.yld 0,rR (court c ks)] V0 [.ext X ([])] h':=
 HCalls.wp mx Tryz.func139 (by kernel_rfl) (by kernel_rfl) (T139 X c ks) (g139 X c ks) (n139 X c ks) .e rfl (s139 X c ks) h fun r hr=>by rw[<-hr.1,<-hr.2];exact q139 X c ks r
def truthsA(s:Shop):List (Nat->Cast):=leavesH s 0 fun _=>zCast
theorem tel_zeroC(r j:Nat):VLe (([iI 0,iI 0]:List V).getD j uU) (rowsFn tCast (fun _=>zCast) r j):=VLe.refl _
theorem c139(c:Case)(ks:List Int)(h:OkCase c):Iter Tryz.prog 139 [rR (court c ks)] (ysA (truthsA c.shop)):=by
 intro X hX hY hg;refine⟨.tuple [],?_⟩;have ih:=c140 c ks h X hY c.shop.heads.length 0 (fun _=>zCast) [] (by omega) (fun _ _=>rfl) (fun _=>by simp[zCast]) hg (by rw[List.nil_append,hX];exact List.prefix_refl _);simp only[Int.natCast_zero]at ih;refine w139 X c ks (WP.step ?_);simp only[T139,Go,Ends',v139,Tr.sure,SS,z5];repeat' with_reducible first|intro _|apply aI
 all_goals first|exact ih|exact(by with_reducible exact tel_zeroC _ _)|(simp[hh139,truthsA,Go,Ends',v139,-List.getD_eq_getElem?_getD, *];done)
inductive P94
 |e
inductive R94
 |r0 (r0_c0_0c:Case) (r0_c0_0s:List Int)
def T94(ks:List Int)(c:Case):P94->Tr P94 R94
 |.e=>(.out (.r0 c ks))
noncomputable def g94(ks:List Int)(c:Case):P94->List Item × St
 |.e=>bd Tryz.f94 [court c ks] 3
def n94:R94->Exit × St
 |.r0 r0_c0_0c r0_c0_0s=>(.ret,⟨mk 4 [(2,fG 139 [.ref 0 0 0])],[.cells [court r0_c0_0c r0_c0_0s]],[]⟩)
def v94:R94->V
 |.r0 r0_c0_0c r0_c0_0s=>fG 139 [rR (court r0_c0_0c r0_c0_0s)]
theorem s94(ks:List Int)(c:Case):Sm 0 (g94 ks c) (T94 ks c) (n94)
 |.e=>⟨400,by kernel_rfl⟩
theorem q94:∀r,bodyQ Tryz.prog Tryz.f94 (·=v94 r) (n94 r).1 (n94 r).2
 |.r0 r0_c0_0c r0_c0_0s=>⟨.inr rfl,by simp[n94],(fG 139 [.ref 0 0 0]),(fG 139 [rR (court r0_c0_0c r0_c0_0s)]),by kernel_rfl,(.func rfl rfl (by intro j hj;exact absurd hj (by simp)) (by intro j hj;match j,hj with|0,_=>exact .weak (.ref (n:=1) rfl (Nat.le_refl _) (by intro j hj;match j,hj with|0,_=>exact .imm rfl)) (VLe.refl _))),rfl⟩
theorem w94(ks:List Int)(c:Case){post:V->Prop}(h:WQ (T94 ks c) v94 post .e):PC 94 [court c ks] post:=
 PCalls.wq Tryz.func94 (s94 ks c) q94 h
theorem c94(c:Case)(ks:List Int):PC 94 [court c ks] (·=fG 139 [rR (court c ks)]):=by
 refine w94 ks c (WP.step ?_);simp only[T94,Go,Ends',v94,Tr.sure,SS];repeat' with_reducible first|intro _|apply aI
end
noncomputable section
def courtN(c:Case):V:=.cref 30 fun q=>(tCase.cells c++kindCells++ [V.nils]).getD q uU
def asgOf:Code->Code
 |.rangeFunc _ _ a _=>a
 |_=>.skip
def bdyOf:Code->Code
 |.rangeFunc _ _ _ b=>b
 |_=>.skip
inductive P97a
 |e
inductive R97a
 |r0 (r0:List (Int × Int)) (r1:Nat->Cast) (r2:Nat->Cast)
def T97a(x:Case)(M:List (Int × Int))(last:Nat->Cast)(l:Nat->Cast):P97a->Tr P97a R97a
 |.e=>(.out (.r0 M last l))
noncomputable def g97a(x:Case)(M:List (Int × Int))(last:Nat->Cast)(l:Nat->Cast):P97a->List Item × St
 |.e=>([.code (asgOf (rangeOf Tryz.f97))],⟨[uU,uU,uU,rR (courtN x),.ref 4 0 0,.ref 5 0 0,uU,uU,uU,uU,uU,uU,uU,uU,uU,uU,fG 139 [rR (courtN x)],.arr 2 4 (rowsFn tCast l),uU,uU,uU,uU,uU,uU,uU,uU,uU,uU,uU,uU,uU,uU,uU,uU,uU,uU,uU,uU,uU,uU,uU,uU,uU,uU,uU,uU,uU,uU,uU,uU,uU,uU,uU,uU,uU,uU,uU,uU,uU,uU,uU,uU],[.gone,.gone,.gone,.obj (mobj M),.cells [.map 3],.rows 130 2 4 (rowsFn tCast last),.gone],[]⟩)
def n97a(x:Case)(M:List (Int × Int))(last:Nat->Cast)(l:Nat->Cast):R97a->Exit × St
 |.r0 r0 r1 r2=>(.normal,⟨mk 62 [(3,rR (courtN x)),(4,.ref 4 0 0),(5,.ref 5 0 0),(6,.ref 7 0 0)],[.gone,.gone,.gone,.obj (mobj r0),.cells [.map 3],.rows 130 2 4 (rowsFn tCast r1),.gone,.rows 130 2 4 (rowsFn tCast r2)],[]⟩)
theorem s97a(x:Case)(M:List (Int × Int))(last:Nat->Cast)(l:Nat->Cast):Sm 7 (g97a x M last l) (T97a x M last l) (n97a x M last l)
 |.e=>⟨400,by kernel_rfl⟩
inductive P97b
 |e
 |l0 (x0_31:Int) (o0_3:List (Int × Int))
inductive R97b
 |r0 (r0:List (Int × Int)) (r1:Nat->Cast)
def T97b(x:Case)(M:List (Int × Int))(last:Nat->Cast)(l:Nat->Cast):P97b->Tr P97b R97b
 |.e=>let c1:List Blk:=[.gone,.gone,.gone,.obj (mobj M),.cells [.map 3],.rows 130 2 4 (rowsFn tCast last),.gone,.rows 130 2 4 (rowsFn tCast l)];let c2:Tr P97b R97b:=.call 144 [courtN x,.arr 2 4 (rowsFn tCast l)] (tint.lst (casesA x l)) true true (.go (.l0 0 M));(.sem (opAt Tryz.f97 6 2) [(.tmp 18,.arr 2 4 (rowsFn tCast l)),(.tmp 19,.arr 2 4 (rowsFn tCast last))] c1 (.bool (eqC l last)) c1 true (.br (eqC l last) (.sem (opAt Tryz.f97 6 5) [(.tmp 22,.map 3)] c1 (iI (M.length:Int)) c1 true (.br (decide ((M.length:Int)>(0:Int))) (.out (.r0 M last)) c2)) (.lit false c2)))
 |.l0 x0_31 o0_3=>let c1:=(casesA x l).getD (x0_31).toNat tint.zero;let c2:List Blk:=[.gone,.gone,.gone,.obj (mobj o0_3),.cells [.map 3],.rows 130 2 4 (rowsFn tCast l),.gone];let c3:=(getM o0_3 c1)+(1:Int);let c4:=x0_31<(((casesA x l).length):Int);(.br (decide c4) (.need (decide (0<=x0_31)&&decide c4) (.sem (opAt Tryz.f97 11 2) [(.tmp 35,.map 3),(.tmp 36,iI c1)] c2 (iI (getM o0_3 c1)) c2 true (.need (inR .i64 c3) (.sem (opAt Tryz.f97 11 4) [(.tmp 35,.map 3),(.tmp 36,iI c1),(.tmp 38,iI c3)] c2 (uU) [.gone,.gone,.gone,.obj (mobj (setM o0_3 c1 c3)),.cells [.map 3],.rows 130 2 4 (rowsFn tCast l),.gone] true (.need (inR .i64 (x0_31+(1:Int))) (.go (.l0 (x0_31+(1:Int)) (setM o0_3 c1 c3)))))))) (.out (.r0 o0_3 l)))
noncomputable def g97b(x:Case)(M:List (Int × Int))(last:Nat->Cast)(l:Nat->Cast):P97b->List Item × St
 |.e=>([.code (bdyOf (rangeOf Tryz.f97))],⟨[uU,uU,uU,rR (courtN x),.ref 4 0 0,.ref 5 0 0,.ref 7 0 0,uU,uU,uU,uU,uU,uU,uU,uU,uU,uU,uU,uU,uU,uU,uU,uU,uU,uU,uU,uU,uU,uU,uU,uU,uU,uU,uU,uU,uU,uU,uU,uU,uU,uU,uU,uU,uU,uU,uU,uU,uU,uU,uU,uU,uU,uU,uU,uU,uU,uU,uU,uU,uU,uU,uU],[.gone,.gone,.gone,.obj (mobj M),.cells [.map 3],.rows 130 2 4 (rowsFn tCast last),.gone,.rows 130 2 4 (rowsFn tCast l)],[]⟩)
 |.l0 x0_31 o0_3=>((cuts [] (bdyOf (rangeOf Tryz.f97))).getD 0 [],⟨mk 62 [(4,.ref 4 0 0),(29,tint.lst (casesA x l)),(30,iI (((casesA x l).length):Int)),(31,iI x0_31)],[.gone,.gone,.gone,.obj (mobj o0_3),.cells [.map 3],.rows 130 2 4 (rowsFn tCast l),.gone],[]⟩)
def n97b(x:Case)(M:List (Int × Int))(last:Nat->Cast)(l:Nat->Cast):R97b->Exit × St
 |.r0 r0 r1=>(.normal,⟨mk 62 [],[.gone,.gone,.gone,.obj (mobj r0),.cells [.map 3],.rows 130 2 4 (rowsFn tCast r1),.gone],[]⟩)
theorem s97b(x:Case)(M:List (Int × Int))(last:Nat->Cast)(l:Nat->Cast):Sm 7 (g97b x M last l) (T97b x M last l) (n97b x M last l)
 |.e=>⟨400,by kernel_rfl⟩
 |.l0 _ _=>⟨400,by kernel_rfl⟩
theorem courtN_le(c:Case):VLe (courtN c) (court c []):=VLe.cref fun j hj=>by
 rcases Nat.lt_or_ge j 29 with q|q
 ·have e:∀v:V,(tCase.cells c++kindCells++ [v]).getD j uU=(tCase.cells c++kindCells).getD j uU:=fun v=>getD_append_left q;rw[e];unfold courtCells;rw[e];exact VLe.refl _
 ·have e:j=29:=by omega
  subst e;exact VLe.nils
theorem c144N(x:Case)(h:OkCase x)(f:Nat->Cast)(hf:∀i,0<=(f i).number/\(f i).number<=4):PC 144 [courtN x,.arr 2 4 (rowsFn tCast f)] (·=tint.lst (casesA x f)):=PCalls.arg (pre:=[]) (c144 x [] f h hf) (courtN_le x)
def cells8(f:Nat->Cast):List V:=[iI (f 0).mould,iI (f 0).number,iI (f 1).mould,iI (f 1).number,iI (f 2).mould,iI (f 2).number,iI (f 3).mould,iI (f 3).number]
theorem arr_cells8(f:Nat->Cast):VLe (.arr 2 4 (rowsFn tCast f)) (.agg (cells8 f)):=VLe.arrAgg rfl fun j hj=>match j,hj with
 |0,_=>rfl|1,_=>rfl|2,_=>rfl|3,_=>rfl|4,_=>rfl|5,_=>rfl|6,_=>rfl|7,_=>rfl
theorem sem_eqC(h:List Blk)(f g:Nat->Cast):SemOK Tryz.prog (opAt Tryz.f97 6 2) [(.tmp 18,.arr 2 4 (rowsFn tCast f)),(.tmp 19,.arr 2 4 (rowsFn tCast g))] h (.bool (eqC f g)) h:=
 sem_weak [(18,.agg (cells8 f)),(19,.agg (cells8 g))] (fun p hp=>by
  simp only[List.mem_cons,List.not_mem_nil,or_false]at hp;rcases hp with rfl|rfl
  ·exact⟨_,by simp,arr_cells8 f⟩
  ·exact⟨_,by simp,arr_cells8 g⟩) (by kernel_rfl)
theorem sem_lookM(h:List Blk)(M:List (Int × Int))(k:Int)(hq:h[3]? =some (.obj (mobj M))):SemOK Tryz.prog (opAt Tryz.f97 11 2) [(.tmp 35,.map 3),(.tmp 36,iI k)] h (iI (getM M k)) h:=by
 have e:opAt Tryz.f97 11 2=.lookup 188 (.tmp 35) (.tmp 36) false:=by kernel_rfl
 rw[e];exact sem_lookup (kt:=3) (et:=3) (by kernel_rfl) (by kernel_rfl) (by kernel_rfl) hq
theorem sem_updM(h:List Blk)(M:List (Int × Int))(k v:Int)(hq:h[3]? =some (.obj (mobj M))):SemOK Tryz.prog (opAt Tryz.f97 11 4) [(.tmp 35,.map 3),(.tmp 36,iI k),(.tmp 38,iI v)] h uU (h.set 3 (.obj (mobj (setM M k v)))):=by
 have e:opAt Tryz.f97 11 4=.mapUpdate 188 (.tmp 35) (.tmp 36) (.tmp 38):=by kernel_rfl
 rw[e];exact sem_update (kt:=3) (et:=3) (by kernel_rfl) (by kernel_rfl) hq
theorem sem_lenM(h:List Blk)(M:List (Int × Int))(hq:h[3]? =some (.obj (mobj M))):SemOK Tryz.prog (opAt Tryz.f97 6 5) [(.tmp 22,.map 3)] h (iI (M.length:Int)) h:=by
 have e:opAt Tryz.f97 6 5=.call {callee:=.builtin .len,args:= #[.tmp 22],argTypes:= #[188]}:=by kernel_rfl
 rw[e];exact sem_lenMap (kt:=3) (et:=3) (by kernel_rfl) hq
abbrev TL97(x:Case):List V:=[uU,uU,uU,rR (courtN x),.ref 4 0 0,.ref 5 0 0]++List.replicate 10 uU++ [fG 139 [rR (courtN x)]]++List.replicate 45 uU
abbrev H97(p:MC):List Blk:=[.gone,.gone,.gone,.obj (mobj p.1),.cells [.map 3],.rows 130 2 4 (rowsFn tCast p.2),.gone]
set_option maxHeartbeats 1000000 in
theorem round97(x:Case)(h:OkCase x)(lid:Nat)(p:MC)(f:Nat->Cast)(hf:∀i,0<=(f i).number/\(f i).number<=4)(hb:∀s,0<=getM p.1 s/\getM p.1 s<=1000000000000):
  AWP Tryz.prog ⟨some lid,7⟩ (asgOf (rangeOf Tryz.f97)) ⟨setPs [17] [.arr 2 4 (rowsFn tCast f)] (TL97 x),H97 p,[]⟩ fun e S1=>e=.normal/\noExt S1.h=true/\
   AWP Tryz.prog ⟨some lid,7⟩ (bdyOf (rangeOf Tryz.f97)) S1 fun e S2=>e=.normal/\S2.h=H97 (roundM x p f):=by
 obtain⟨M,last⟩:=p;refine AWP.wp mx (T97a x M last f) (g97a x M last f) (n97a x M last f) .e rfl (s97a x M last f) (post:=fun r=>r=.r0 M last f) ?_ (fun r hr=> ?_)
 ·refine WP.step ?_;simp only[T97a,Go,Ends',Tr.sure,SS,z5];repeat' with_reducible first|intro _|apply aI
 ·subst hr;refine⟨rfl,rfl,?_⟩
  have hlen:(casesA x f).length<=5764801:=Nat.le_trans (mouldA_le h.shop f _ (Nat.le_refl _)) (by
   have:=h.shop.nm
   rcases show x.shop.moulds.length=0\/x.shop.moulds.length=1\/x.shop.moulds.length=2 by omega with e|e|e<;>rw[e]<;>decide)
  refine AWP.wp mx (T97b x M last f) (g97b x M last f) (n97b x M last f) .e rfl (s97b x M last f) (post:=fun r=>r=.r0 (roundM x (M,last) f).1 (roundM x (M,last) f).2) ?_ (fun r hr=>by subst hr;exact⟨rfl,rfl⟩);have hc:=c144N x h f hf
  have main:roundM x (M,last) f=(countM (casesA x f) M,f)->WP Tryz.prog ⟨some lid,7⟩ (T97b x M last f) (Ends' fun r=>r=.r0 (roundM x (M,last) f).1 (roundM x (M,last) f).2) (.l0 0 M):=fun e=>by
   rw[e];refine WP.run (fun i=>.l0 i (countM ((casesA x f).take i) M)) rfl (casesA x f).length (fun i hi=> ?_) ?_
   ·have hr:inR .i64 ((i:Int)+1)=true:=inR64 (by omega) (by omega);have hi':(i:Int)<(casesA x f).length:=by omega
    have hg:=countM_le ((casesA x f).take i) M 1000000000000 hb ((casesA x f).getD i 0);have hl2:((casesA x f).take i).length<=5764801:=by rw[List.length_take];omega
    have hr2:inR .i64 (getM (countM ((casesA x f).take i) M) ((casesA x f).getD i 0)+1)=true:=inR64 (by omega) (by omega);have ht:=countM_take (casesA x f) M hi;rw[ht];refine WP.once ?_;simp only[T97b,Tr.sure,SS,hi',hi,z1];repeat' with_reducible first|intro _|apply aI
    all_goals first|exact(sem_lookM _ _ _ rfl)|exact(sem_updM _ _ _ _ rfl)|(simp[hr,hr2,Go,Ends',-List.getD_eq_getElem?_getD, *];done)
   ·rw[List.take_length];refine WP.step ?_;simp only[T97b,Go,Ends',Tr.sure,SS,Int.lt_irrefl];repeat' with_reducible first|intro _|apply aI
  refine WP.step ?_;simp only[T97b,Go,Ends',Tr.sure,SS];repeat' with_reducible first|intro _|apply aI
  all_goals first|exact(sem_eqC _ _ _)|exact(sem_lenM _ _ rfl)|exact hc|skip
  all_goals first
   |(refine main ?_;unfold roundM;rw[if_neg];simp only;rintro⟨h1,h2⟩;simp_all;done)
   |(have e:roundM x (M,last) f=(M,last):=by
      unfold roundM;rw[if_pos];simp only;constructor<;>first|assumption|omega
     rw[e])
end
noncomputable section
def regionOf(fn:Func)(id:Nat):Code:=.region id ((regOf id (fn.body.getD .skip)).getD #[]) true
def ops16:Array Oper:=(regOf 16 (Tryz.f97.body.getD .skip)).getD #[]
def dep(ops:Array Oper)(i j:Nat):Bool:=match ops[i]? with|some o=>o.after.any (fun e=>e.on==j&&Region.binds .any e)|none=>false
theorem dep_ready{ops:Array Oper}{l:Array Bool}{i j:Nat}(hd:dep ops i j=true)(hr:i∈Region.ready .any ops l):l.getD j false=true:=by
 unfold dep at hd;split at hd
 ·rename_i o ho;obtain⟨e,he,hq⟩:=Array.any_eq_true'.1 hd;rw[Bool.and_eq_true,beq_iff_eq]at hq;have:=ready_dep hr ho e he hq.2;rwa[hq.1]at this
 ·cases hd
theorem dep_closed{ops:Array Oper}{l:Array Bool}{i j:Nat}(hd:dep ops i j=true)(hc:Closed ops l)(hi:l.getD i false=true):l.getD j false=true:=by
 unfold dep at hd;split at hd
 ·rename_i o ho;obtain⟨e,he,hq⟩:=Array.any_eq_true'.1 hd;rw[Bool.and_eq_true,beq_iff_eq]at hq;have:=hc i hi o ho e he hq.2;rwa[hq.1]at this
 ·cases hd
abbrev cellsC(x:Case)(v:V):List V:=tCase.cells x++kindCells++ [v]
abbrev st16(x:Case)(a:List Int)(k:Int)(k2:Int)(M:List (Int × Int))(N:Nat)(seen:Array Nat)(c0 c1 c2 c3 c4 c5 c6 c7:Bool):St:=
 ⟨[uU,uU,uU,.ref 2 0 0,uU,uU,uU,uU,uU,iI k]++List.replicate 31 uU++ [.ref 8 0 0,.tuple [.bool true,iI k,iI k2],.bool true,.tuple [iI k,iI k2],iI k,
   bif c0 then .ref 1 0 0 else uU,bif c1 then .ref 1 0 0 else uU,bif c2 then .ref 1 0 0 else uU,bif c3 then .ref 1 0 29 else uU,
   bif c4 then(bif c7 then uU else .row 9 a.length)else uU,bif c5 then iI k else uU,bif c6 then .row 10 1 else uU,bif c7 then .row 9 (a.length+1)else uU]++List.replicate 8 uU,
  [.gone,.cells (cellsC x (bif c7 then uU else .row 9 a.length)),.cells [.ref 1 0 0],.obj (mobj M),.gone,.gone,.gone,.obj (.deferred (some [])),.iter (.map 3) N seen,bif c7 then .rows 3 1 (a.length+1) (rowsRev tint (k::a))else .rows 3 1 a.length (rowsRev tint a)]++
   (bif c6 then[.rows 3 1 1 (litC 1 1 [iI k])]else[]),[7]⟩
section
variable (x:Case) (a:List Int) (k:Int) (k2:Int) (M:List (Int × Int)) (N:Nat) (seen:Array Nat)
theorem dobj(c0 c1 c2 c3 c4 c5 c6 c7:Bool):∀j,j∈(st16 x a k k2 M N seen c0 c1 c2 c3 c4 c5 c6 c7).d->∃o,(st16 x a k k2 M N seen c0 c1 c2 c3 c4 c5 c6 c7).h[j]? =some (.obj o):=fun j hj=>by
 have:j=7:=by simpa using hj
 subst this;exact⟨_,rfl⟩
theorem step16_0(c1 c2 c3 c4 c5 c6 c7:Bool):AStep Tryz.prog ⟨none,0⟩ ops16 0 (st16 x a k k2 M N seen false c1 c2 c3 c4 c5 c6 c7) (st16 x a k k2 M N seen true c1 c2 c3 c4 c5 c6 c7):=
 AStep.of_ops (AOps.run [0] [] _ (st16 x a k k2 M N seen true c1 c2 c3 c4 c5 c6 c7) true (by kernel_rfl) (dobj _ _ _ _ _ _ _ _ _ _ _ _ _ _ _) (AOps.nil ⟨rfl,rfl⟩))
theorem step16_1(c0 c2 c3 c4 c5 c6 c7:Bool):AStep Tryz.prog ⟨none,0⟩ ops16 1 (st16 x a k k2 M N seen c0 false c2 c3 c4 c5 c6 c7) (st16 x a k k2 M N seen c0 true c2 c3 c4 c5 c6 c7):=
 AStep.of_ops (AOps.run [1] [] _ (st16 x a k k2 M N seen c0 true c2 c3 c4 c5 c6 c7) true (by kernel_rfl) (dobj _ _ _ _ _ _ _ _ _ _ _ _ _ _ _) (AOps.nil ⟨rfl,rfl⟩))
theorem step16_2(c0 c3 c4 c5 c6 c7:Bool):AStep Tryz.prog ⟨none,0⟩ ops16 2 (st16 x a k k2 M N seen c0 true false c3 c4 c5 c6 c7) (st16 x a k k2 M N seen c0 true true c3 c4 c5 c6 c7):=
 AStep.of_ops (AOps.run [2] [] _ (st16 x a k k2 M N seen c0 true true c3 c4 c5 c6 c7) true (by kernel_rfl) (dobj _ _ _ _ _ _ _ _ _ _ _ _ _ _ _) (AOps.nil ⟨rfl,rfl⟩))
theorem step16_3(c0 c1 c4 c5 c6 c7:Bool):AStep Tryz.prog ⟨none,0⟩ ops16 3 (st16 x a k k2 M N seen c0 c1 true false c4 c5 c6 c7) (st16 x a k k2 M N seen c0 c1 true true c4 c5 c6 c7):=
 AStep.of_ops (AOps.run [3] [] _ (st16 x a k k2 M N seen c0 c1 true true c4 c5 c6 c7) true (by kernel_rfl) (dobj _ _ _ _ _ _ _ _ _ _ _ _ _ _ _) (AOps.nil ⟨rfl,rfl⟩))
theorem step16_4(c0 c1 c2 c5 c6 c7:Bool):AStep Tryz.prog ⟨none,0⟩ ops16 4 (st16 x a k k2 M N seen c0 c1 c2 true false c5 c6 c7) (st16 x a k k2 M N seen c0 c1 c2 true true c5 c6 c7):=
 AStep.of_ops (AOps.run [4] [] _ (st16 x a k k2 M N seen c0 c1 c2 true true c5 c6 c7) true (by kernel_rfl) (dobj _ _ _ _ _ _ _ _ _ _ _ _ _ _ _) (AOps.nil ⟨rfl,rfl⟩))
theorem step16_5(c0 c1 c2 c3 c4 c6 c7:Bool):AStep Tryz.prog ⟨none,0⟩ ops16 5 (st16 x a k k2 M N seen c0 c1 c2 c3 c4 false c6 c7) (st16 x a k k2 M N seen c0 c1 c2 c3 c4 true c6 c7):=
 AStep.of_ops (AOps.run [5] [] _ (st16 x a k k2 M N seen c0 c1 c2 c3 c4 true c6 c7) true (by kernel_rfl) (dobj _ _ _ _ _ _ _ _ _ _ _ _ _ _ _) (AOps.nil ⟨rfl,rfl⟩))
theorem step16_6(c0 c1 c2 c3 c4 c7:Bool):AStep Tryz.prog ⟨none,0⟩ ops16 6 (st16 x a k k2 M N seen c0 c1 c2 c3 c4 true false c7) (st16 x a k k2 M N seen c0 c1 c2 c3 c4 true true c7):=
 AStep.of_ops (AOps.run [6] [] _ (st16 x a k k2 M N seen c0 c1 c2 c3 c4 true true c7) true (by kernel_rfl) (dobj _ _ _ _ _ _ _ _ _ _ _ _ _ _ _) (AOps.nil ⟨rfl,rfl⟩))
theorem step16_7(hk:a.length+1<=4294967296)(c0:Bool):AStep Tryz.prog ⟨none,0⟩ ops16 7 (st16 x a k k2 M N seen c0 true true true true true true false) (st16 x a k k2 M N seen c0 true true true true true true true):=by
 have hob:((decide (a.length=a.length)&&decide (a.length+1<=4294967296))&&decide (1<=1))=true:=by simp[hk]
 cases c0
 ·exact AStep.of_ops (AOps.append (t:=26) (s:=.tmp 50) (x:=.tmp 52) (S1:={st16 x a k k2 M N seen false true true true true true true true with t:=(st16 x a k k2 M N seen false true true true true true true true).t.set 53 uU}) (v:=.row 9 (a.length+1)) (p:=fun _=>true) (o:=(ops16[7]?).getD default) (by kernel_rfl) (by kernel_rfl) (by kernel_rfl) (by kernel_rfl) hob (fun _=>rfl) (AOps.nil ⟨rfl,rfl⟩))
 ·exact AStep.of_ops (AOps.append (t:=26) (s:=.tmp 50) (x:=.tmp 52) (S1:={st16 x a k k2 M N seen true true true true true true true true with t:=(st16 x a k k2 M N seen true true true true true true true true).t.set 53 uU}) (v:=.row 9 (a.length+1)) (p:=fun _=>true) (o:=(ops16[7]?).getD default) (by kernel_rfl) (by kernel_rfl) (by kernel_rfl) (by kernel_rfl) hob (fun _=>rfl) (AOps.nil ⟨rfl,rfl⟩))
abbrev fin16:St:=
 ⟨[uU,uU,uU,.ref 2 0 0,uU,uU,uU,uU,uU,iI k]++List.replicate 31 uU++ [.ref 8 0 0,.tuple [.bool true,iI k,iI k2],.bool true,.tuple [iI k,iI k2],iI k,
   .ref 1 0 0,.ref 1 0 0,.ref 1 0 0,.ref 1 0 29,uU,iI k,.row 10 1,.row 9 (a.length+1),.ref 1 0 0,.ref 1 0 29]++List.replicate 6 uU,
  [.gone,.cells (cellsC x (.row 9 (a.length+1))),.cells [.ref 1 0 0],.obj (mobj M),.gone,.gone,.gone,.obj (.deferred (some [])),.iter (.map 3) N seen,.rows 3 1 (a.length+1) (rowsRev tint (k::a)),.rows 3 1 1 (litC 1 1 [iI k])],[7]⟩
theorem getD_same{l:Array Bool}{i:Nat}(h:i<l.size):(l.setIfInBounds i true).getD i false=true:=by simp[h]
theorem over16(hk:a.length+1<=4294967296):AWP Tryz.prog ⟨none,0⟩ (regionOf Tryz.f97 16) (st16 x a k k2 M N seen false false false false false false false false) (fun e T=>e=.normal/\T=fin16 x a k k2 M N seen):=by
 have hsz:ops16.size=11:=by kernel_rfl
 have d21:dep ops16 2 1=true:=by kernel_rfl
 have d32:dep ops16 3 2=true:=by kernel_rfl
 have d43:dep ops16 4 3=true:=by kernel_rfl
 have d65:dep ops16 6 5=true:=by kernel_rfl
 have d74:dep ops16 7 4=true:=by kernel_rfl
 have d76:dep ops16 7 6=true:=by kernel_rfl
 refine AWP.region_anyC (ops:=ops16) 8 mx (by kernel_rfl) (by omega) (fun j h1 h2=> ?_) (fun l=>st16 x a k k2 M N seen (l.getD 0 false) (l.getD 1 false) (l.getD 2 false) (l.getD 3 false) (l.getD 4 false) (l.getD 5 false) (l.getD 6 false) (l.getD 7 false))
  (fun β G K a w r=>⟨β,Homes.le_refl _,?_⟩) (fun l i hl hi hli hj hc hr=> ?_) (fun l hl h1 h2=> ?_)
 ·rw[hsz]at h2;rcases show j=8\/j=9\/j=10 by omega with e|e|e<;>subst e<;>kernel_rfl
 ·rw[hsz];exact r
 ·have hs:∀q,q<8->q<l.size:=fun q hq=>by omega
  rcases show i=0\/i=1\/i=2\/i=3\/i=4\/i=5\/i=6\/i=7 by omega with e|e|e|e|e|e|e|e<;>subst e
  ·simp only[getD_same (hs 0 (by omega)),getD_set_ne false (show 0≠1 by decide),getD_set_ne false (show 0≠2 by decide),getD_set_ne false (show 0≠3 by decide),getD_set_ne false (show 0≠4 by decide),getD_set_ne false (show 0≠5 by decide),getD_set_ne false (show 0≠6 by decide),getD_set_ne false (show 0≠7 by decide),hli];exact step16_0 _ _ _ _ _ _ _ _ _ _ _ _ _ _
  ·simp only[getD_same (hs 1 (by omega)),getD_set_ne false (show 1≠0 by decide),getD_set_ne false (show 1≠2 by decide),getD_set_ne false (show 1≠3 by decide),getD_set_ne false (show 1≠4 by decide),getD_set_ne false (show 1≠5 by decide),getD_set_ne false (show 1≠6 by decide),getD_set_ne false (show 1≠7 by decide),hli];exact step16_1 _ _ _ _ _ _ _ _ _ _ _ _ _ _
  ·have g1:=dep_ready d21 hr;simp only[getD_same (hs 2 (by omega)),getD_set_ne false (show 2≠0 by decide),getD_set_ne false (show 2≠1 by decide),getD_set_ne false (show 2≠3 by decide),getD_set_ne false (show 2≠4 by decide),getD_set_ne false (show 2≠5 by decide),getD_set_ne false (show 2≠6 by decide),getD_set_ne false (show 2≠7 by decide),hli,g1];exact step16_2 _ _ _ _ _ _ _ _ _ _ _ _ _
  ·have g1:=dep_ready d32 hr;simp only[getD_same (hs 3 (by omega)),getD_set_ne false (show 3≠0 by decide),getD_set_ne false (show 3≠1 by decide),getD_set_ne false (show 3≠2 by decide),getD_set_ne false (show 3≠4 by decide),getD_set_ne false (show 3≠5 by decide),getD_set_ne false (show 3≠6 by decide),getD_set_ne false (show 3≠7 by decide),hli,g1];exact step16_3 _ _ _ _ _ _ _ _ _ _ _ _ _
  ·have g1:=dep_ready d43 hr;simp only[getD_same (hs 4 (by omega)),getD_set_ne false (show 4≠0 by decide),getD_set_ne false (show 4≠1 by decide),getD_set_ne false (show 4≠2 by decide),getD_set_ne false (show 4≠3 by decide),getD_set_ne false (show 4≠5 by decide),getD_set_ne false (show 4≠6 by decide),getD_set_ne false (show 4≠7 by decide),hli,g1];exact step16_4 _ _ _ _ _ _ _ _ _ _ _ _ _
  ·simp only[getD_same (hs 5 (by omega)),getD_set_ne false (show 5≠0 by decide),getD_set_ne false (show 5≠1 by decide),getD_set_ne false (show 5≠2 by decide),getD_set_ne false (show 5≠3 by decide),getD_set_ne false (show 5≠4 by decide),getD_set_ne false (show 5≠6 by decide),getD_set_ne false (show 5≠7 by decide),hli];exact step16_5 _ _ _ _ _ _ _ _ _ _ _ _ _ _
  ·have g1:=dep_ready d65 hr;simp only[getD_same (hs 6 (by omega)),getD_set_ne false (show 6≠0 by decide),getD_set_ne false (show 6≠1 by decide),getD_set_ne false (show 6≠2 by decide),getD_set_ne false (show 6≠3 by decide),getD_set_ne false (show 6≠4 by decide),getD_set_ne false (show 6≠5 by decide),getD_set_ne false (show 6≠7 by decide),hli,g1];exact step16_6 _ _ _ _ _ _ _ _ _ _ _ _ _
  ·have g4:=dep_ready d74 hr;have g6:=dep_ready d76 hr;have g5:=dep_closed d65 hc g6;have g3:=dep_closed d43 hc g4;have g2:=dep_closed d32 hc g3;have g1:=dep_closed d21 hc g2;simp only[getD_same (hs 7 (by omega)),getD_set_ne false (show 7≠0 by decide),getD_set_ne false (show 7≠1 by decide),getD_set_ne false (show 7≠2 by decide),getD_set_ne false (show 7≠3 by decide),getD_set_ne false (show 7≠4 by decide),getD_set_ne false (show 7≠5 by decide),getD_set_ne false (show 7≠6 by decide),hli,g1,g2,g3,g4,g5,g6]
   exact step16_7 _ _ _ _ _ _ _ hk _
 ·rw[hsz];simp only[h1 0 (by omega),h1 1 (by omega),h1 2 (by omega),h1 3 (by omega),h1 4 (by omega),h1 5 (by omega),h1 6 (by omega),h1 7 (by omega)];exact AOps.run [8,9,10] [] _ (fin16 x a k k2 M N seen) true (by kernel_rfl) (dobj _ _ _ _ _ _ _ _ _ _ _ _ _ _ _) (AOps.nil ⟨rfl,rfl⟩)
end
end
end Go.Proofs.YtdamoemndifpmaaGreat
