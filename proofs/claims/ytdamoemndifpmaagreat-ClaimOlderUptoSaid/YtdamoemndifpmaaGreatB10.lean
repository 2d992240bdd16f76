/-
  Part of the proof of the Claim laws. Conditions: those that stand in each theorem.
-/
import Derived.Test.YtdamoemndifpmaaGreatB09
set_option linter.unusedSimpArgs false
set_option linter.unusedVariables false
set_option maxRecDepth 100000
namespace Go.Proofs.YtdamoemndifpmaaGreat
open Ab Go
noncomputable section
abbrev hc:V:=rR (fF 159)
abbrev fc(f:FuncId):V:=rR (.func (.func f) [] [])
abbrev pairK(f:FuncId):List V:=[fG 162 [hc],fF 163,fF 160,fG 164 [fc f]]
abbrev lastK(f:FuncId):List V:=[fF 166,fF 167,fF 168,fG 169 [fc f]]
abbrev castK:List V:=[fG 170 [hc],fF 171,fF 172,fF 173]
def kindCells:List V:=castK++pairK 174++pairK 175++pairK 176++lastK 177++lastK 178
abbrev kindArr:V:=.arr 4 6 fun r j=>kindCells.getD (r*4+j) uU
inductive P161
 |e
inductive R161
 |r0 (r0_3_c0_0:Nat)
def T161(f:Nat):P161->Tr P161 R161
 |.e=>(.out (.r0 f))
noncomputable def g161(f:Nat):P161->List Item × St
 |.e=>bd Tryz.f161 [.func (.func f) [] [],rR (fF 159),rR (fF 160)] 6
def n161:R161->Exit × St
 |.r0 r0_3_c0_0=>(.ret,⟨mk 9 [(4,.ref 1 0 0)],[.cells [.func (.func r0_3_c0_0) [] []],.cells [fG 162 [rR (fF 159)],fF 163,fF 160,fG 164 [.ref 0 0 0]]],[]⟩)
def v161:R161->V
 |.r0 r0_3_c0_0=>.agg [fG 162 [rR (fF 159)],fF 163,fF 160,fG 164 [rR (.func (.func r0_3_c0_0) [] [])]]
theorem s161(f:Nat):Sm 0 (g161 f) (T161 f) (n161)
 |.e=>⟨400,by kernel_rfl⟩
theorem q161:∀r,bodyQ Tryz.prog Tryz.f161 (·=v161 r) (n161 r).1 (n161 r).2
 |.r0 r0_3_c0_0=>⟨.inr rfl,by simp[n161],(.agg [fG 162 [rR (fF 159)],fF 163,fF 160,fG 164 [.ref 0 0 0]]),(.agg [fG 162 [rR (fF 159)],fF 163,fF 160,fG 164 [rR (.func (.func r0_3_c0_0) [] [])]]),by kernel_rfl,(.agg rfl (by intro j hj;match j,hj with|0,_=>exact .imm rfl|1,_=>exact .imm rfl|2,_=>exact .imm rfl|3,_=>exact .func rfl rfl (by intro j hj;exact absurd hj (by simp)) (by intro j hj;match j,hj with|0,_=>exact .weak (.ref (n:=1) rfl (Nat.le_refl _) (by intro j hj;match j,hj with|0,_=>exact .imm rfl)) (VLe.refl _)))),rfl⟩
theorem w161(f:Nat){post:V->Prop}(h:WQ (T161 f) v161 post .e):PC 161 [.func (.func f) [] [],rR (fF 159),rR (fF 160)] post:=
 PCalls.wq Tryz.func161 (s161 f) q161 h
theorem c161(f:Nat):PC 161 [.func (.func f) [] [],hc,rR (fF 160)] (·=.agg (pairK f)):=by
 refine w161 _ (WP.step ?_);simp only[T161,Go,Ends',v161,Tr.sure,SS];repeat' with_reducible first|intro _|apply aI
inductive P165
 |e
inductive R165
 |r0 (r0_3_c0_0:Nat)
def T165(f:Nat):P165->Tr P165 R165
 |.e=>(.out (.r0 f))
noncomputable def g165(f:Nat):P165->List Item × St
 |.e=>bd Tryz.f165 [.func (.func f) [] []] 4
def n165:R165->Exit × St
 |.r0 r0_3_c0_0=>(.ret,⟨mk 5 [(2,.ref 1 0 0)],[.cells [.func (.func r0_3_c0_0) [] []],.cells [fF 166,fF 167,fF 168,fG 169 [.ref 0 0 0]]],[]⟩)
def v165:R165->V
 |.r0 r0_3_c0_0=>.agg [fF 166,fF 167,fF 168,fG 169 [rR (.func (.func r0_3_c0_0) [] [])]]
theorem s165(f:Nat):Sm 0 (g165 f) (T165 f) (n165)
 |.e=>⟨400,by kernel_rfl⟩
theorem q165:∀r,bodyQ Tryz.prog Tryz.f165 (·=v165 r) (n165 r).1 (n165 r).2
 |.r0 r0_3_c0_0=>⟨.inr rfl,by simp[n165],(.agg [fF 166,fF 167,fF 168,fG 169 [.ref 0 0 0]]),(.agg [fF 166,fF 167,fF 168,fG 169 [rR (.func (.func r0_3_c0_0) [] [])]]),by kernel_rfl,(.agg rfl (by intro j hj;match j,hj with|0,_=>exact .imm rfl|1,_=>exact .imm rfl|2,_=>exact .imm rfl|3,_=>exact .func rfl rfl (by intro j hj;exact absurd hj (by simp)) (by intro j hj;match j,hj with|0,_=>exact .weak (.ref (n:=1) rfl (Nat.le_refl _) (by intro j hj;match j,hj with|0,_=>exact .imm rfl)) (VLe.refl _)))),rfl⟩
theorem w165(f:Nat){post:V->Prop}(h:WQ (T165 f) v165 post .e):PC 165 [.func (.func f) [] []] post:=
 PCalls.wq Tryz.func165 (s165 f) q165 h
theorem c165(f:Nat):PC 165 [.func (.func f) [] []] (·=.agg (lastK f)):=by
 refine w165 _ (WP.step ?_);simp only[T165,Go,Ends',v165,Tr.sure,SS];repeat' with_reducible first|intro _|apply aI
inductive P122
 |e
inductive R122
 |r0
def T122:P122->Tr P122 R122
 |.e=>(.wait 7 (.frz 1 (underL 0 [fF 159]) (.frz 2 (underL 0 [fF 160]) (.front [(2,161,[fF 174,rR (fF 159),rR (fF 160)],.agg [fG 162 [rR (fF 159)],fF 163,fF 160,fG 164 [rR (fF 174)]]),(4,161,[fF 175,rR (fF 159),rR (fF 160)],.agg [fG 162 [rR (fF 159)],fF 163,fF 160,fG 164 [rR (fF 175)]]),(6,161,[fF 176,rR (fF 159),rR (fF 160)],.agg [fG 162 [rR (fF 159)],fF 163,fF 160,fG 164 [rR (fF 176)]]),(8,165,[fF 177],.agg [fF 166,fF 167,fF 168,fG 169 [rR (fF 177)]]),(10,165,[fF 178],.agg [fF 166,fF 167,fF 168,fG 169 [rR (fF 178)]])] [] true true (.out (.r0))))))
noncomputable def g122:P122->List Item × St
 |.e=>bd Tryz.f122 [] 21
def n122:R122->Exit × St
 |.r0=>(.ret,⟨mk 21 [(0,.ref 0 0 0)],[.rows 100 4 6 (fun r j=>([fG 170 [rR (fF 159)],fF 171,fF 172,fF 173,fG 162 [rR (fF 159)],fF 163,fF 160,fG 164 [rR (fF 174)],fG 162 [rR (fF 159)],fF 163,fF 160,fG 164 [rR (fF 175)],fG 162 [rR (fF 159)],fF 163,fF 160,fG 164 [rR (fF 176)],fF 166,fF 167,fF 168,fG 169 [rR (fF 177)],fF 166,fF 167,fF 168,fG 169 [rR (fF 178)]]:List V).getD (r*4+j) uU)],[]⟩)
def v122:R122->V
 |.r0=>.arr 4 6 (fun r j=>([fG 170 [rR (fF 159)],fF 171,fF 172,fF 173,fG 162 [rR (fF 159)],fF 163,fF 160,fG 164 [rR (fF 174)],fG 162 [rR (fF 159)],fF 163,fF 160,fG 164 [rR (fF 175)],fG 162 [rR (fF 159)],fF 163,fF 160,fG 164 [rR (fF 176)],fF 166,fF 167,fF 168,fG 169 [rR (fF 177)],fF 166,fF 167,fF 168,fG 169 [rR (fF 178)]]:List V).getD (r*4+j) uU)
theorem s122:Sm 0 (g122) (T122) (n122)
 |.e=>⟨400,by kernel_rfl⟩
theorem q122:∀r,bodyQ Tryz.prog Tryz.f122 (·=v122 r) (n122 r).1 (n122 r).2
 |.r0=>bq (.arr 4 6 (fun r j=>([fG 170 [rR (fF 159)],fF 171,fF 172,fF 173,fG 162 [rR (fF 159)],fF 163,fF 160,fG 164 [rR (fF 174)],fG 162 [rR (fF 159)],fF 163,fF 160,fG 164 [rR (fF 175)],fG 162 [rR (fF 159)],fF 163,fF 160,fG 164 [rR (fF 176)],fF 166,fF 167,fF 168,fG 169 [rR (fF 177)],fF 166,fF 167,fF 168,fG 169 [rR (fF 178)]]:List V).getD (r*4+j) uU)) (by kernel_rfl)
theorem w122{post:V->Prop}(h:WQ (T122) v122 post .e):PC 122 [] post:=
 PCalls.wq Tryz.func122 (s122) q122 h
theorem c122:PC 122 [] (·=kindArr):=by
 refine w122 (WP.step ?_);simp only[T122,Go,Ends',v122,Tr.sure,SS];repeat' with_reducible first|intro _|apply aI
 all_goals first|exact c161 _|exact c165 _|exact rfl
inductive P174
 |e
inductive R174
 |r0 (r0:Bool)
def T174(p0:Cast)(p1:Cast):P174->Tr P174 R174
 |.e=>(.out (.r0 (p0.mould==p1.mould)))
noncomputable def g174(p0:Cast)(p1:Cast):P174->List Item × St
 |.e=>bd Tryz.f174 [.agg [iI p0.mould,iI p0.number],.agg [iI p1.mould,iI p1.number]] 8
def n174:R174->Exit × St
 |.r0 r0=>(.ret,⟨mk 10 [(4,.bool r0)],[],[]⟩)
def v174:R174->V
 |.r0 r0=>.bool r0
theorem s174(p0:Cast)(p1:Cast):Sm 0 (g174 p0 p1) (T174 p0 p1) (n174)
 |.e=>⟨400,by kernel_rfl⟩
theorem q174:∀r,bodyQ Tryz.prog Tryz.f174 (·=v174 r) (n174 r).1 (n174 r).2
 |.r0 r0=>bq (.bool r0) (by kernel_rfl)
theorem w174(p0:Cast)(p1:Cast){post:V->Prop}(h:WQ (T174 p0 p1) v174 post .e):PC 174 [.agg [iI p0.mould,iI p0.number],.agg [iI p1.mould,iI p1.number]] post:=
 PCalls.wq Tryz.func174 (s174 p0 p1) q174 h
theorem c174(a b:Cast):PC 174 [.agg (tCast.cells a),.agg (tCast.cells b)] (·=.bool (a.mould==b.mould)):=by
 refine w174 _ _ (WP.step ?_);simp only[T174,Go,Ends',v174,Tr.sure,SS];repeat' with_reducible first|intro _|apply aI
inductive P175
 |e
inductive R175
 |r0 (r0:Bool)
def T175(p0:Cast)(p1:Cast):P175->Tr P175 R175
 |.e=>(.out (.r0 (p0.mould !=p1.mould)))
noncomputable def g175(p0:Cast)(p1:Cast):P175->List Item × St
 |.e=>bd Tryz.f175 [.agg [iI p0.mould,iI p0.number],.agg [iI p1.mould,iI p1.number]] 8
def n175:R175->Exit × St
 |.r0 r0=>(.ret,⟨mk 10 [(4,.bool r0)],[],[]⟩)
def v175:R175->V
 |.r0 r0=>.bool r0
theorem s175(p0:Cast)(p1:Cast):Sm 0 (g175 p0 p1) (T175 p0 p1) (n175)
 |.e=>⟨400,by kernel_rfl⟩
theorem q175:∀r,bodyQ Tryz.prog Tryz.f175 (·=v175 r) (n175 r).1 (n175 r).2
 |.r0 r0=>bq (.bool r0) (by kernel_rfl)
theorem w175(p0:Cast)(p1:Cast){post:V->Prop}(h:WQ (T175 p0 p1) v175 post .e):PC 175 [.agg [iI p0.mould,iI p0.number],.agg [iI p1.mould,iI p1.number]] post:=
 PCalls.wq Tryz.func175 (s175 p0 p1) q175 h
theorem c175(a b:Cast):PC 175 [.agg (tCast.cells a),.agg (tCast.cells b)] (·=.bool (a.mould !=b.mould)):=by
 refine w175 _ _ (WP.step ?_);simp only[T175,Go,Ends',v175,Tr.sure,SS];repeat' with_reducible first|intro _|apply aI
inductive P176
 |e
inductive R176
 |r0 (r0:Bool)
def T176(p0:Cast)(p1:Cast):P176->Tr P176 R176
 |.e=>(.br (p0.mould==p1.mould) (.out (.r0 (decide (p0.number<p1.number)))) (.out (.r0 false)))
noncomputable def g176(p0:Cast)(p1:Cast):P176->List Item × St
 |.e=>bd Tryz.f176 [.agg [iI p0.mould,iI p0.number],.agg [iI p1.mould,iI p1.number]] 15
def n176:R176->Exit × St
 |.r0 r0=>(.ret,⟨mk 17 [(4,.bool r0)],[],[]⟩)
def v176:R176->V
 |.r0 r0=>.bool r0
theorem s176(p0:Cast)(p1:Cast):Sm 0 (g176 p0 p1) (T176 p0 p1) (n176)
 |.e=>⟨400,by kernel_rfl⟩
theorem q176:∀r,bodyQ Tryz.prog Tryz.f176 (·=v176 r) (n176 r).1 (n176 r).2
 |.r0 r0=>bq (.bool r0) (by kernel_rfl)
theorem w176(p0:Cast)(p1:Cast){post:V->Prop}(h:WQ (T176 p0 p1) v176 post .e):PC 176 [.agg [iI p0.mould,iI p0.number],.agg [iI p1.mould,iI p1.number]] post:=
 PCalls.wq Tryz.func176 (s176 p0 p1) q176 h
theorem c176(a b:Cast):PC 176 [.agg (tCast.cells a),.agg (tCast.cells b)] (·=.bool (a.mould==b.mould&&decide (a.number<b.number))):=by
 refine w176 _ _ (WP.step ?_);simp only[T176,Go,Ends',v176,Tr.sure,SS];repeat' with_reducible first|intro _|apply aI
 all_goals simp[Go,Ends',v176,-List.getD_eq_getElem?_getD, *]
inductive P177
 |e
inductive R177
 |r0 (r0:Bool)
def T177(p0:Int)(p1:Int):P177->Tr P177 R177
 |.e=>(.out (.r0 (decide (p0≥p1))))
noncomputable def g177(p0:Int)(p1:Int):P177->List Item × St
 |.e=>bd Tryz.f177 [iI p0,iI p1] 6
def n177:R177->Exit × St
 |.r0 r0=>(.ret,⟨mk 8 [(4,.bool r0)],[],[]⟩)
def v177:R177->V
 |.r0 r0=>.bool r0
theorem s177(p0:Int)(p1:Int):Sm 0 (g177 p0 p1) (T177 p0 p1) (n177)
 |.e=>⟨400,by kernel_rfl⟩
theorem q177:∀r,bodyQ Tryz.prog Tryz.f177 (·=v177 r) (n177 r).1 (n177 r).2
 |.r0 r0=>bq (.bool r0) (by kernel_rfl)
theorem w177(p0:Int)(p1:Int){post:V->Prop}(h:WQ (T177 p0 p1) v177 post .e):PC 177 [iI p0,iI p1] post:=
 PCalls.wq Tryz.func177 (s177 p0 p1) q177 h
theorem c177(a b:Int):PC 177 [iI a,iI b] (·=.bool (decide (b<=a))):=by
 refine w177 _ _ (WP.step ?_);simp only[T177,Go,Ends',v177,Tr.sure,SS];repeat' with_reducible first|intro _|apply aI
inductive P178
 |e
inductive R178
 |r0 (r0:Bool)
def T178(p0:Int)(p1:Int):P178->Tr P178 R178
 |.e=>(.out (.r0 (decide (p0<=p1))))
noncomputable def g178(p0:Int)(p1:Int):P178->List Item × St
 |.e=>bd Tryz.f178 [iI p0,iI p1] 6
def n178:R178->Exit × St
 |.r0 r0=>(.ret,⟨mk 8 [(4,.bool r0)],[],[]⟩)
def v178:R178->V
 |.r0 r0=>.bool r0
theorem s178(p0:Int)(p1:Int):Sm 0 (g178 p0 p1) (T178 p0 p1) (n178)
 |.e=>⟨400,by kernel_rfl⟩
theorem q178:∀r,bodyQ Tryz.prog Tryz.f178 (·=v178 r) (n178 r).1 (n178 r).2
 |.r0 r0=>bq (.bool r0) (by kernel_rfl)
theorem w178(p0:Int)(p1:Int){post:V->Prop}(h:WQ (T178 p0 p1) v178 post .e):PC 178 [iI p0,iI p1] post:=
 PCalls.wq Tryz.func178 (s178 p0 p1) q178 h
theorem c178(a b:Int):PC 178 [iI a,iI b] (·=.bool (decide (a<=b))):=by
 refine w178 _ _ (WP.step ?_);simp only[T178,Go,Ends',v178,Tr.sure,SS];repeat' with_reducible first|intro _|apply aI
inductive P159
 |e
inductive R159
 |r0 (r0:Bool)
def T159(p0:Shop)(p1:List Int):P159->Tr P159 R159
 |.e=>let c1:=(p0.heads.length:Int)-(1:Int);(.need (inR .i64 c1) (.call 58 [iI 0,iI c1,tint.lst p1] (.bool (outside 0 c1 p1)) true true (.out (.r0 (!(outside 0 c1 p1))))))
noncomputable def g159(p0:Shop)(p1:List Int):P159->List Item × St
 |.e=>bd Tryz.f159 [.agg [iI p0.features,tMould.lst p0.moulds,tHead.lst p0.heads],tint.lst p1] 10
def n159:R159->Exit × St
 |.r0 r0=>(.ret,⟨mk 12 [(4,.bool r0)],[],[]⟩)
def v159:R159->V
 |.r0 r0=>.bool r0
theorem s159(p0:Shop)(p1:List Int):Sm 0 (g159 p0 p1) (T159 p0 p1) (n159)
 |.e=>⟨400,by kernel_rfl⟩
theorem q159:∀r,bodyQ Tryz.prog Tryz.f159 (·=v159 r) (n159 r).1 (n159 r).2
 |.r0 r0=>bq (.bool r0) (by kernel_rfl)
theorem w159(p0:Shop)(p1:List Int){post:V->Prop}(h:WQ (T159 p0 p1) v159 post .e):PC 159 [.agg [iI p0.features,tMould.lst p0.moulds,tHead.lst p0.heads],tint.lst p1] post:=
 PCalls.wq Tryz.func159 (s159 p0 p1) q159 h
theorem c159(s:Shop)(l:List Int)(h:s.heads.length<=4):PC 159 [.agg (tShop.cells s),tint.lst l] (·=.bool (!outside 0 ((s.heads.length:Int)-1) l)):=by
 have hr:inR .i64 ((s.heads.length:Int)-1)=true:=inR64 (by omega) (by omega);refine w159 _ _ (WP.step ?_);simp only[T159,Go,Ends',v159,Tr.sure,SS];repeat' with_reducible first|intro _|apply aI
 all_goals first|exact c58 _ _ _|(simp[hr,Go,Ends',v159,-List.getD_eq_getElem?_getD, *];done)
inductive P160
 |e
inductive R160
 |r0 (r0:Int)
def T160(p0:Shop)(p1:Claim):P160->Tr P160 R160
 |.e=>(.out (.r0 0))
noncomputable def g160(p0:Shop)(p1:Claim):P160->List Item × St
 |.e=>bd Tryz.f160 [.agg [iI p0.features,tMould.lst p0.moulds,tHead.lst p0.heads],.agg [iI p1.own,iI p1.kind,iI p1.a,iI p1.b,iI p1.mould,iI p1.feature,iI p1.number,iI p1.worth]] 3
def n160:R160->Exit × St
 |.r0 r0=>(.ret,⟨mk 5 [(4,iI r0)],[],[]⟩)
def v160:R160->V
 |.r0 r0=>iI r0
theorem s160(p0:Shop)(p1:Claim):Sm 0 (g160 p0 p1) (T160 p0 p1) (n160)
 |.e=>⟨400,by kernel_rfl⟩
theorem q160:∀r,bodyQ Tryz.prog Tryz.f160 (·=v160 r) (n160 r).1 (n160 r).2
 |.r0 r0=>bq (iI r0) (by kernel_rfl)
theorem w160(p0:Shop)(p1:Claim){post:V->Prop}(h:WQ (T160 p0 p1) v160 post .e):PC 160 [.agg [iI p0.features,tMould.lst p0.moulds,tHead.lst p0.heads],.agg [iI p1.own,iI p1.kind,iI p1.a,iI p1.b,iI p1.mould,iI p1.feature,iI p1.number,iI p1.worth]] post:=
 PCalls.wq Tryz.func160 (s160 p0 p1) q160 h
theorem c160(s:Shop)(x:Claim):PC 160 [.agg (tShop.cells s),.agg (tClaim.cells x)] (·=iI 0):=by
 refine w160 _ _ (WP.step ?_);simp only[T160,Go,Ends',v160,Tr.sure,SS];repeat' with_reducible first|intro _|apply aI
theorem VLe.lit2(n m:Int):VLe (.list 1 2 (litC 1 2 [iI n,iI m])) (tint.lst [n,m]):=VLe.lit tint [n,m] rfl rfl (fun _=>rfl)
theorem c58_1(lo hi a:Int):PC 58 [iI lo,iI hi,.list 1 1 (litC 1 1 [iI a])] (·=.bool (outside lo hi [a])):=PCalls.arg (pre:=[iI lo,iI hi]) (c58 lo hi [a]) (VLe.lit1 a)
theorem c159_1(s:Shop)(a:Int)(h:s.heads.length<=4):PC 159 [.agg (tShop.cells s),.list 1 1 (litC 1 1 [iI a])] (·=.bool (!outside 0 ((s.heads.length:Int)-1) [a])):=PCalls.arg (pre:=[.agg (tShop.cells s)]) (c159 s [a] h) (VLe.lit1 a)
theorem c159_2(s:Shop)(a b:Int)(h:s.heads.length<=4):PC 159 [.agg (tShop.cells s),.list 1 2 (litC 1 2 [iI a,iI b])] (·=.bool (!outside 0 ((s.heads.length:Int)-1) [a,b])):=PCalls.arg (pre:=[.agg (tShop.cells s)]) (c159 s [a,b] h) (VLe.lit2 a b)
inductive P162
 |e
inductive R162
 |r0 (r0:Bool)
def T162(s:Shop)(x:Claim):P162->Tr P162 R162
 |.e=>(.call 159 [.agg [iI s.features,tMould.lst s.moulds,tHead.lst s.heads],.list 1 2 (litC 1 2 [iI x.a,iI x.b])] (.bool ((fun(s:Shop) l=> !outside 0 ((s.heads.length:Int)-1) l) s ([x.a,x.b]:List Int))) ((decide (2<=2))&&true) true (.out (.r0 ((fun(s:Shop) l=> !outside 0 ((s.heads.length:Int)-1) l) s ([x.a,x.b]:List Int)))))
noncomputable def g162(s:Shop)(x:Claim):P162->List Item × St
 |.e=>bd Tryz.f162 [.agg [iI s.features,tMould.lst s.moulds,tHead.lst s.heads],.agg [iI x.own,iI x.kind,iI x.a,iI x.b,iI x.mould,iI x.feature,iI x.number,iI x.worth],rR (fF 159)] 11
def n162:R162->Exit × St
 |.r0 r0=>(.ret,⟨mk 14 [(5,.bool r0)],[],[]⟩)
def v162:R162->V
 |.r0 r0=>.bool r0
theorem s162(s:Shop)(x:Claim):Sm 0 (g162 s x) (T162 s x) (n162)
 |.e=>⟨400,by kernel_rfl⟩
theorem q162:∀r,bodyQ Tryz.prog Tryz.f162 (·=v162 r) (n162 r).1 (n162 r).2
 |.r0 r0=>bq (.bool r0) (by kernel_rfl)
theorem w162(s:Shop)(x:Claim){post:V->Prop}(h:WQ (T162 s x) v162 post .e):PC 162 [.agg [iI s.features,tMould.lst s.moulds,tHead.lst s.heads],.agg [iI x.own,iI x.kind,iI x.a,iI x.b,iI x.mould,iI x.feature,iI x.number,iI x.worth],rR (fF 159)] post:=
 PCalls.wq Tryz.func162 (s162 s x) q162 h
theorem c162(s:Shop)(x:Claim)(h:s.heads.length<=4):PC 162 [.agg (tShop.cells s),.agg (tClaim.cells x),hc] (·=.bool (named1 s x)):=by
 refine w162 _ _ (WP.step ?_);simp only[T162,Go,Ends',v162,Tr.sure,SS];repeat' with_reducible first|intro _|apply aI
 all_goals first|exact c159_2 _ _ _ h|(simp[outside,named1,index,Go,Ends',v162,-List.getD_eq_getElem?_getD, *];done)
inductive P163
 |e
inductive R163
 |r0 (r0:Bool)
def T163(p0:Claim):P163->Tr P163 R163
 |.e=>let c1:Tr P163 R163:=.out (.r0 false);(.br (p0.a !=p0.b) (.br (p0.mould==(0:Int)) (.br (p0.feature==(0:Int)) (.out (.r0 (p0.number==(0:Int)))) c1) (.lit false c1)) (.lit false (.lit false c1)))
noncomputable def g163(p0:Claim):P163->List Item × St
 |.e=>bd Tryz.f163 [.agg [iI p0.own,iI p0.kind,iI p0.a,iI p0.b,iI p0.mould,iI p0.feature,iI p0.number,iI p0.worth]] 22
def n163:R163->Exit × St
 |.r0 r0=>(.ret,⟨mk 23 [(2,.bool r0)],[],[]⟩)
def v163:R163->V
 |.r0 r0=>.bool r0
theorem s163(p0:Claim):Sm 0 (g163 p0) (T163 p0) (n163)
 |.e=>⟨400,by kernel_rfl⟩
theorem q163:∀r,bodyQ Tryz.prog Tryz.f163 (·=v163 r) (n163 r).1 (n163 r).2
 |.r0 r0=>bq (.bool r0) (by kernel_rfl)
theorem w163(p0:Claim){post:V->Prop}(h:WQ (T163 p0) v163 post .e):PC 163 [.agg [iI p0.own,iI p0.kind,iI p0.a,iI p0.b,iI p0.mould,iI p0.feature,iI p0.number,iI p0.worth]] post:=
 PCalls.wq Tryz.func163 (s163 p0) q163 h
theorem c163(x:Claim):PC 163 [.agg (tClaim.cells x)] (·=.bool (fine1 x)):=by
 refine w163 _ (WP.step ?_);simp only[T163,Go,Ends',v163,Tr.sure,SS];repeat' with_reducible first|intro _|apply aI
 all_goals simp[fine1,Go,Ends',v163,-List.getD_eq_getElem?_getD, *]
inductive P166
 |e
inductive R166
 |r0 (r0:Bool)
def T166(p0:Shop)(p1:Claim):P166->Tr P166 R166
 |.e=>let c1:=(p0.moulds.length:Int)-(1:Int);let c2:=p0.features-(1:Int);let c3:=outside 0 c2 ([p1.feature]:List Int);let c4:=outside 0 c1 ([p1.mould]:List Int);let c5:=(decide (1<=1))&&true;(.need (inR .i64 c1) (.call 58 [iI 0,iI c1,.list 1 1 (litC 1 1 [iI p1.mould])] (.bool c4) c5 true (.br (!c4) (.need (inR .i64 c2) (.call 58 [iI 0,iI c2,.list 1 1 (litC 1 1 [iI p1.feature])] (.bool c3) c5 true (.out (.r0 (!c3))))) (.out (.r0 false)))))
noncomputable def g166(p0:Shop)(p1:Claim):P166->List Item × St
 |.e=>bd Tryz.f166 [.agg [iI p0.features,tMould.lst p0.moulds,tHead.lst p0.heads],.agg [iI p1.own,iI p1.kind,iI p1.a,iI p1.b,iI p1.mould,iI p1.feature,iI p1.number,iI p1.worth]] 22
def n166:R166->Exit × St
 |.r0 r0=>(.ret,⟨mk 24 [(4,.bool r0)],[],[]⟩)
def v166:R166->V
 |.r0 r0=>.bool r0
theorem s166(p0:Shop)(p1:Claim):Sm 0 (g166 p0 p1) (T166 p0 p1) (n166)
 |.e=>⟨400,by kernel_rfl⟩
theorem q166:∀r,bodyQ Tryz.prog Tryz.f166 (·=v166 r) (n166 r).1 (n166 r).2
 |.r0 r0=>bq (.bool r0) (by kernel_rfl)
theorem w166(p0:Shop)(p1:Claim){post:V->Prop}(h:WQ (T166 p0 p1) v166 post .e):PC 166 [.agg [iI p0.features,tMould.lst p0.moulds,tHead.lst p0.heads],.agg [iI p1.own,iI p1.kind,iI p1.a,iI p1.b,iI p1.mould,iI p1.feature,iI p1.number,iI p1.worth]] post:=
 PCalls.wq Tryz.func166 (s166 p0 p1) q166 h
theorem c166(s:Shop)(x:Claim)(h:s.moulds.length<=2)(hf:1<=s.features/\s.features<=4):PC 166 [.agg (tShop.cells s),.agg (tClaim.cells x)] (·=.bool (named4 s x)):=by
 have hr:inR .i64 ((s.moulds.length:Int)-1)=true:=inR64 (by omega) (by omega);have hr':inR .i64 (s.features-1)=true:=inR64 (by omega) (by omega);refine w166 _ _ (WP.step ?_);simp only[T166,Go,Ends',v166,Tr.sure,SS];repeat' with_reducible first|intro _|apply aI
 all_goals first|exact c58_1 _ _ _|(simp[hr,hr',named4,index,outside,Go,Ends',v166,-List.getD_eq_getElem?_getD, *];done)|(simp_all [hr,hr',named4,index,outside,Go,Ends',v166,-List.getD_eq_getElem?_getD];done)
inductive P167
 |e
inductive R167
 |r0 (r0:Bool)
def T167(p0:Claim):P167->Tr P167 R167
 |.e=>(.br (p0.a==(0:Int)) (.out (.r0 (p0.b==(0:Int)))) (.out (.r0 false)))
noncomputable def g167(p0:Claim):P167->List Item × St
 |.e=>bd Tryz.f167 [.agg [iI p0.own,iI p0.kind,iI p0.a,iI p0.b,iI p0.mould,iI p0.feature,iI p0.number,iI p0.worth]] 10
def n167:R167->Exit × St
 |.r0 r0=>(.ret,⟨mk 11 [(2,.bool r0)],[],[]⟩)
def v167:R167->V
 |.r0 r0=>.bool r0
theorem s167(p0:Claim):Sm 0 (g167 p0) (T167 p0) (n167)
 |.e=>⟨400,by kernel_rfl⟩
theorem q167:∀r,bodyQ Tryz.prog Tryz.f167 (·=v167 r) (n167 r).1 (n167 r).2
 |.r0 r0=>bq (.bool r0) (by kernel_rfl)
theorem w167(p0:Claim){post:V->Prop}(h:WQ (T167 p0) v167 post .e):PC 167 [.agg [iI p0.own,iI p0.kind,iI p0.a,iI p0.b,iI p0.mould,iI p0.feature,iI p0.number,iI p0.worth]] post:=
 PCalls.wq Tryz.func167 (s167 p0) q167 h
theorem c167(x:Claim):PC 167 [.agg (tClaim.cells x)] (·=.bool (fine4 x)):=by
 refine w167 _ (WP.step ?_);simp only[T167,Go,Ends',v167,Tr.sure,SS];repeat' with_reducible first|intro _|apply aI
 all_goals simp[fine4,Go,Ends',v167,-List.getD_eq_getElem?_getD, *]
inductive P168
 |e
inductive R168
 |r0 (r0:Int)
def T168(p0:Shop)(p1:Claim):P168->Tr P168 R168
 |.e=>(.out (.r0 6))
noncomputable def g168(p0:Shop)(p1:Claim):P168->List Item × St
 |.e=>bd Tryz.f168 [.agg [iI p0.features,tMould.lst p0.moulds,tHead.lst p0.heads],.agg [iI p1.own,iI p1.kind,iI p1.a,iI p1.b,iI p1.mould,iI p1.feature,iI p1.number,iI p1.worth]] 3
def n168:R168->Exit × St
 |.r0 r0=>(.ret,⟨mk 5 [(4,iI r0)],[],[]⟩)
def v168:R168->V
 |.r0 r0=>iI r0
theorem s168(p0:Shop)(p1:Claim):Sm 0 (g168 p0 p1) (T168 p0 p1) (n168)
 |.e=>⟨400,by kernel_rfl⟩
theorem q168:∀r,bodyQ Tryz.prog Tryz.f168 (·=v168 r) (n168 r).1 (n168 r).2
 |.r0 r0=>bq (iI r0) (by kernel_rfl)
theorem w168(p0:Shop)(p1:Claim){post:V->Prop}(h:WQ (T168 p0 p1) v168 post .e):PC 168 [.agg [iI p0.features,tMould.lst p0.moulds,tHead.lst p0.heads],.agg [iI p1.own,iI p1.kind,iI p1.a,iI p1.b,iI p1.mould,iI p1.feature,iI p1.number,iI p1.worth]] post:=
 PCalls.wq Tryz.func168 (s168 p0 p1) q168 h
theorem c168(s:Shop)(x:Claim):PC 168 [.agg (tShop.cells s),.agg (tClaim.cells x)] (·=iI 6):=by
 refine w168 _ _ (WP.step ?_);simp only[T168,Go,Ends',v168,Tr.sure,SS];repeat' with_reducible first|intro _|apply aI
inductive P170
 |e
inductive R170
 |r0 (r0:Bool)
def T170(s:Shop)(x:Claim):P170->Tr P170 R170
 |.e=>let c1:=(decide (1<=1))&&true;(.call 159 [.agg [iI s.features,tMould.lst s.moulds,tHead.lst s.heads],.list 1 1 (litC 1 1 [iI x.a])] (.bool ((fun(s:Shop) l=> !outside 0 ((s.heads.length:Int)-1) l) s ([x.a]:List Int))) c1 true (.br ((fun(s:Shop) l=> !outside 0 ((s.heads.length:Int)-1) l) s ([x.a]:List Int)) (.need (inR .i64 ((s.moulds.length:Int)-(1:Int))) (.call 58 [iI 0,iI ((s.moulds.length:Int)-(1:Int)),.list 1 1 (litC 1 1 [iI x.mould])] (.bool (outside 0 ((s.moulds.length:Int)-(1:Int)) ([x.mould]:List Int))) c1 true (.out (.r0 (!(outside 0 ((s.moulds.length:Int)-(1:Int)) ([x.mould]:List Int))))))) (.out (.r0 false))))
noncomputable def g170(s:Shop)(x:Claim):P170->List Item × St
 |.e=>bd Tryz.f170 [.agg [iI s.features,tMould.lst s.moulds,tHead.lst s.heads],.agg [iI x.own,iI x.kind,iI x.a,iI x.b,iI x.mould,iI x.feature,iI x.number,iI x.worth],rR (fF 159)] 20
def n170:R170->Exit × St
 |.r0 r0=>(.ret,⟨mk 23 [(5,.bool r0)],[],[]⟩)
def v170:R170->V
 |.r0 r0=>.bool r0
theorem s170(s:Shop)(x:Claim):Sm 0 (g170 s x) (T170 s x) (n170)
 |.e=>⟨400,by kernel_rfl⟩
theorem q170:∀r,bodyQ Tryz.prog Tryz.f170 (·=v170 r) (n170 r).1 (n170 r).2
 |.r0 r0=>bq (.bool r0) (by kernel_rfl)
theorem w170(s:Shop)(x:Claim){post:V->Prop}(h:WQ (T170 s x) v170 post .e):PC 170 [.agg [iI s.features,tMould.lst s.moulds,tHead.lst s.heads],.agg [iI x.own,iI x.kind,iI x.a,iI x.b,iI x.mould,iI x.feature,iI x.number,iI x.worth],rR (fF 159)] post:=
 PCalls.wq Tryz.func170 (s170 s x) q170 h
theorem c170(s:Shop)(x:Claim)(h:s.heads.length<=4)(h2:s.moulds.length<=2):PC 170 [.agg (tShop.cells s),.agg (tClaim.cells x),hc] (·=.bool (named0 s x)):=by
 have hr:inR .i64 ((s.moulds.length:Int)-1)=true:=inR64 (by omega) (by omega);refine w170 _ _ (WP.step ?_);simp only[T170,Go,Ends',v170,Tr.sure,SS];repeat' with_reducible first|intro _|apply aI
 all_goals first|exact c159_1 _ _ h|exact c58_1 _ _ _|(simp[hr,outside,named0,index,Go,Ends',v170,-List.getD_eq_getElem?_getD, *];done)|(simp_all [hr,outside,named0,index,Go,Ends',v170,-List.getD_eq_getElem?_getD];done)
inductive P171
 |e
inductive R171
 |r0 (r0:Bool)
def T171(p0:Claim):P171->Tr P171 R171
 |.e=>(.br (p0.b==(0:Int)) (.out (.r0 (p0.feature==(0:Int)))) (.out (.r0 false)))
noncomputable def g171(p0:Claim):P171->List Item × St
 |.e=>bd Tryz.f171 [.agg [iI p0.own,iI p0.kind,iI p0.a,iI p0.b,iI p0.mould,iI p0.feature,iI p0.number,iI p0.worth]] 10
def n171:R171->Exit × St
 |.r0 r0=>(.ret,⟨mk 11 [(2,.bool r0)],[],[]⟩)
def v171:R171->V
 |.r0 r0=>.bool r0
theorem s171(p0:Claim):Sm 0 (g171 p0) (T171 p0) (n171)
 |.e=>⟨400,by kernel_rfl⟩
theorem q171:∀r,bodyQ Tryz.prog Tryz.f171 (·=v171 r) (n171 r).1 (n171 r).2
 |.r0 r0=>bq (.bool r0) (by kernel_rfl)
theorem w171(p0:Claim){post:V->Prop}(h:WQ (T171 p0) v171 post .e):PC 171 [.agg [iI p0.own,iI p0.kind,iI p0.a,iI p0.b,iI p0.mould,iI p0.feature,iI p0.number,iI p0.worth]] post:=
 PCalls.wq Tryz.func171 (s171 p0) q171 h
theorem c171(x:Claim):PC 171 [.agg (tClaim.cells x)] (·=.bool (fine0 x)):=by
 refine w171 _ (WP.step ?_);simp only[T171,Go,Ends',v171,Tr.sure,SS];repeat' with_reducible first|intro _|apply aI
 all_goals simp[fine0,Go,Ends',v171,-List.getD_eq_getElem?_getD, *]
inductive P172
 |e
inductive R172
 |r0 (r0:Int)
def T172(p0:Shop)(p1:Claim):P172->Tr P172 R172
 |.e=>(.need (decide (0<=p1.mould)&&decide (p1.mould<(p0.moulds.length:Int))) (.out (.r0 ((p0.moulds.getD (p1.mould).toNat tMould.zero).casts))))
noncomputable def g172(p0:Shop)(p1:Claim):P172->List Item × St
 |.e=>bd Tryz.f172 [.agg [iI p0.features,tMould.lst p0.moulds,tHead.lst p0.heads],.agg [iI p1.own,iI p1.kind,iI p1.a,iI p1.b,iI p1.mould,iI p1.feature,iI p1.number,iI p1.worth]] 10
def n172:R172->Exit × St
 |.r0 r0=>(.ret,⟨mk 12 [(4,iI r0)],[],[]⟩)
def v172:R172->V
 |.r0 r0=>iI r0
theorem s172(p0:Shop)(p1:Claim):Sm 0 (g172 p0 p1) (T172 p0 p1) (n172)
 |.e=>⟨400,by kernel_rfl⟩
theorem q172:∀r,bodyQ Tryz.prog Tryz.f172 (·=v172 r) (n172 r).1 (n172 r).2
 |.r0 r0=>bq (iI r0) (by kernel_rfl)
theorem w172(p0:Shop)(p1:Claim){post:V->Prop}(h:WQ (T172 p0 p1) v172 post .e):PC 172 [.agg [iI p0.features,tMould.lst p0.moulds,tHead.lst p0.heads],.agg [iI p1.own,iI p1.kind,iI p1.a,iI p1.b,iI p1.mould,iI p1.feature,iI p1.number,iI p1.worth]] post:=
 PCalls.wq Tryz.func172 (s172 p0 p1) q172 h
theorem c172(s:Shop)(x:Claim)(h:named0 s x=true):PC 172 [.agg (tShop.cells s),.agg (tClaim.cells x)] (·=iI (most0 s x)):=by
 simp only[named0,Bool.and_eq_true,index_iff]at h;refine w172 _ _ (WP.step ?_);simp only[T172,Go,Ends',v172,Tr.sure,SS];repeat' with_reducible first|intro _|apply aI
 all_goals simp[most0,Go,Ends',v172,-List.getD_eq_getElem?_getD, *]
end
noncomputable section
theorem c58w(lo hi a:Int):PC 58 [iI lo,iI hi,.list 1 1 (litC 1 1 [iI a])] (·=.bool (!within a lo hi)):=by rw[<-outside1];exact c58_1 lo hi a
inductive P59x
 |e
inductive R59x
 |r0 (r0:Int)
def T59x(p0:Shop)(p1:Claim):P59x->Tr P59x R59x
 |.e=>let c1:=(decide (1<=1))&&true;let c2:=outside 1 100 ([p1.worth]:List Int);let c3:=outside 0 5 ([p1.kind]:List Int);let c4:=outside 0 1 ([p1.own]:List Int);let c5:Tr P59x R59x:=.lit true (.out (.r0 7));(.call 58 [iI 0,iI 1,.list 1 1 (litC 1 1 [iI p1.own])] (.bool c4) c1 true (.br c4 (.lit true c5) (.call 58 [iI 1,iI 100,.list 1 1 (litC 1 1 [iI p1.worth])] (.bool c2) c1 true (.br c2 c5 (.call 58 [iI 0,iI 5,.list 1 1 (litC 1 1 [iI p1.kind])] (.bool c3) c1 true (.br c3 (.out (.r0 7)) (.wait 2 .never)))))))
noncomputable def g59x(p0:Shop)(p1:Claim):P59x->List Item × St
 |.e=>bd Tryz.f59 [.agg [iI p0.features,tMould.lst p0.moulds,tHead.lst p0.heads],.agg [iI p1.own,iI p1.kind,iI p1.a,iI p1.b,iI p1.mould,iI p1.feature,iI p1.number,iI p1.worth]] 52
def n59x:R59x->Exit × St
 |.r0 r0=>(.ret,⟨mk 54 [(4,iI r0)],[],[]⟩)
def v59x:R59x->V
 |.r0 r0=>iI r0
theorem s59x(p0:Shop)(p1:Claim):Sm 0 (g59x p0 p1) (T59x p0 p1) (n59x)
 |.e=>⟨400,by kernel_rfl⟩
theorem q59x:∀r,bodyQ Tryz.prog Tryz.f59 (·=v59x r) (n59x r).1 (n59x r).2
 |.r0 r0=>bq (iI r0) (by kernel_rfl)
theorem w59x(p0:Shop)(p1:Claim){post:V->Prop}(h:WQ (T59x p0 p1) v59x post .e):PC 59 [.agg [iI p0.features,tMould.lst p0.moulds,tHead.lst p0.heads],.agg [iI p1.own,iI p1.kind,iI p1.a,iI p1.b,iI p1.mould,iI p1.feature,iI p1.number,iI p1.worth]] post:=
 PCalls.wq Tryz.func59 (s59x p0 p1) q59x h
theorem c59x(s:Shop)(x:Claim)(h:within x.kind 0 5=false):PC 59 [.agg (tShop.cells s),.agg (tClaim.cells x)] (·=iI (claimErr s x)):=by
 refine w59x _ _ (WP.step ?_);simp only[T59x,Go,Ends',v59x,Tr.sure,SS,outside1];repeat' with_reducible first|intro _|apply aI
 all_goals first|exact c58w _ _ _|(simp[claimErr,Go,Ends',v59x,-List.getD_eq_getElem?_getD, *];done)|(simp_all [claimErr,Go,Ends',v59x,-List.getD_eq_getElem?_getD];done)
 all_goals simp_all
inductive P59_0
 |e
inductive R59_0
 |r0 (r0:Int)
def T59_0(s:Shop)(x:Claim):P59_0->Tr P59_0 R59_0
 |.e=>let c1:=(⟨x.own,0,x.a,x.b,x.mould,x.feature,x.number,x.worth⟩:Claim);let c2:List V:=[iI x.own,iI 0,iI x.a,iI x.b,iI x.mould,iI x.feature,iI x.number,iI x.worth];let c3:=(decide (1<=1))&&true;let c4:List V:=[iI s.features,tMould.lst s.moulds,tHead.lst s.heads];let c5:=outside 1 (most0 s c1) ([x.number]:List Int);let c6:=outside 1 100 ([x.worth]:List Int);let c7:Tr P59_0 R59_0:=.out (.r0 7);let c8:=outside 0 1 ([x.own]:List Int);let c9:=outside 0 5 ([0]:List Int);(.call 58 [iI 0,iI 1,.list 1 1 (litC 1 1 [iI x.own])] (.bool c8) c3 true (.br c8 (.lit true (.lit true c7)) (.call 58 [iI 1,iI 100,.list 1 1 (litC 1 1 [iI x.worth])] (.bool c6) c3 true (.br c6 (.lit true c7) (.call 58 [iI 0,iI 5,.list 1 1 (litC 1 1 [iI 0])] (.bool c9) c3 true (.br c9 c7 (.front [(0,122,[],.arr 4 6 (fun r j=>kindCells.getD (r*4+j) uU))] [] (((decide (0<=(0:Int))&&decide ((0:Int)<(6:Int)))&&true)&&true) true (.call 170 [.agg c4,.agg c2,rR (fF 159)] (.bool (named0 s c1)) true true (.br (!(named0 s c1)) (.out (.r0 4)) (.call 171 [.agg c2] (.bool (fine0 c1)) true true (.br (!(fine0 c1)) (.out (.r0 2)) (.call 172 [.agg c4,.agg c2] (iI (most0 s c1)) true true (.br (decide ((most0 s c1)>(0:Int))) (.call 58 [iI 1,iI (most0 s c1),.list 1 1 (litC 1 1 [iI x.number])] (.bool c5) c3 true (.br c5 c7 (.out (.r0 0)))) (.lit false (.out (.r0 0))))))))))))))))
noncomputable def g59_0(s:Shop)(x:Claim):P59_0->List Item × St
 |.e=>bd Tryz.f59 [.agg [iI s.features,tMould.lst s.moulds,tHead.lst s.heads],.agg [iI x.own,iI 0,iI x.a,iI x.b,iI x.mould,iI x.feature,iI x.number,iI x.worth]] 52
def n59_0:R59_0->Exit × St
 |.r0 r0=>(.ret,⟨mk 54 [(4,iI r0)],[],[]⟩)
def v59_0:R59_0->V
 |.r0 r0=>iI r0
theorem s59_0(s:Shop)(x:Claim):Sm 0 (g59_0 s x) (T59_0 s x) (n59_0)
 |.e=>⟨400,by kernel_rfl⟩
theorem q59_0:∀r,bodyQ Tryz.prog Tryz.f59 (·=v59_0 r) (n59_0 r).1 (n59_0 r).2
 |.r0 r0=>bq (iI r0) (by kernel_rfl)
theorem w59_0(s:Shop)(x:Claim){post:V->Prop}(h:WQ (T59_0 s x) v59_0 post .e):PC 59 [.agg [iI s.features,tMould.lst s.moulds,tHead.lst s.heads],.agg [iI x.own,iI 0,iI x.a,iI x.b,iI x.mould,iI x.feature,iI x.number,iI x.worth]] post:=
 PCalls.wq Tryz.func59 (s59_0 s x) q59_0 h
theorem c59_0(s:Shop)(x:Claim)(hk:x.kind=0)(h1:s.heads.length<=4)(h2:s.moulds.length<=2)(h3:1<=s.features/\s.features<=4)(h4:∀m∈s.moulds,1<=m.casts):PC 59 [.agg (tShop.cells s),.agg (tClaim.cells x)] (·=iI (claimErr s x)):=by
 obtain⟨own,kind,a,b,mould,feature,number,worth⟩:=x;simp only at hk;subst hk;generalize hx:(⟨own,0,a,b,mould,feature,number,worth⟩:Claim)=x
 have hm:named0 s x=true->1<=most0 s x:=fun h=>by
  simp only[named0,Bool.and_eq_true,index_iff]at h;refine h4 _ ?_;rw[gE,List.getElem?_eq_getElem (show x.mould.toNat<s.moulds.length by omega)];exact List.getElem_mem _
 have q1:=c170 s x h1 h2;have q2:=c162 s x h1;have q3:=c166 s x h2 h3;have q4:=c171 x;have q5:=c163 x;have q6:=c167 x;have q7:=c172 s x;have q8:=c168 s x;have q9:=c160 s x;subst hx;refine w59_0 _ (⟨own,0,a,b,mould,feature,number,worth⟩:Claim) (WP.step ?_);simp only[T59_0,Go,Ends',v59_0,Tr.sure,SS,outside1];repeat' with_reducible first|intro _|apply aI
 all_goals first|exact c58w _ _ _|exact c122|exact q1|exact q4|exact(q7 (by assumption))|(simp[claimErr,named,named0,named1,named4,pair,lasting,spare,fine0,fine1,fine4,most0,Go,Ends',v59_0,-List.getD_eq_getElem?_getD, *];done)|(simp_all [claimErr,named,named0,named1,named4,pair,lasting,spare,fine0,fine1,fine4,most0,Go,Ends',v59_0,-List.getD_eq_getElem?_getD];done)|skip
 all_goals clear q1 q2 q3 q4 q5 q6 q7 q8 q9
 all_goals simp only[named0,named1,named4,fine0,fine1,fine4,most0,Bool.and_eq_true,Bool.not_eq_eq_eq_not]at*
 all_goals simp_all [claimErr,named,pair,lasting,spare]
 all_goals try (exfalso;omega)
inductive P59_1
 |e
inductive R59_1
 |r0 (r0:Int)
def T59_1(s:Shop)(x:Claim):P59_1->Tr P59_1 R59_1
 |.e=>let c1:List V:=[iI x.own,iI 1,iI x.a,iI x.b,iI x.mould,iI x.feature,iI x.number,iI x.worth];let c2:=(decide (1<=1))&&true;let c3:List V:=[iI s.features,tMould.lst s.moulds,tHead.lst s.heads];let c4:=outside 1 100 ([x.worth]:List Int);let c5:Tr P59_1 R59_1:=.out (.r0 7);let c6:=outside 0 1 ([x.own]:List Int);let c7:=outside 0 5 ([1]:List Int);(.call 58 [iI 0,iI 1,.list 1 1 (litC 1 1 [iI x.own])] (.bool c6) c2 true (.br c6 (.lit true (.lit true c5)) (.call 58 [iI 1,iI 100,.list 1 1 (litC 1 1 [iI x.worth])] (.bool c4) c2 true (.br c4 (.lit true c5) (.call 58 [iI 0,iI 5,.list 1 1 (litC 1 1 [iI 1])] (.bool c7) c2 true (.br c7 c5 (.front [(0,122,[],.arr 4 6 (fun r j=>kindCells.getD (r*4+j) uU))] [] (((decide (0<=(1:Int))&&decide ((1:Int)<(6:Int)))&&true)&&true) true (.call 162 [.agg c3,.agg c1,rR (fF 159)] (.bool (named1 s (⟨x.own,1,x.a,x.b,x.mould,x.feature,x.number,x.worth⟩:Claim))) true true (.br (!(named1 s (⟨x.own,1,x.a,x.b,x.mould,x.feature,x.number,x.worth⟩:Claim))) (.out (.r0 4)) (.call 163 [.agg c1] (.bool (fine1 (⟨x.own,1,x.a,x.b,x.mould,x.feature,x.number,x.worth⟩:Claim))) true true (.br (!(fine1 (⟨x.own,1,x.a,x.b,x.mould,x.feature,x.number,x.worth⟩:Claim))) (.out (.r0 2)) (.call 160 [.agg c3,.agg c1] (iI ((fun(_:Shop) (_:Claim)=>(0:Int)) s (⟨x.own,1,x.a,x.b,x.mould,x.feature,x.number,x.worth⟩:Claim))) true true (.br (decide (((fun(_:Shop) (_:Claim)=>(0:Int)) s (⟨x.own,1,x.a,x.b,x.mould,x.feature,x.number,x.worth⟩:Claim))>(0:Int))) (.call 58 [iI 1,iI ((fun(_:Shop) (_:Claim)=>(0:Int)) s (⟨x.own,1,x.a,x.b,x.mould,x.feature,x.number,x.worth⟩:Claim)),.list 1 1 (litC 1 1 [iI x.number])] (.bool (outside 1 ((fun(_:Shop) (_:Claim)=>(0:Int)) s (⟨x.own,1,x.a,x.b,x.mould,x.feature,x.number,x.worth⟩:Claim)) ([x.number]:List Int))) c2 true (.br (outside 1 ((fun(_:Shop) (_:Claim)=>(0:Int)) s (⟨x.own,1,x.a,x.b,x.mould,x.feature,x.number,x.worth⟩:Claim)) ([x.number]:List Int)) c5 (.out (.r0 0)))) (.lit false (.out (.r0 0))))))))))))))))
noncomputable def g59_1(s:Shop)(x:Claim):P59_1->List Item × St
 |.e=>bd Tryz.f59 [.agg [iI s.features,tMould.lst s.moulds,tHead.lst s.heads],.agg [iI x.own,iI 1,iI x.a,iI x.b,iI x.mould,iI x.feature,iI x.number,iI x.worth]] 52
def n59_1:R59_1->Exit × St
 |.r0 r0=>(.ret,⟨mk 54 [(4,iI r0)],[],[]⟩)
def v59_1:R59_1->V
 |.r0 r0=>iI r0
theorem s59_1(s:Shop)(x:Claim):Sm 0 (g59_1 s x) (T59_1 s x) (n59_1)
 |.e=>⟨400,by kernel_rfl⟩
theorem q59_1:∀r,bodyQ Tryz.prog Tryz.f59 (·=v59_1 r) (n59_1 r).1 (n59_1 r).2
 |.r0 r0=>bq (iI r0) (by kernel_rfl)
theorem w59_1(s:Shop)(x:Claim){post:V->Prop}(h:WQ (T59_1 s x) v59_1 post .e):PC 59 [.agg [iI s.features,tMould.lst s.moulds,tHead.lst s.heads],.agg [iI x.own,iI 1,iI x.a,iI x.b,iI x.mould,iI x.feature,iI x.number,iI x.worth]] post:=
 PCalls.wq Tryz.func59 (s59_1 s x) q59_1 h
theorem c59_1(s:Shop)(x:Claim)(hk:x.kind=1)(h1:s.heads.length<=4)(h2:s.moulds.length<=2)(h3:1<=s.features/\s.features<=4)(h4:∀m∈s.moulds,1<=m.casts):PC 59 [.agg (tShop.cells s),.agg (tClaim.cells x)] (·=iI (claimErr s x)):=by
 obtain⟨own,kind,a,b,mould,feature,number,worth⟩:=x;simp only at hk;subst hk;generalize hx:(⟨own,1,a,b,mould,feature,number,worth⟩:Claim)=x
 have hm:named0 s x=true->1<=most0 s x:=fun h=>by
  simp only[named0,Bool.and_eq_true,index_iff]at h;refine h4 _ ?_;rw[gE,List.getElem?_eq_getElem (show x.mould.toNat<s.moulds.length by omega)];exact List.getElem_mem _
 have q1:=c170 s x h1 h2;have q2:=c162 s x h1;have q3:=c166 s x h2 h3;have q4:=c171 x;have q5:=c163 x;have q6:=c167 x;have q7:=c172 s x;have q8:=c168 s x;have q9:=c160 s x;subst hx;refine w59_1 _ (⟨own,1,a,b,mould,feature,number,worth⟩:Claim) (WP.step ?_);simp only[T59_1,Go,Ends',v59_1,Tr.sure,SS,outside1];repeat' with_reducible first|intro _|apply aI
 all_goals first|exact c58w _ _ _|exact c122|exact q2|exact q5|exact q9|(simp[claimErr,named,named0,named1,named4,pair,lasting,spare,fine0,fine1,fine4,most0,Go,Ends',v59_1,-List.getD_eq_getElem?_getD, *];done)|(simp_all [claimErr,named,named0,named1,named4,pair,lasting,spare,fine0,fine1,fine4,most0,Go,Ends',v59_1,-List.getD_eq_getElem?_getD];done)
 all_goals clear q1 q2 q3 q4 q5 q6 q7 q8 q9
 all_goals simp only[named0,named1,named4,fine0,fine1,fine4,most0,Bool.and_eq_true,Bool.not_eq_eq_eq_not]at*
 all_goals simp_all [claimErr,named,pair,lasting,spare]
 all_goals try (exfalso;omega)
inductive P59_2
 |e
inductive R59_2
 |r0 (r0:Int)
def T59_2(s:Shop)(x:Claim):P59_2->Tr P59_2 R59_2
 |.e=>let c1:List V:=[iI x.own,iI 2,iI x.a,iI x.b,iI x.mould,iI x.feature,iI x.number,iI x.worth];let c2:=(decide (1<=1))&&true;let c3:List V:=[iI s.features,tMould.lst s.moulds,tHead.lst s.heads];let c4:=outside 1 100 ([x.worth]:List Int);let c5:Tr P59_2 R59_2:=.out (.r0 7);let c6:=outside 0 1 ([x.own]:List Int);let c7:=outside 0 5 ([2]:List Int);(.call 58 [iI 0,iI 1,.list 1 1 (litC 1 1 [iI x.own])] (.bool c6) c2 true (.br c6 (.lit true (.lit true c5)) (.call 58 [iI 1,iI 100,.list 1 1 (litC 1 1 [iI x.worth])] (.bool c4) c2 true (.br c4 (.lit true c5) (.call 58 [iI 0,iI 5,.list 1 1 (litC 1 1 [iI 2])] (.bool c7) c2 true (.br c7 c5 (.front [(0,122,[],.arr 4 6 (fun r j=>kindCells.getD (r*4+j) uU))] [] (((decide (0<=(2:Int))&&decide ((2:Int)<(6:Int)))&&true)&&true) true (.call 162 [.agg c3,.agg c1,rR (fF 159)] (.bool (named1 s (⟨x.own,2,x.a,x.b,x.mould,x.feature,x.number,x.worth⟩:Claim))) true true (.br (!(named1 s (⟨x.own,2,x.a,x.b,x.mould,x.feature,x.number,x.worth⟩:Claim))) (.out (.r0 4)) (.call 163 [.agg c1] (.bool (fine1 (⟨x.own,2,x.a,x.b,x.mould,x.feature,x.number,x.worth⟩:Claim))) true true (.br (!(fine1 (⟨x.own,2,x.a,x.b,x.mould,x.feature,x.number,x.worth⟩:Claim))) (.out (.r0 2)) (.call 160 [.agg c3,.agg c1] (iI ((fun(_:Shop) (_:Claim)=>(0:Int)) s (⟨x.own,2,x.a,x.b,x.mould,x.feature,x.number,x.worth⟩:Claim))) true true (.br (decide (((fun(_:Shop) (_:Claim)=>(0:Int)) s (⟨x.own,2,x.a,x.b,x.mould,x.feature,x.number,x.worth⟩:Claim))>(0:Int))) (.call 58 [iI 1,iI ((fun(_:Shop) (_:Claim)=>(0:Int)) s (⟨x.own,2,x.a,x.b,x.mould,x.feature,x.number,x.worth⟩:Claim)),.list 1 1 (litC 1 1 [iI x.number])] (.bool (outside 1 ((fun(_:Shop) (_:Claim)=>(0:Int)) s (⟨x.own,2,x.a,x.b,x.mould,x.feature,x.number,x.worth⟩:Claim)) ([x.number]:List Int))) c2 true (.br (outside 1 ((fun(_:Shop) (_:Claim)=>(0:Int)) s (⟨x.own,2,x.a,x.b,x.mould,x.feature,x.number,x.worth⟩:Claim)) ([x.number]:List Int)) c5 (.out (.r0 0)))) (.lit false (.out (.r0 0))))))))))))))))
noncomputable def g59_2(s:Shop)(x:Claim):P59_2->List Item × St
 |.e=>bd Tryz.f59 [.agg [iI s.features,tMould.lst s.moulds,tHead.lst s.heads],.agg [iI x.own,iI 2,iI x.a,iI x.b,iI x.mould,iI x.feature,iI x.number,iI x.worth]] 52
def n59_2:R59_2->Exit × St
 |.r0 r0=>(.ret,⟨mk 54 [(4,iI r0)],[],[]⟩)
def v59_2:R59_2->V
 |.r0 r0=>iI r0
theorem s59_2(s:Shop)(x:Claim):Sm 0 (g59_2 s x) (T59_2 s x) (n59_2)
 |.e=>⟨400,by kernel_rfl⟩
theorem q59_2:∀r,bodyQ Tryz.prog Tryz.f59 (·=v59_2 r) (n59_2 r).1 (n59_2 r).2
 |.r0 r0=>bq (iI r0) (by kernel_rfl)
theorem w59_2(s:Shop)(x:Claim){post:V->Prop}(h:WQ (T59_2 s x) v59_2 post .e):PC 59 [.agg [iI s.features,tMould.lst s.moulds,tHead.lst s.heads],.agg [iI x.own,iI 2,iI x.a,iI x.b,iI x.mould,iI x.feature,iI x.number,iI x.worth]] post:=
 PCalls.wq Tryz.func59 (s59_2 s x) q59_2 h
theorem c59_2(s:Shop)(x:Claim)(hk:x.kind=2)(h1:s.heads.length<=4)(h2:s.moulds.length<=2)(h3:1<=s.features/\s.features<=4)(h4:∀m∈s.moulds,1<=m.casts):PC 59 [.agg (tShop.cells s),.agg (tClaim.cells x)] (·=iI (claimErr s x)):=by
 obtain⟨own,kind,a,b,mould,feature,number,worth⟩:=x;simp only at hk;subst hk;generalize hx:(⟨own,2,a,b,mould,feature,number,worth⟩:Claim)=x
 have hm:named0 s x=true->1<=most0 s x:=fun h=>by
  simp only[named0,Bool.and_eq_true,index_iff]at h;refine h4 _ ?_;rw[gE,List.getElem?_eq_getElem (show x.mould.toNat<s.moulds.length by omega)];exact List.getElem_mem _
 have q1:=c170 s x h1 h2;have q2:=c162 s x h1;have q3:=c166 s x h2 h3;have q4:=c171 x;have q5:=c163 x;have q6:=c167 x;have q7:=c172 s x;have q8:=c168 s x;have q9:=c160 s x;subst hx;refine w59_2 _ (⟨own,2,a,b,mould,feature,number,worth⟩:Claim) (WP.step ?_);simp only[T59_2,Go,Ends',v59_2,Tr.sure,SS,outside1];repeat' with_reducible first|intro _|apply aI
 all_goals first|exact c58w _ _ _|exact c122|exact q2|exact q5|exact q9|(simp[claimErr,named,named0,named1,named4,pair,lasting,spare,fine0,fine1,fine4,most0,Go,Ends',v59_2,-List.getD_eq_getElem?_getD, *];done)|(simp_all [claimErr,named,named0,named1,named4,pair,lasting,spare,fine0,fine1,fine4,most0,Go,Ends',v59_2,-List.getD_eq_getElem?_getD];done)
 all_goals clear q1 q2 q3 q4 q5 q6 q7 q8 q9
 all_goals simp only[named0,named1,named4,fine0,fine1,fine4,most0,Bool.and_eq_true,Bool.not_eq_eq_eq_not]at*
 all_goals simp_all [claimErr,named,pair,lasting,spare]
 all_goals try (exfalso;omega)
inductive P59_3
 |e
inductive R59_3
 |r0 (r0:Int)
def T59_3(s:Shop)(x:Claim):P59_3->Tr P59_3 R59_3
 |.e=>let c1:List V:=[iI x.own,iI 3,iI x.a,iI x.b,iI x.mould,iI x.feature,iI x.number,iI x.worth];let c2:=(decide (1<=1))&&true;let c3:List V:=[iI s.features,tMould.lst s.moulds,tHead.lst s.heads];let c4:=outside 1 100 ([x.worth]:List Int);let c5:Tr P59_3 R59_3:=.out (.r0 7);let c6:=outside 0 1 ([x.own]:List Int);let c7:=outside 0 5 ([3]:List Int);(.call 58 [iI 0,iI 1,.list 1 1 (litC 1 1 [iI x.own])] (.bool c6) c2 true (.br c6 (.lit true (.lit true c5)) (.call 58 [iI 1,iI 100,.list 1 1 (litC 1 1 [iI x.worth])] (.bool c4) c2 true (.br c4 (.lit true c5) (.call 58 [iI 0,iI 5,.list 1 1 (litC 1 1 [iI 3])] (.bool c7) c2 true (.br c7 c5 (.front [(0,122,[],.arr 4 6 (fun r j=>kindCells.getD (r*4+j) uU))] [] (((decide (0<=(3:Int))&&decide ((3:Int)<(6:Int)))&&true)&&true) true (.call 162 [.agg c3,.agg c1,rR (fF 159)] (.bool (named1 s (⟨x.own,3,x.a,x.b,x.mould,x.feature,x.number,x.worth⟩:Claim))) true true (.br (!(named1 s (⟨x.own,3,x.a,x.b,x.mould,x.feature,x.number,x.worth⟩:Claim))) (.out (.r0 4)) (.call 163 [.agg c1] (.bool (fine1 (⟨x.own,3,x.a,x.b,x.mould,x.feature,x.number,x.worth⟩:Claim))) true true (.br (!(fine1 (⟨x.own,3,x.a,x.b,x.mould,x.feature,x.number,x.worth⟩:Claim))) (.out (.r0 2)) (.call 160 [.agg c3,.agg c1] (iI ((fun(_:Shop) (_:Claim)=>(0:Int)) s (⟨x.own,3,x.a,x.b,x.mould,x.feature,x.number,x.worth⟩:Claim))) true true (.br (decide (((fun(_:Shop) (_:Claim)=>(0:Int)) s (⟨x.own,3,x.a,x.b,x.mould,x.feature,x.number,x.worth⟩:Claim))>(0:Int))) (.call 58 [iI 1,iI ((fun(_:Shop) (_:Claim)=>(0:Int)) s (⟨x.own,3,x.a,x.b,x.mould,x.feature,x.number,x.worth⟩:Claim)),.list 1 1 (litC 1 1 [iI x.number])] (.bool (outside 1 ((fun(_:Shop) (_:Claim)=>(0:Int)) s (⟨x.own,3,x.a,x.b,x.mould,x.feature,x.number,x.worth⟩:Claim)) ([x.number]:List Int))) c2 true (.br (outside 1 ((fun(_:Shop) (_:Claim)=>(0:Int)) s (⟨x.own,3,x.a,x.b,x.mould,x.feature,x.number,x.worth⟩:Claim)) ([x.number]:List Int)) c5 (.out (.r0 0)))) (.lit false (.out (.r0 0))))))))))))))))
noncomputable def g59_3(s:Shop)(x:Claim):P59_3->List Item × St
 |.e=>bd Tryz.f59 [.agg [iI s.features,tMould.lst s.moulds,tHead.lst s.heads],.agg [iI x.own,iI 3,iI x.a,iI x.b,iI x.mould,iI x.feature,iI x.number,iI x.worth]] 52
def n59_3:R59_3->Exit × St
 |.r0 r0=>(.ret,⟨mk 54 [(4,iI r0)],[],[]⟩)
def v59_3:R59_3->V
 |.r0 r0=>iI r0
theorem s59_3(s:Shop)(x:Claim):Sm 0 (g59_3 s x) (T59_3 s x) (n59_3)
 |.e=>⟨400,by kernel_rfl⟩
theorem q59_3:∀r,bodyQ Tryz.prog Tryz.f59 (·=v59_3 r) (n59_3 r).1 (n59_3 r).2
 |.r0 r0=>bq (iI r0) (by kernel_rfl)
theorem w59_3(s:Shop)(x:Claim){post:V->Prop}(h:WQ (T59_3 s x) v59_3 post .e):PC 59 [.agg [iI s.features,tMould.lst s.moulds,tHead.lst s.heads],.agg [iI x.own,iI 3,iI x.a,iI x.b,iI x.mould,iI x.feature,iI x.number,iI x.worth]] post:=
 PCalls.wq Tryz.func59 (s59_3 s x) q59_3 h
theorem c59_3(s:Shop)(x:Claim)(hk:x.kind=3)(h1:s.heads.length<=4)(h2:s.moulds.length<=2)(h3:1<=s.features/\s.features<=4)(h4:∀m∈s.moulds,1<=m.casts):PC 59 [.agg (tShop.cells s),.agg (tClaim.cells x)] (·=iI (claimErr s x)):=by
 obtain⟨own,kind,a,b,mould,feature,number,worth⟩:=x;simp only at hk;subst hk;generalize hx:(⟨own,3,a,b,mould,feature,number,worth⟩:Claim)=x
 have hm:named0 s x=true->1<=most0 s x:=fun h=>by
  simp only[named0,Bool.and_eq_true,index_iff]at h;refine h4 _ ?_;rw[gE,List.getElem?_eq_getElem (show x.mould.toNat<s.moulds.length by omega)];exact List.getElem_mem _
 have q1:=c170 s x h1 h2;have q2:=c162 s x h1;have q3:=c166 s x h2 h3;have q4:=c171 x;have q5:=c163 x;have q6:=c167 x;have q7:=c172 s x;have q8:=c168 s x;have q9:=c160 s x;subst hx;refine w59_3 _ (⟨own,3,a,b,mould,feature,number,worth⟩:Claim) (WP.step ?_);simp only[T59_3,Go,Ends',v59_3,Tr.sure,SS,outside1];repeat' with_reducible first|intro _|apply aI
 all_goals first|exact c58w _ _ _|exact c122|exact q2|exact q5|exact q9|(simp[claimErr,named,named0,named1,named4,pair,lasting,spare,fine0,fine1,fine4,most0,Go,Ends',v59_3,-List.getD_eq_getElem?_getD, *];done)|(simp_all [claimErr,named,named0,named1,named4,pair,lasting,spare,fine0,fine1,fine4,most0,Go,Ends',v59_3,-List.getD_eq_getElem?_getD];done)
 all_goals clear q1 q2 q3 q4 q5 q6 q7 q8 q9
 all_goals simp only[named0,named1,named4,fine0,fine1,fine4,most0,Bool.and_eq_true,Bool.not_eq_eq_eq_not]at*
 all_goals simp_all [claimErr,named,pair,lasting,spare]
 all_goals try (exfalso;omega)
inductive P59_4
 |e
inductive R59_4
 |r0 (r0:Int)
def T59_4(s:Shop)(x:Claim):P59_4->Tr P59_4 R59_4
 |.e=>let c1:List V:=[iI x.own,iI 4,iI x.a,iI x.b,iI x.mould,iI x.feature,iI x.number,iI x.worth];let c2:=(decide (1<=1))&&true;let c3:List V:=[.agg [iI s.features,tMould.lst s.moulds,tHead.lst s.heads],.agg c1];let c4:=outside 1 100 ([x.worth]:List Int);let c5:Tr P59_4 R59_4:=.out (.r0 7);let c6:=outside 0 1 ([x.own]:List Int);let c7:=outside 0 5 ([4]:List Int);(.call 58 [iI 0,iI 1,.list 1 1 (litC 1 1 [iI x.own])] (.bool c6) c2 true (.br c6 (.lit true (.lit true c5)) (.call 58 [iI 1,iI 100,.list 1 1 (litC 1 1 [iI x.worth])] (.bool c4) c2 true (.br c4 (.lit true c5) (.call 58 [iI 0,iI 5,.list 1 1 (litC 1 1 [iI 4])] (.bool c7) c2 true (.br c7 c5 (.front [(0,122,[],.arr 4 6 (fun r j=>kindCells.getD (r*4+j) uU))] [] (((decide (0<=(4:Int))&&decide ((4:Int)<(6:Int)))&&true)&&true) true (.call 166 c3 (.bool (named4 s (⟨x.own,4,x.a,x.b,x.mould,x.feature,x.number,x.worth⟩:Claim))) true true (.br (!(named4 s (⟨x.own,4,x.a,x.b,x.mould,x.feature,x.number,x.worth⟩:Claim))) (.out (.r0 4)) (.call 167 [.agg c1] (.bool (fine4 (⟨x.own,4,x.a,x.b,x.mould,x.feature,x.number,x.worth⟩:Claim))) true true (.br (!(fine4 (⟨x.own,4,x.a,x.b,x.mould,x.feature,x.number,x.worth⟩:Claim))) (.out (.r0 2)) (.call 168 c3 (iI ((fun(_:Shop) (_:Claim)=>(6:Int)) s (⟨x.own,4,x.a,x.b,x.mould,x.feature,x.number,x.worth⟩:Claim))) true true (.br (decide (((fun(_:Shop) (_:Claim)=>(6:Int)) s (⟨x.own,4,x.a,x.b,x.mould,x.feature,x.number,x.worth⟩:Claim))>(0:Int))) (.call 58 [iI 1,iI ((fun(_:Shop) (_:Claim)=>(6:Int)) s (⟨x.own,4,x.a,x.b,x.mould,x.feature,x.number,x.worth⟩:Claim)),.list 1 1 (litC 1 1 [iI x.number])] (.bool (outside 1 ((fun(_:Shop) (_:Claim)=>(6:Int)) s (⟨x.own,4,x.a,x.b,x.mould,x.feature,x.number,x.worth⟩:Claim)) ([x.number]:List Int))) c2 true (.br (outside 1 ((fun(_:Shop) (_:Claim)=>(6:Int)) s (⟨x.own,4,x.a,x.b,x.mould,x.feature,x.number,x.worth⟩:Claim)) ([x.number]:List Int)) c5 (.out (.r0 0)))) (.lit false (.out (.r0 0))))))))))))))))
noncomputable def g59_4(s:Shop)(x:Claim):P59_4->List Item × St
 |.e=>bd Tryz.f59 [.agg [iI s.features,tMould.lst s.moulds,tHead.lst s.heads],.agg [iI x.own,iI 4,iI x.a,iI x.b,iI x.mould,iI x.feature,iI x.number,iI x.worth]] 52
def n59_4:R59_4->Exit × St
 |.r0 r0=>(.ret,⟨mk 54 [(4,iI r0)],[],[]⟩)
def v59_4:R59_4->V
 |.r0 r0=>iI r0
theorem s59_4(s:Shop)(x:Claim):Sm 0 (g59_4 s x) (T59_4 s x) (n59_4)
 |.e=>⟨400,by kernel_rfl⟩
theorem q59_4:∀r,bodyQ Tryz.prog Tryz.f59 (·=v59_4 r) (n59_4 r).1 (n59_4 r).2
 |.r0 r0=>bq (iI r0) (by kernel_rfl)
theorem w59_4(s:Shop)(x:Claim){post:V->Prop}(h:WQ (T59_4 s x) v59_4 post .e):PC 59 [.agg [iI s.features,tMould.lst s.moulds,tHead.lst s.heads],.agg [iI x.own,iI 4,iI x.a,iI x.b,iI x.mould,iI x.feature,iI x.number,iI x.worth]] post:=
 PCalls.wq Tryz.func59 (s59_4 s x) q59_4 h
theorem c59_4(s:Shop)(x:Claim)(hk:x.kind=4)(h1:s.heads.length<=4)(h2:s.moulds.length<=2)(h3:1<=s.features/\s.features<=4)(h4:∀m∈s.moulds,1<=m.casts):PC 59 [.agg (tShop.cells s),.agg (tClaim.cells x)] (·=iI (claimErr s x)):=by
 obtain⟨own,kind,a,b,mould,feature,number,worth⟩:=x;simp only at hk;subst hk;generalize hx:(⟨own,4,a,b,mould,feature,number,worth⟩:Claim)=x
 have hm:named0 s x=true->1<=most0 s x:=fun h=>by
  simp only[named0,Bool.and_eq_true,index_iff]at h;refine h4 _ ?_;rw[gE,List.getElem?_eq_getElem (show x.mould.toNat<s.moulds.length by omega)];exact List.getElem_mem _
 have q1:=c170 s x h1 h2;have q2:=c162 s x h1;have q3:=c166 s x h2 h3;have q4:=c171 x;have q5:=c163 x;have q6:=c167 x;have q7:=c172 s x;have q8:=c168 s x;have q9:=c160 s x;subst hx;refine w59_4 _ (⟨own,4,a,b,mould,feature,number,worth⟩:Claim) (WP.step ?_);simp only[T59_4,Go,Ends',v59_4,Tr.sure,SS,outside1];repeat' with_reducible first|intro _|apply aI
 all_goals first|exact c58w _ _ _|exact c122|exact q3|exact q6|exact q8|(simp[claimErr,named,named0,named1,named4,pair,lasting,spare,fine0,fine1,fine4,most0,Go,Ends',v59_4,-List.getD_eq_getElem?_getD, *];done)|(simp_all [claimErr,named,named0,named1,named4,pair,lasting,spare,fine0,fine1,fine4,most0,Go,Ends',v59_4,-List.getD_eq_getElem?_getD];done)
 all_goals clear q1 q2 q3 q4 q5 q6 q7 q8 q9
 all_goals simp only[named0,named1,named4,fine0,fine1,fine4,most0,Bool.and_eq_true,Bool.not_eq_eq_eq_not]at*
 all_goals simp_all [claimErr,named,pair,lasting,spare]
 all_goals try (exfalso;omega)
inductive P59_5
 |e
inductive R59_5
 |r0 (r0:Int)
def T59_5(s:Shop)(x:Claim):P59_5->Tr P59_5 R59_5
 |.e=>let c1:List V:=[iI x.own,iI 5,iI x.a,iI x.b,iI x.mould,iI x.feature,iI x.number,iI x.worth];let c2:=(decide (1<=1))&&true;let c3:List V:=[.agg [iI s.features,tMould.lst s.moulds,tHead.lst s.heads],.agg c1];let c4:=outside 1 100 ([x.worth]:List Int);let c5:Tr P59_5 R59_5:=.out (.r0 7);let c6:=outside 0 1 ([x.own]:List Int);let c7:=outside 0 5 ([5]:List Int);(.call 58 [iI 0,iI 1,.list 1 1 (litC 1 1 [iI x.own])] (.bool c6) c2 true (.br c6 (.lit true (.lit true c5)) (.call 58 [iI 1,iI 100,.list 1 1 (litC 1 1 [iI x.worth])] (.bool c4) c2 true (.br c4 (.lit true c5) (.call 58 [iI 0,iI 5,.list 1 1 (litC 1 1 [iI 5])] (.bool c7) c2 true (.br c7 c5 (.front [(0,122,[],.arr 4 6 (fun r j=>kindCells.getD (r*4+j) uU))] [] (((decide (0<=(5:Int))&&decide ((5:Int)<(6:Int)))&&true)&&true) true (.call 166 c3 (.bool (named4 s (⟨x.own,5,x.a,x.b,x.mould,x.feature,x.number,x.worth⟩:Claim))) true true (.br (!(named4 s (⟨x.own,5,x.a,x.b,x.mould,x.feature,x.number,x.worth⟩:Claim))) (.out (.r0 4)) (.call 167 [.agg c1] (.bool (fine4 (⟨x.own,5,x.a,x.b,x.mould,x.feature,x.number,x.worth⟩:Claim))) true true (.br (!(fine4 (⟨x.own,5,x.a,x.b,x.mould,x.feature,x.number,x.worth⟩:Claim))) (.out (.r0 2)) (.call 168 c3 (iI ((fun(_:Shop) (_:Claim)=>(6:Int)) s (⟨x.own,5,x.a,x.b,x.mould,x.feature,x.number,x.worth⟩:Claim))) true true (.br (decide (((fun(_:Shop) (_:Claim)=>(6:Int)) s (⟨x.own,5,x.a,x.b,x.mould,x.feature,x.number,x.worth⟩:Claim))>(0:Int))) (.call 58 [iI 1,iI ((fun(_:Shop) (_:Claim)=>(6:Int)) s (⟨x.own,5,x.a,x.b,x.mould,x.feature,x.number,x.worth⟩:Claim)),.list 1 1 (litC 1 1 [iI x.number])] (.bool (outside 1 ((fun(_:Shop) (_:Claim)=>(6:Int)) s (⟨x.own,5,x.a,x.b,x.mould,x.feature,x.number,x.worth⟩:Claim)) ([x.number]:List Int))) c2 true (.br (outside 1 ((fun(_:Shop) (_:Claim)=>(6:Int)) s (⟨x.own,5,x.a,x.b,x.mould,x.feature,x.number,x.worth⟩:Claim)) ([x.number]:List Int)) c5 (.out (.r0 0)))) (.lit false (.out (.r0 0))))))))))))))))
noncomputable def g59_5(s:Shop)(x:Claim):P59_5->List Item × St
 |.e=>bd Tryz.f59 [.agg [iI s.features,tMould.lst s.moulds,tHead.lst s.heads],.agg [iI x.own,iI 5,iI x.a,iI x.b,iI x.mould,iI x.feature,iI x.number,iI x.worth]] 52
def n59_5:R59_5->Exit × St
 |.r0 r0=>(.ret,⟨mk 54 [(4,iI r0)],[],[]⟩)
def v59_5:R59_5->V
 |.r0 r0=>iI r0
theorem s59_5(s:Shop)(x:Claim):Sm 0 (g59_5 s x) (T59_5 s x) (n59_5)
 |.e=>⟨400,by kernel_rfl⟩
theorem q59_5:∀r,bodyQ Tryz.prog Tryz.f59 (·=v59_5 r) (n59_5 r).1 (n59_5 r).2
 |.r0 r0=>bq (iI r0) (by kernel_rfl)
theorem w59_5(s:Shop)(x:Claim){post:V->Prop}(h:WQ (T59_5 s x) v59_5 post .e):PC 59 [.agg [iI s.features,tMould.lst s.moulds,tHead.lst s.heads],.agg [iI x.own,iI 5,iI x.a,iI x.b,iI x.mould,iI x.feature,iI x.number,iI x.worth]] post:=
 PCalls.wq Tryz.func59 (s59_5 s x) q59_5 h
theorem c59_5(s:Shop)(x:Claim)(hk:x.kind=5)(h1:s.heads.length<=4)(h2:s.moulds.length<=2)(h3:1<=s.features/\s.features<=4)(h4:∀m∈s.moulds,1<=m.casts):PC 59 [.agg (tShop.cells s),.agg (tClaim.cells x)] (·=iI (claimErr s x)):=by
 obtain⟨own,kind,a,b,mould,feature,number,worth⟩:=x;simp only at hk;subst hk;generalize hx:(⟨own,5,a,b,mould,feature,number,worth⟩:Claim)=x
 have hm:named0 s x=true->1<=most0 s x:=fun h=>by
  simp only[named0,Bool.and_eq_true,index_iff]at h;refine h4 _ ?_;rw[gE,List.getElem?_eq_getElem (show x.mould.toNat<s.moulds.length by omega)];exact List.getElem_mem _
 have q1:=c170 s x h1 h2;have q2:=c162 s x h1;have q3:=c166 s x h2 h3;have q4:=c171 x;have q5:=c163 x;have q6:=c167 x;have q7:=c172 s x;have q8:=c168 s x;have q9:=c160 s x;subst hx;refine w59_5 _ (⟨own,5,a,b,mould,feature,number,worth⟩:Claim) (WP.step ?_);simp only[T59_5,Go,Ends',v59_5,Tr.sure,SS,outside1];repeat' with_reducible first|intro _|apply aI
 all_goals first|exact c58w _ _ _|exact c122|exact q3|exact q6|exact q8|(simp[claimErr,named,named0,named1,named4,pair,lasting,spare,fine0,fine1,fine4,most0,Go,Ends',v59_5,-List.getD_eq_getElem?_getD, *];done)|(simp_all [claimErr,named,named0,named1,named4,pair,lasting,spare,fine0,fine1,fine4,most0,Go,Ends',v59_5,-List.getD_eq_getElem?_getD];done)
 all_goals clear q1 q2 q3 q4 q5 q6 q7 q8 q9
 all_goals simp only[named0,named1,named4,fine0,fine1,fine4,most0,Bool.and_eq_true,Bool.not_eq_eq_eq_not]at*
 all_goals simp_all [claimErr,named,pair,lasting,spare]
 all_goals try (exfalso;omega)
theorem c59(s:Shop)(x:Claim)(h1:s.heads.length<=4)(h2:s.moulds.length<=2)(h3:1<=s.features/\s.features<=4)(h4:∀m∈s.moulds,1<=m.casts):PC 59 [.agg (tShop.cells s),.agg (tClaim.cells x)] (·=iI (claimErr s x)):=by
 by_cases hk:within x.kind 0 5=true
 ·rw[within_iff]at hk;rcases show x.kind=0\/x.kind=1\/x.kind=2\/x.kind=3\/x.kind=4\/x.kind=5 by omega with h|h|h|h|h|h
  ·exact c59_0 s x h h1 h2 h3 h4
  ·exact c59_1 s x h h1 h2 h3 h4
  ·exact c59_2 s x h h1 h2 h3 h4
  ·exact c59_3 s x h h1 h2 h3 h4
  ·exact c59_4 s x h h1 h2 h3 h4
  ·exact c59_5 s x h h1 h2 h3 h4
 ·exact c59x s x (by simpa using hk)
inductive P16
 |e
 |l0 (x0_30:Int)
 |l1 (x1_4:Int) (x1_47:Int)
inductive R16
 |r0 (r0:Int) (r1:Int) (r2:Int)
def T16(p0:Case):P16->Tr P16 R16
 |.e=>let c1:=shopCheck p0.shop;(.call 57 [.agg [iI p0.shop.features,tMould.lst p0.shop.moulds,tHead.lst p0.shop.heads]] (.tuple [iI (c1.1),iI (c1.2.1),iI (c1.2.2)]) true true (.br (c1.2.2 !=(0:Int)) (.out (.r0 1 0 (c1.2.2))) (.br ((p0.owners.length:Int) !=(p0.shop.heads.length:Int)) (.out (.r0 2 0 3)) (.go (.l0 0)))))
 |.l0 x0_30=>let c1:=p0.owners.getD (x0_30).toNat tint.zero;let c2:=x0_30<(p0.owners.length:Int);let c3:=outside 0 1 ([c1]:List Int);(.br (decide c2) (.need (decide (0<=x0_30)&&decide c2) (.call 58 [iI 0,iI 1,.list 1 1 (litC 1 1 [iI c1])] (.bool c3) ((decide (1<=1))&&true) true (.br c3 (.out (.r0 2 x0_30 7)) (.need (inR .i64 (x0_30+(1:Int))) (.go (.l0 (x0_30+(1:Int)))))))) (.br (decide ((p0.claims.length:Int)>(5:Int))) (.out (.r0 3 0 3)) (.go (.l1 ((shopCheck p0.shop).2.2) 0))))
 |.l1 x1_4 x1_47=>let c1:=p0.claims.getD (x1_47).toNat tClaim.zero;let c2:=claimErr p0.shop c1;let c3:=x1_47<(p0.claims.length:Int);(.br (decide c3) (.need (decide (0<=x1_47)&&decide c3) (.call 59 [.agg [iI p0.shop.features,tMould.lst p0.shop.moulds,tHead.lst p0.shop.heads],.agg [iI (c1.own),iI (c1.kind),iI (c1.a),iI (c1.b),iI (c1.mould),iI (c1.feature),iI (c1.number),iI (c1.worth)]] (iI c2) true true (.br (c2 !=(0:Int)) (.out (.r0 3 x1_47 c2)) (.need (inR .i64 (x1_47+(1:Int))) (.go (.l1 c2 (x1_47+(1:Int)))))))) (.out (.r0 0 0 0)))
noncomputable def g16(p0:Case):P16->List Item × St
 |.e=>bd Tryz.f16 [.agg (cC p0)] 60
 |.l0 x0_30=>(cutOf Tryz.f16 0,⟨mk 61 [(1,.ref 0 0 0),(2,iI 0),(3,iI 0),(4,iI ((shopCheck p0.shop).2.2)),(28,tint.lst p0.owners),(29,iI (p0.owners.length:Int)),(30,iI x0_30)],[.cells (cC p0)],[]⟩)
 |.l1 x1_4 x1_47=>(cutOf Tryz.f16 1,⟨mk 61 [(1,.ref 0 0 0),(2,iI 0),(3,iI 0),(4,iI x1_4),(45,tClaim.lst p0.claims),(46,iI (p0.claims.length:Int)),(47,iI x1_47)],[.cells (cC p0)],[]⟩)
def n16:R16->Exit × St
 |.r0 r0 r1 r2=>(.ret,⟨mk 61 [(2,iI r0),(3,iI r1),(4,iI r2)],[],[]⟩)
def v16:R16->V
 |.r0 r0 r1 r2=>.tuple [iI r0,iI r1,iI r2]
theorem s16(p0:Case):Sm 0 (g16 p0) (T16 p0) (n16)
 |.e=>⟨400,by kernel_rfl⟩
 |.l0 _=>⟨400,by kernel_rfl⟩
 |.l1 _ _=>⟨400,by kernel_rfl⟩
theorem q16:∀r,bodyQ Tryz.prog Tryz.f16 (·=v16 r) (n16 r).1 (n16 r).2
 |.r0 r0 r1 r2=>bq (.tuple [iI r0,iI r1,iI r2]) (by kernel_rfl)
theorem w16(p0:Case){post:V->Prop}(h:WQ (T16 p0) v16 post .e):PC 16 [.agg (cC p0)] post:=
 PCalls.wq Tryz.func16 (s16 p0) q16 h
theorem c16(c:Case):PC 16 [.agg (tCase.cells c)] (·=.tuple [iI (caseCheck c).1,iI (caseCheck c).2.1,iI (caseCheck c).2.2]):=by
 refine w16 _ (WP.step ?_);simp only[T16,Go,Ends',v16,Tr.sure,SS];repeat' with_reducible first|intro _|apply aI
 all_goals first|exact c57 _|(simp[caseCheck,Go,Ends',v16,-List.getD_eq_getElem?_getD, *];done)|skip
 rename_i h1 h2;obtain⟨o2,o3,o4,om,-⟩:=okShop h1;refine WP.findE (fun i=>.l0 i) rfl c.owners 0 (fun _ n=>if within n 0 1=true then 0 else 7) (fun i hi=> ?_) fun hI=> ?_
 ·have hr:inR .i64 ((i:Int)+1)=true:=inR64 (by omega) (by omega);refine WP.once ?_;simp only[T16,Tr.sure,SS,hi,z1,outside1];repeat' with_reducible first|intro _|apply aI
  all_goals first|exact c58w _ _ _|(simp[hr,caseCheck,Go,Ends',v16,-List.getD_eq_getElem?_getD, *];done)|(simp_all [hr,caseCheck,Go,Ends',v16,-List.getD_eq_getElem?_getD];done)
 ·refine WP.step ?_;simp only[T16,Go,Ends',v16,Tr.sure,SS];repeat' with_reducible first|intro _|apply aI
  all_goals first|(simp[caseCheck,hI,Go,Ends',v16,-List.getD_eq_getElem?_getD, *];done)|skip
  rename_i h3;refine WP.findE (fun i=>.l1 0 i) (by rw[h1];rfl) c.claims tClaim.zero (fun _ x=>claimErr c.shop x) (fun i hi=> ?_) fun hJ=> ?_
  ·have hr:inR .i64 ((i:Int)+1)=true:=inR64 (by omega) (by omega);refine WP.once ?_;simp only[T16,Tr.sure,SS,hi];repeat' with_reducible first|intro _|apply aI
   all_goals first|exact c59 _ _ o4 o3 o2 (fun m hm=>(om m hm).1.1)|(simp[hr,caseCheck,hI,Go,Ends',v16,-List.getD_eq_getElem?_getD, *];done)|(simp+contextual [hr,caseCheck,hI,Go,Ends',v16,-List.getD_eq_getElem?_getD, *];done)
  ·refine WP.step ?_;simp only[T16,Go,Ends',v16,Tr.sure,SS];repeat' with_reducible first|intro _|apply aI
   all_goals simp[caseCheck,hI,hJ,Go,Ends',v16,-List.getD_eq_getElem?_getD, *]
end
noncomputable section
inductive P102
 |e
 |l0 (x0_4:Int) (a0_1:List Cast)
 |l1 (x0_4:Int) (x1_5:Int) (a1_1:List Cast)
inductive R102
 |r0 (r0:List Cast)
def T102(p0:Shop):P102->Tr P102 R102
 |.e=>(.wait 4 (.own 3 84 2 (.go (.l0 0 ([])))))
 |.l0 x0_4 a0_1=>(.br (decide (x0_4<(p0.moulds.length:Int))) (.go (.l1 x0_4 1 a0_1)) (.out (.r0 a0_1)))
 |.l1 x0_4 x1_5 a1_1=>(.need (decide (0<=x0_4)&&decide (x0_4<(p0.moulds.length:Int))) (.br (decide (x1_5<=(p0.moulds.getD (x0_4).toNat tMould.zero).casts)) (.need ((decide (a1_1.length=a1_1.length)&&decide (a1_1.length+1<=4294967296))&&decide (1<=1)) (.scal (fun _=>true) (.need (inR .i64 (x1_5+(1:Int))) (.go (.l1 x0_4 (x1_5+(1:Int)) ((⟨x0_4,x1_5⟩:Cast)::a1_1)))))) (.need (inR .i64 (x0_4+(1:Int))) (.go (.l0 (x0_4+(1:Int)) a1_1)))))
noncomputable def g102(p0:Shop):P102->List Item × St
 |.e=>bd Tryz.f102 [.agg [iI p0.features,tMould.lst p0.moulds,tHead.lst p0.heads]] 29
 |.l0 x0_4 a0_1=>(cutOf Tryz.f102 0,⟨mk 30 [(1,.ref 0 0 0),(2,.nils),(3,.row 1 a0_1.length),(4,iI x0_4)],[.cells [iI p0.features,tMould.lst p0.moulds,tHead.lst p0.heads],.rows 84 2 a0_1.length (rowsRev tCast a0_1)],[]⟩)
 |.l1 x0_4 x1_5 a1_1=>(cutOf Tryz.f102 1,⟨mk 30 [(1,.ref 0 0 0),(2,.nils),(3,.row 1 a1_1.length),(4,iI x0_4),(5,iI x1_5),(6,iI x0_4),(7,.ref 0 0 1),(8,tMould.lst p0.moulds),(9,iI (p0.moulds.length:Int)),(10,.bool (decide (x0_4<(p0.moulds.length:Int))))],[.cells [iI p0.features,tMould.lst p0.moulds,tHead.lst p0.heads],.rows 84 2 a1_1.length (rowsRev tCast a1_1)],[]⟩)
def n102:R102->Exit × St
 |.r0 r0=>(.ret,⟨mk 30 [(2,.row 1 r0.length)],[.gone,.rows 84 2 r0.length (rowsRev tCast r0)],[]⟩)
def v102:R102->V
 |.r0 r0=>tCast.lst r0.reverse
theorem s102(p0:Shop):Sm 0 (g102 p0) (T102 p0) (n102)
 |.e=>⟨400,by kernel_rfl⟩
 |.l0 _ _=>⟨400,by kernel_rfl⟩
 |.l1 _ _ _=>⟨400,by kernel_rfl⟩
theorem q102:∀r,bodyQ Tryz.prog Tryz.f102 (·=v102 r) (n102 r).1 (n102 r).2
 |.r0 r0=>⟨.inr rfl,by simp[n102],(.row 1 r0.length),(tCast.lst r0.reverse),by kernel_rfl,(.weak (.row rfl (Nat.le_refl _)) (VLe.rev tCast r0)),rfl⟩
theorem w102(p0:Shop){post:V->Prop}(h:WQ (T102 p0) v102 post .e):PC 102 [.agg [iI p0.features,tMould.lst p0.moulds,tHead.lst p0.heads]] post:=
 PCalls.wq Tryz.func102 (s102 p0) q102 h
theorem c102(s:Shop)(h:OkShop s):PC 102 [.agg (tShop.cells s)] (·=tCast.lst (allCasts s)):=by
 have hm:=h.nm;refine w102 _ (WP.step ?_);simp only[T102,Go,Ends',v102,Tr.sure,SS];repeat' with_reducible first|intro _|apply aI
 refine WP.run (fun i=>.l0 i (((List.range i).flatMap (castsAt s)).reverse)) rfl s.moulds.length (fun i hi=> ?_) ?_
 ·have hr:inR .i64 ((i:Int)+1)=true:=inR64 (by omega) (by omega);have hc:=(h.mould _ (getD_mem zMould s.moulds i hi)).1
  have hl:((List.range i).flatMap (castsAt s)).length<=8:=by
   have h1:=flat_le (l:=List.range i) (f:=castsAt s) (b:=4) fun j hj=>by
    have:=(h.mould _ (getD_mem zMould s.moulds j (by have:=List.mem_range.1 hj;omega))).1;simp only[castsAt,List.length_map,List.length_range];omega
   simp only[List.length_range]at h1;omega
  refine WP.step ?_;simp only[T102,Go,Ends',v102,Tr.sure,SS,hi];repeat' with_reducible first|intro _|apply aI
  generalize hk:(s.moulds.getD i zMould).casts.toNat=k
  have hcat:castsAt s i=(List.range k).map fun(n:Nat)=>⟨(i:Int),(n:Int)+1⟩:=by rw[<-hk];rfl
  refine WP.run (fun n=>.l1 i ((n:Int)+1) (((List.range n).map fun(n:Nat)=>(⟨(i:Int),(n:Int)+1⟩:Cast)).reverse++((List.range i).flatMap (castsAt s)).reverse)) rfl k (fun n hn=> ?_) ?_
  ·have hr':inR .i64 ((n:Int)+1+1)=true:=inR64 (by omega) (by omega);have hn':(n:Int)+1<=(s.moulds.getD i zMould).casts:=by omega
   have hlen:(((List.range n).map fun(n:Nat)=>(⟨(i:Int),(n:Int)+1⟩:Cast)).reverse++((List.range i).flatMap (castsAt s)).reverse).length+1<=4294967296:=by simp only[List.length_append,List.length_reverse,List.length_map,List.length_range];omega
   refine WP.once ?_;simp only[T102,Tr.sure,SS,hi,z2,hn'];repeat' with_reducible first|intro _|apply aI
   all_goals first|(simp[hr',hlen,List.range_succ,Go,Ends',v102,-List.getD_eq_getElem?_getD, *];done)|(simp_all [hr',hlen,List.range_succ,Go,Ends',v102,-List.getD_eq_getElem?_getD];done)
  ·have hn':¬(k:Int)+1<=(s.moulds.getD i zMould).casts:=by omega
   have hfl:((List.range (i+1)).flatMap (castsAt s)).reverse=((List.range k).map fun(n:Nat)=>(⟨(i:Int),(n:Int)+1⟩:Cast)).reverse++((List.range i).flatMap (castsAt s)).reverse:=by
    rw[List.range_succ,List.flatMap_append,List.reverse_append,<-hcat];simp
   refine WP.once ?_;simp only[T102,Tr.sure,SS,hi,z2,hn'];repeat' with_reducible first|intro _|apply aI
   all_goals simp[hr,hfl,Go,Ends',v102,-List.getD_eq_getElem?_getD, *]
 ·refine WP.step ?_;simp only[T102,Go,Ends',v102,Tr.sure,SS];repeat' with_reducible first|intro _|apply aI
  all_goals simp[allCasts,Go,Ends',v102,-List.getD_eq_getElem?_getD, *]
inductive P185
 |e
 |l0 (x0_10:Int) (c0_2_0:Int) (c0_2_1:Int)
inductive R185
 |r0 (r0_0:Int) (r0_1:Int)
def T185(p0:Shop)(p1:List Cast)(p2:Int)(p3:Int):P185->Tr P185 R185
 |.e=>let c1:=((p0.moulds.getD (p2).toNat tMould.zero).lasts).getD (p3).toNat tSpan.zero;(.need (decide (0<=p2)&&decide (p2<(p0.moulds.length:Int))) (.need (decide (0<=p3)&&decide (p3<(((p0.moulds.getD (p2).toNat tMould.zero).lasts.length):Int))) (.go (.l0 0 (c1.lo) (c1.hi)))))
 |.l0 x0_10 c0_2_0 c0_2_1=>let c1:=x0_10+(1:Int);let c2:=decide (0<=x0_10)&&decide (x0_10<(p1.length:Int));let c3:=p1.getD (x0_10).toNat tCast.zero;let c4:=p0.heads.getD (x0_10).toNat tHead.zero;let c5:Tr P185 R185:=.need (inR .i64 c1) (.go (.l0 c1 c0_2_0 c0_2_1));let c6:=(c4.shows).getD (p3).toNat tint.zero;(.br (decide (x0_10<(p1.length:Int))) (.need c2 (.br (c3.mould !=p2) c5 (.need (decide (0<=x0_10)&&decide (x0_10<(p0.heads.length:Int))) (.need (decide (0<=p3)&&decide (p3<((c4.shows.length):Int))) (.br (c6==(1:Int)) (.front [] [] ((c2&&true)&&true) true (.need (inR .i64 c1) (.go (.l0 c1 (max c0_2_0 (c3.number)) c0_2_1)))) (.br (c6==(2:Int)) (.front [] [] ((c2&&((inR .i64 (c3.number-(1:Int)))&&true))&&true) true (.need (inR .i64 c1) (.go (.l0 c1 c0_2_0 (min c0_2_1 (c3.number-(1:Int))))))) c5)))))) (.out (.r0 c0_2_0 c0_2_1)))
noncomputable def g185(p0:Shop)(p1:List Cast)(p2:Int)(p3:Int):P185->List Item × St
 |.e=>bd Tryz.f185 [.agg [iI p0.features,tMould.lst p0.moulds,tHead.lst p0.heads],tCast.lst p1,iI p2,iI p3] 62
 |.l0 x0_10 c0_2_0 c0_2_1=>(cutOf Tryz.f185 0,⟨mk 66 [(1,tCast.lst p1),(2,iI p2),(3,iI p3),(4,.ref 0 0 0),(8,.ref 1 0 0),(9,.ref 2 0 0),(10,iI x0_10)],[.cells [iI p0.features,tMould.lst p0.moulds,tHead.lst p0.heads],.cells [iI 0,iI 0],.cells [iI c0_2_0,iI c0_2_1]],[]⟩)
def n185:R185->Exit × St
 |.r0 r0_0 r0_1=>(.ret,⟨mk 66 [(8,.ref 1 0 0)],[.gone,.cells [iI r0_0,iI r0_1]],[]⟩)
def v185:R185->V
 |.r0 r0_0 r0_1=>.agg [iI r0_0,iI r0_1]
theorem s185(p0:Shop)(p1:List Cast)(p2:Int)(p3:Int):Sm 0 (g185 p0 p1 p2 p3) (T185 p0 p1 p2 p3) (n185)
 |.e=>⟨400,by kernel_rfl⟩
 |.l0 _ _ _=>⟨400,by kernel_rfl⟩
theorem q185:∀r,bodyQ Tryz.prog Tryz.f185 (·=v185 r) (n185 r).1 (n185 r).2
 |.r0 r0_0 r0_1=>bq (.agg [iI r0_0,iI r0_1]) (by kernel_rfl)
theorem w185(p0:Shop)(p1:List Cast)(p2:Int)(p3:Int){post:V->Prop}(h:WQ (T185 p0 p1 p2 p3) v185 post .e):PC 185 [.agg [iI p0.features,tMould.lst p0.moulds,tHead.lst p0.heads],tCast.lst p1,iI p2,iI p3] post:=
 PCalls.wq Tryz.func185 (s185 p0 p1 p2 p3) q185 h
theorem c185(s:Shop)(l:List Cast)(m f:Int)(h:OkShop s)(hl:l.length<=s.heads.length)(hc:∀c∈l,CastOk s c)(hm:0<=m/\m<s.moulds.length)(hf:0<=f/\f<s.features):
  PC 185 [.agg (tShop.cells s),tCast.lst l,iI m,iI f] (·=.agg (tSpan.cells (lastOf s l m f))):=by
 have hh:=h.nh;have h1:=(h.mould _ (getD_mem zMould s.moulds m.toNat (by omega))).2.1;refine w185 _ _ _ _ (WP.step ?_);simp only[T185,Go,Ends',v185,Tr.sure,SS,z2,z4,hm,hf,h1];repeat' with_reducible first|intro _|apply aI
 refine WP.run (fun i=>.l0 i (lastTo s l m f i).lo (lastTo s l m f i).hi) rfl l.length (fun i hi=> ?_) ?_
 ·have hr:inR .i64 ((i:Int)+1)=true:=inR64 (by omega) (by omega);have hi':i<s.heads.length:=by omega
  have h2:=(h.head _ (getD_mem zHead s.heads i hi')).1;have hn:=castOk_le h (hc _ (getD_mem zCast l i hi));have hr':inR .i64 ((l.getD i zCast).number-1)=true:=inR64 (by omega) (by omega);have hs:lastTo s l m f (i+1)=lastStep s m f i (l.getD i zCast) (lastTo s l m f i):=rfl;refine WP.once ?_;simp only[T185,Tr.sure,SS,hi,hi',z3,z5,z1,hf,h2];repeat' with_reducible first|intro _|apply aI
  all_goals simp[hr,hr',hs,lastStep,narrow,Go,Ends',v185,-List.getD_eq_getElem?_getD, *]
 ·refine WP.step ?_;simp only[T185,Go,Ends',v185,Tr.sure,SS];repeat' with_reducible first|intro _|apply aI
  all_goals simp[lastOf,tSpan,Go,Ends',v185,-List.getD_eq_getElem?_getD, *]
theorem sameC_iff{a b:Cast}:sameC a b=true↔a.mould=b.mould/\a.number=b.number:=by simp[sameC]
theorem sameC_no{a b:Cast}:sameC a b=false↔¬(a.mould=b.mould/\a.number=b.number):=by rw[<-sameC_iff];simp
inductive P143
 |e
 |l0 (x0_5:Int)
 |l1 (x0_5:Int) (x1_6:Int)
 |l2 (x2_7:Int)
 |l3 (x2_7:Int) (x3_8:Int)
inductive R143
 |r0 (r0:Bool)
def T143(p0:Shop)(p1:List Cast):P143->Tr P143 R143
 |.e=>(.go (.l0 0))
 |.l0 x0_5=>(.br (decide (x0_5<(p1.length:Int))) (.go (.l1 x0_5 0)) (.go (.l2 0)))
 |.l1 x0_5 x1_6=>let c1:=p1.getD (x1_6).toNat tCast.zero;let c2:=p1.getD (x0_5).toNat tCast.zero;(.br (decide (x1_6<x0_5)) (.front [] [] (((decide (0<=x0_5)&&decide (x0_5<(p1.length:Int)))&&((decide (0<=x1_6)&&decide (x1_6<(p1.length:Int)))&&true))&&true) true (.br ((c2.mould==c1.mould)&&((c2.number==c1.number)&&true)) (.out (.r0 false)) (.need (inR .i64 (x1_6+(1:Int))) (.go (.l1 x0_5 (x1_6+(1:Int))))))) (.need (inR .i64 (x0_5+(1:Int))) (.go (.l0 (x0_5+(1:Int))))))
 |.l2 x2_7=>(.br (decide (x2_7<(p0.moulds.length:Int))) (.go (.l3 x2_7 0)) (.out (.r0 true)))
 |.l3 x2_7 x3_8=>let c1:=lastOf p0 p1 x2_7 x3_8;(.br (decide (x3_8<p0.features)) (.call 185 [.agg [iI p0.features,tMould.lst p0.moulds,tHead.lst p0.heads],tCast.lst p1,iI x2_7,iI x3_8] (.agg [iI (c1.lo),iI (c1.hi)]) true true (.br (decide (c1.lo>c1.hi)) (.out (.r0 false)) (.need (inR .i64 (x3_8+(1:Int))) (.go (.l3 x2_7 (x3_8+(1:Int))))))) (.need (inR .i64 (x2_7+(1:Int))) (.go (.l2 (x2_7+(1:Int))))))
noncomputable def g143(p0:Shop)(p1:List Cast):P143->List Item × St
 |.e=>bd Tryz.f143 [.agg [iI p0.features,tMould.lst p0.moulds,tHead.lst p0.heads],tCast.lst p1] 51
 |.l0 x0_5=>(cutOf Tryz.f143 0,⟨mk 53 [(1,tCast.lst p1),(2,.ref 0 0 0),(4,.bool false),(5,iI x0_5)],[.cells [iI p0.features,tMould.lst p0.moulds,tHead.lst p0.heads]],[]⟩)
 |.l1 x0_5 x1_6=>(cutOf Tryz.f143 1,⟨mk 53 [(1,tCast.lst p1),(2,.ref 0 0 0),(4,.bool false),(5,iI x0_5),(6,iI x1_6),(10,iI x0_5),(11,tCast.lst p1),(12,iI (p1.length:Int)),(13,.bool (decide (x0_5<(p1.length:Int))))],[.cells [iI p0.features,tMould.lst p0.moulds,tHead.lst p0.heads]],[]⟩)
 |.l2 x2_7=>(cutOf Tryz.f143 2,⟨mk 53 [(1,tCast.lst p1),(2,.ref 0 0 0),(4,.bool false),(7,iI x2_7)],[.cells [iI p0.features,tMould.lst p0.moulds,tHead.lst p0.heads]],[]⟩)
 |.l3 x2_7 x3_8=>(cutOf Tryz.f143 3,⟨mk 53 [(1,tCast.lst p1),(2,.ref 0 0 0),(4,.bool false),(7,iI x2_7),(8,iI x3_8),(30,iI x2_7),(31,.ref 0 0 1),(32,tMould.lst p0.moulds),(33,iI (p0.moulds.length:Int)),(34,.bool (decide (x2_7<(p0.moulds.length:Int))))],[.cells [iI p0.features,tMould.lst p0.moulds,tHead.lst p0.heads]],[]⟩)
def n143:R143->Exit × St
 |.r0 r0=>(.ret,⟨mk 53 [(4,.bool r0)],[],[]⟩)
def v143:R143->V
 |.r0 r0=>.bool r0
theorem s143(p0:Shop)(p1:List Cast):Sm 0 (g143 p0 p1) (T143 p0 p1) (n143)
 |.e=>⟨400,by kernel_rfl⟩
 |.l0 _=>⟨400,by kernel_rfl⟩
 |.l1 _ _=>⟨400,by kernel_rfl⟩
 |.l2 _=>⟨400,by kernel_rfl⟩
 |.l3 _ _=>⟨400,by kernel_rfl⟩
theorem q143:∀r,bodyQ Tryz.prog Tryz.f143 (·=v143 r) (n143 r).1 (n143 r).2
 |.r0 r0=>bq (.bool r0) (by kernel_rfl)
theorem w143(p0:Shop)(p1:List Cast){post:V->Prop}(h:WQ (T143 p0 p1) v143 post .e):PC 143 [.agg [iI p0.features,tMould.lst p0.moulds,tHead.lst p0.heads],tCast.lst p1] post:=
 PCalls.wq Tryz.func143 (s143 p0 p1) q143 h
theorem c143(s:Shop)(l:List Cast)(h:OkShop s)(hl:l.length<=s.heads.length)(hc:∀c∈l,CastOk s c):PC 143 [.agg (tShop.cells s),tCast.lst l] (·=.bool (agrees s l)):=by
 have hh:=h.nh;have hm:=h.nm;have hf:=h.feat;refine w143 _ _ (WP.step ?_);simp only[T143,Go,Ends',v143,Tr.sure,SS];repeat' with_reducible first|intro _|apply aI
 refine WP.anyR (fun i=>.l0 i) rfl l.length (fun i=>(List.range i).any fun k=>sameC (l.getD i zCast) (l.getD k zCast)) (fun i hi=> ?_) fun hI=> ?_
 ·have hr:inR .i64 ((i:Int)+1)=true:=inR64 (by omega) (by omega);refine WP.step ?_;simp only[T143,Go,Ends',v143,Tr.sure,SS,hi];repeat' with_reducible first|intro _|apply aI
  refine WP.anyR (fun k=>.l1 i k) rfl i (fun k=>sameC (l.getD i zCast) (l.getD k zCast)) (fun k hk=> ?_) fun hK=> ?_
  ·have hr':inR .i64 ((k:Int)+1)=true:=inR64 (by omega) (by omega);have hk':k<l.length:=by omega
   refine WP.once ?_;simp only[T143,Tr.sure,SS,hi,hk,hk',z5];repeat' with_reducible first|intro _|apply aI
   all_goals first|(simp[hr',sameC_iff,sameC_no,agrees,dup,-List.any_eq_true,-List.any_eq_false,Go,Ends',v143,-List.getD_eq_getElem?_getD, *];done)|(simp_all [hr',sameC_iff,sameC_no,agrees,dup,-List.any_eq_true,-List.any_eq_false,Go,Ends',v143,-List.getD_eq_getElem?_getD];done)
  ·refine WP.once ?_;simp only[T143,Tr.sure,SS];repeat' with_reducible first|intro _|apply aI
   all_goals simp[hr,hK,Go,Ends',v143,-List.getD_eq_getElem?_getD, *]
 ·refine WP.step ?_;simp only[T143,Go,Ends',v143,Tr.sure,SS];repeat' with_reducible first|intro _|apply aI
  obtain⟨F,hF⟩:∃F:Nat,s.features=F:=⟨s.features.toNat,by omega⟩
  refine WP.anyR (fun i=>.l2 i) rfl s.moulds.length (fun m=>(List.range s.features.toNat).any fun f=>decide ((lastOf s l m f).hi<(lastOf s l m f).lo)) (fun i hi=> ?_) fun hJ=> ?_
  ·have hr:inR .i64 ((i:Int)+1)=true:=inR64 (by omega) (by omega);refine WP.step ?_;simp only[T143,Go,Ends',v143,Tr.sure,SS,hi];repeat' with_reducible first|intro _|apply aI
   refine WP.anyR (fun k=>.l3 i k) rfl F (fun f=>decide ((lastOf s l i f).hi<(lastOf s l i f).lo)) (fun k hk=> ?_) fun hK=> ?_
   ·have hr':inR .i64 ((k:Int)+1)=true:=inR64 (by omega) (by omega);have hcall:=c185 s l i k h hl hc (by omega) (by omega);have hk':(k:Int)<s.features:=by omega
    refine WP.once ?_;simp only[T143,Tr.sure,SS,hk'];repeat' with_reducible first|intro _|apply aI
    all_goals first|exact hcall|(simp[hr',agrees,bad,-List.any_eq_true,-List.any_eq_false,Go,Ends',v143,-List.getD_eq_getElem?_getD, *];done)|(simp_all [hr',agrees,bad,-List.any_eq_true,-List.any_eq_false,Go,Ends',v143,-List.getD_eq_getElem?_getD];done)
   ·have hk':¬(F:Int)<s.features:=by omega
    refine WP.once ?_;simp only[T143,Tr.sure,SS,hk'];repeat' with_reducible first|intro _|apply aI
    all_goals simp[hr,hK,Go,Ends',v143,-List.getD_eq_getElem?_getD, *]
  ·refine WP.step ?_;simp only[T143,Go,Ends',v143,Tr.sure,SS];repeat' with_reducible first|intro _|apply aI
   all_goals simp_all [agrees,dup,bad,hI,hJ,Go,Ends',v143,-List.getD_eq_getElem?_getD]
theorem z6{τ:Type}{E:Ty τ}:(tlist E).zero=[]:=rfl
theorem scal_casts(l:List Cast):((List.range l.length).all fun r=>(List.range 2).all fun j=>(rowsOf tCast l r j).scalar)=true:=by
 rw[List.all_eq_true];intro r _;rfl
theorem VLe.litNil{τ:Type}{E:Ty τ}:VLe (.list 1 1 (litC 1 1 [.nils])) ((tlist E).lst ([[]]:List (List τ))):=fun G β x hx=>by
 cases hx with
 |list hG hs hc hn h=>
  refine .list hG hs hc hn fun i j hi hj=> ?_;have hj0:j=0:=by have:j<1:=hj;omega
  have hi0:i=0:=by have:i<1:=hi;omega
  subst hj0;subst hi0;exact VLe.nils _ _ _ (h 0 0 (by omega) (by omega))
theorem VLe.app{τ:Type}(E:Ty τ)(l:List τ)(x:τ){cells:List V}{w:Nat}(hc:cells=E.cells x){r j:Nat}(hr:r<l.length+1):VLe (appC l.length (rowsOf E l) (litC w 1 cells) r j) (rowsOf E (l++ [x]) r j):=by
 subst hc
 have:appC l.length (rowsOf E l) (litC w 1 (E.cells x)) r j=rowsOf E (l++ [x]) r j:=by
  unfold appC;by_cases h:r<l.length
  ·rw[if_pos h];simp only[rowsOf,gE,aL h]
  ·rw[if_neg h];have e:r=l.length:=by omega
   subst e;simp[rowsOf,litC,gE]
 rw[this];exact VLe.refl _
theorem VLe.snoc{τ:Type}(E:Ty τ)(l:List τ)(x:τ):VLe (.list E.w (l.length+1) (rowsOf E (l++ [x]))) (E.lst (l++ [x])):=by
 show VLe _ (.list E.w (l++ [x]).length _);rw[List.length_append];exact VLe.refl _
theorem c143_snoc(s:Shop)(l:List Cast)(c:Cast)(h:OkShop s)(hl:(l++ [c]).length<=s.heads.length)(hc:∀c'∈l++ [c],CastOk s c'):PC 143 [.agg (tShop.cells s),.list 2 (l.length+1) (rowsOf tCast (l++ [c]))] (·=.bool (agrees s (l++ [c]))):=
 PCalls.arg (pre:=[.agg (tShop.cells s)]) (c143 s (l++ [c]) h hl hc) (VLe.snoc tCast l c)
inductive P95
 |e
 |l0 (x0_3:List (List Cast)) (x0_4:Int)
 |l1 (x0_3:List (List Cast)) (x0_4:Int) (x1_7:Int) (a1_1:List (List Cast))
 |l2 (x0_3:List (List Cast)) (x0_4:Int) (x1_7:Int) (x2_8:Int) (a2_1:List (List Cast))
inductive R95
 |r0 (r0:List (List Cast))
def T95(p0:Shop):P95->Tr P95 R95
 |.e=>let c1:=([[]]:List (List Cast));let c2:V:=.list 1 1 (litC 1 1 [.nils]);(.wait 8 (.frz 1 ((decide (1<=1))&&((decide (1<=1))&&true)) (.vle 3 c2 ((tlist tCast).lst c1) (.vle 10 c2 ((tlist tCast).lst c1) (.go (.l0 c1 0))))))
 |.l0 x0_3 x0_4=>(.br (decide (x0_4<(p0.heads.length:Int))) (.wait 5 (.own 5 63 1 (.call 102 [.agg [iI p0.features,tMould.lst p0.moulds,tHead.lst p0.heads]] (tCast.lst (allCasts p0)) true true (.go (.l1 x0_3 x0_4 0 ([])))))) (.out (.r0 x0_3)))
 |.l1 x0_3 x0_4 x1_7 a1_1=>let c1:V:=.list 1 a1_1.length (rowsRev (tlist tCast) a1_1);let c2:=decide (a1_1.length<=a1_1.length);let c3:=(tlist tCast).lst a1_1.reverse;(.br (decide (x1_7<(x0_3.length:Int))) (.go (.l2 x0_3 x0_4 x1_7 0 a1_1)) (.need (inR .i64 (x0_4+(1:Int))) (.frz 1 (c2&&(c2&&(c2&&true))) (.vle 3 c1 c3 (.vle 5 c1 c3 (.vle 51 c1 c3 (.go (.l0 a1_1.reverse (x0_4+(1:Int))))))))))
 |.l2 x0_3 x0_4 x1_7 x2_8 a2_1=>let c1:=x0_3.getD (x1_7).toNat (tlist tCast).zero;let c3:=c1.length+1;let c5:=x2_8+(1:Int);let c6:=decide (c3<=c3);let c7:=(allCasts p0).getD (x2_8).toNat tCast.zero;let c2:=c1++ [c7];let c4:=rowsOf tCast c2;let c8:=x2_8<(((allCasts p0).length):Int);let c9:V:=.list 2 c3 c4;(.br (decide c8) (.front [] [] (((decide (0<=x1_7)&&decide (x1_7<(x0_3.length:Int)))&&((decide (c1.length<=4294967296)&&(List.range (c1.length)).all fun r=>(List.range 2).all fun j=>((rowsOf tCast c1) r j).scalar)&&((decide (0<=x2_8)&&decide c8)&&true)))&&true) true (.need ((decide (c1.length=c1.length)&&decide (c1.length+1<=4294967296))&&true) (.scal (fun _=>true) (.own 32 84 2 (.telb 2 2 c3 (appC (c1.length) (rowsOf tCast c1) (litC 2 1 [iI (c7.mould),iI (c7.number)])) c4 (.call 143 [.agg [iI p0.features,tMould.lst p0.moulds,tHead.lst p0.heads],.list 2 c3 c4] (.bool (agrees p0 c2)) (c6&&true) true (.br (agrees p0 c2) (.frz 2 (c6&&(c6&&(c6&&true))) (.vle 9 c9 (tCast.lst c2) (.vle 43 c9 (tCast.lst c2) (.vle 45 c9 (tCast.lst c2) (.need ((decide (a2_1.length=a2_1.length)&&decide (a2_1.length+1<=4294967296))&&decide (1<=1)) (.scal (fun _=>true) (.need (inR .i64 c5) (.go (.l2 x0_3 x0_4 x1_7 c5 (c2::a2_1)))))))))) (.need (inR .i64 c5) (.go (.l2 x0_3 x0_4 x1_7 c5 a2_1)))))))))) (.need (inR .i64 (x1_7+(1:Int))) (.go (.l1 x0_3 x0_4 (x1_7+(1:Int)) a2_1))))
noncomputable def g95(p0:Shop):P95->List Item × St
 |.e=>bd Tryz.f95 [.agg [iI p0.features,tMould.lst p0.moulds,tHead.lst p0.heads]] 52
 |.l0 x0_3 x0_4=>(cutOf Tryz.f95 0,⟨mk 53 [(1,.ref 0 0 0),(2,.nils),(3,(tlist tCast).lst x0_3),(4,iI x0_4)],[.cells [iI p0.features,tMould.lst p0.moulds,tHead.lst p0.heads]],[]⟩)
 |.l1 x0_3 x0_4 x1_7 a1_1=>(cutOf Tryz.f95 1,⟨mk 53 [(1,.ref 0 0 0),(2,.nils),(3,(tlist tCast).lst x0_3),(4,iI x0_4),(5,.row 1 a1_1.length),(6,tCast.lst (allCasts p0)),(7,iI x1_7),(11,iI x0_4),(12,.ref 0 0 2),(13,tHead.lst p0.heads),(14,iI (p0.heads.length:Int)),(15,.bool (decide (x0_4<(p0.heads.length:Int)))),(18,.agg [iI p0.features,tMould.lst p0.moulds,tHead.lst p0.heads]),(19,tCast.lst (allCasts p0))],[.cells [iI p0.features,tMould.lst p0.moulds,tHead.lst p0.heads],.rows 63 1 a1_1.length (rowsRev (tlist tCast) a1_1)],[]⟩)
 |.l2 x0_3 x0_4 x1_7 x2_8 a2_1=>(cutOf Tryz.f95 2,⟨mk 53 [(1,.ref 0 0 0),(2,.nils),(3,(tlist tCast).lst x0_3),(4,iI x0_4),(5,.row 1 a2_1.length),(6,tCast.lst (allCasts p0)),(7,iI x1_7),(8,iI x2_8),(11,iI x0_4),(12,.ref 0 0 2),(13,tHead.lst p0.heads),(14,iI (p0.heads.length:Int)),(15,.bool (decide (x0_4<(p0.heads.length:Int)))),(18,.agg [iI p0.features,tMould.lst p0.moulds,tHead.lst p0.heads]),(19,tCast.lst (allCasts p0)),(20,iI x1_7),(21,(tlist tCast).lst x0_3),(22,iI (x0_3.length:Int)),(23,.bool (decide (x1_7<(x0_3.length:Int))))],[.cells [iI p0.features,tMould.lst p0.moulds,tHead.lst p0.heads],.rows 63 1 a2_1.length (rowsRev (tlist tCast) a2_1)],[]⟩)
def n95:R95->Exit × St
 |.r0 r0=>(.ret,⟨mk 53 [(2,(tlist tCast).lst r0)],[],[]⟩)
def v95:R95->V
 |.r0 r0=>(tlist tCast).lst r0
theorem s95(p0:Shop):Sm 0 (g95 p0) (T95 p0) (n95)
 |.e=>⟨400,by kernel_rfl⟩
 |.l0 _ _=>⟨400,by kernel_rfl⟩
 |.l1 _ _ _ _=>⟨400,by kernel_rfl⟩
 |.l2 _ _ _ _ _=>⟨400,by kernel_rfl⟩
theorem q95:∀r,bodyQ Tryz.prog Tryz.f95 (·=v95 r) (n95 r).1 (n95 r).2
 |.r0 r0=>bq ((tlist tCast).lst r0) (by kernel_rfl)
theorem w95(p0:Shop){post:V->Prop}(h:WQ (T95 p0) v95 post .e):PC 95 [.agg [iI p0.features,tMould.lst p0.moulds,tHead.lst p0.heads]] post:=
 PCalls.wq Tryz.func95 (s95 p0) q95 h
theorem c95(s:Shop)(h:OkShop s):PC 95 [.agg (tShop.cells s)] (·=(tlist tCast).lst (truths s)):=by
 have hh:=h.nh;refine w95 _ (WP.step ?_);simp only[T95,Go,Ends',v95,Tr.sure,SS];repeat' with_reducible first|intro _|apply aI
 all_goals first|exact VLe.litNil|(simp[Go,Ends',v95,-List.getD_eq_getElem?_getD, *];done)|skip
 refine WP.run (fun i=>.l0 (growN s i) i) rfl s.heads.length (fun i hi=> ?_) ?_
 ·have hr:inR .i64 ((i:Int)+1)=true:=inR64 (by omega) (by omega);have hsm:=grow_small h (n:=i) (by omega);refine WP.step ?_;simp only[T95,Go,Ends',v95,Tr.sure,SS,hi];repeat' with_reducible first|intro _|apply aI
  all_goals first|exact c102 s h|skip
  refine WP.run (fun k=>.l1 (growN s i) i k ((((growN s i).take k).flatMap (ext s)).reverse)) rfl (growN s i).length (fun k hk=> ?_) ?_
  ·have hr':inR .i64 ((k:Int)+1)=true:=inR64 (by omega) (by omega);obtain⟨hlen,hok⟩:=grow_mem (getD_mem [] (growN s i) k hk);have hft:=flat_take (ext s) [] (growN s i) k hk;have hal:=flat_le (l:=(growN s i).take k) (f:=ext s) (b:=8) fun x _=>ext_le h x;have hac:=allCasts_le h;simp only[List.length_take]at hal;generalize hacc:(((growN s i).take k).flatMap (ext s)).reverse=acc
   have hacl:acc.length<=32768:=by rw[<-hacc,List.length_reverse];omega
   refine WP.step ?_;simp only[T95,Go,Ends',v95,Tr.sure,SS,hk,z6];repeat' with_reducible first|intro _|apply aI
   generalize hL:(growN s i).getD k []=L at*
   refine WP.run (fun c=>.l2 (growN s i) i k c (((((allCasts s).take c).map fun x=>L++ [x]).filter (agrees s)).reverse++acc)) rfl (allCasts s).length (fun c hc=> ?_) ?_
   ·have hr'':inR .i64 ((c:Int)+1)=true:=inR64 (by omega) (by omega);have hCm:=getD_mem zCast (allCasts s) c hc;have hts:=take_snoc zCast (allCasts s) c hc
    have hcall:=c143_snoc s L ((allCasts s).getD c zCast) h (by simp;omega) (fun x hx=>by
     rcases List.mem_append.1 hx with hx|hx
     ·exact hok x hx
     ·simp only[List.mem_singleton]at hx;subst hx;exact mem_allCasts.1 hCm)
    have hfl:((((allCasts s).take c).map fun x=>L++ [x]).filter (agrees s)).length<=8:=by
     refine Nat.le_trans (List.length_filter_le _ _) ?_;simp;omega
    have hsc:=scal_casts L;have h1:L.length<=4294967296:=by omega
    have h2:L.length+1<=4294967296:=by omega
    have h3:(((((allCasts s).take c).map fun x=>L++ [x]).filter (agrees s)).reverse++acc).length+1<=4294967296:=by
     rw[List.length_append,List.length_reverse];omega
    refine WP.once ?_;simp only[T95,Tr.sure,SS,hc,hk,z6,z5,hL];repeat' with_reducible first|intro _|apply aI
    all_goals first|exact hcall|exact VLe.app tCast L _ rfl (by assumption)|exact VLe.snoc tCast L _|(simp[hr'',hsc,h1,h2,h3,hts,Go,Ends',v95,-List.getD_eq_getElem?_getD, *];done)|(simp_all [hr'',hsc,h1,h2,h3,hts,Go,Ends',v95,-List.getD_eq_getElem?_getD];done)
   ·refine WP.once ?_;simp only[T95,Tr.sure,SS,Int.lt_irrefl,List.take_length];repeat' with_reducible first|intro _|apply aI
    all_goals simp[hr',hft,ext,hL,Go,Ends',v95,-List.getD_eq_getElem?_getD, *]
  ·have he:(((growN s i).take (growN s i).length).flatMap (ext s)).reverse.reverse=growN s (i+1):=by rw[List.take_length,List.reverse_reverse];rfl
   refine WP.once ?_;simp only[T95,Tr.sure,SS,Int.lt_irrefl];repeat' with_reducible first|intro _|apply aI
   all_goals first|exact VLe.rev (tlist tCast) _|(simp[hr,he,Go,Ends',v95,-List.getD_eq_getElem?_getD, *];done)|(simp_all [hr,he,Go,Ends',v95,-List.getD_eq_getElem?_getD];done)
 ·refine WP.step ?_;simp only[T95,Go,Ends',v95,Tr.sure,SS];repeat' with_reducible first|intro _|apply aI
  all_goals simp[truths,Go,Ends',v95,-List.getD_eq_getElem?_getD, *]
end
noncomputable section
theorem cast_beq(a b:Cast):(a==b)=(a.mould==b.mould&&a.number==b.number):=by
 obtain⟨a1,a2⟩:=a;obtain⟨b1,b2⟩:=b;rw[Bool.eq_iff_iff];simp
end
noncomputable section
theorem tel_lit{τ:Type}(E:Ty τ)(xs:List τ){w n:Nat}{cs:List V}(hn:n=xs.length)(hc:xs.flatMap E.cells=cs)(hw:∀x,(E.cells x).length=E.w)(hww:w=E.w:=by rfl){r j:Nat}(hr:r<n)(hj:j<w):VLe (litC w n cs r j) (rowsOf E xs r j):=by
 subst hww;subst hn;subst hc;rw[litC_eq hr,flatMap_get E hw xs r j hr hj];exact VLe.refl _
theorem tel_one{τ:Type}(E:Ty τ)(l:List τ){n:Nat}(hn:l.length=n):VLe (.list E.w n (rowsOf E l)) (E.lst l):=by subst hn;exact VLe.refl _
theorem underL_int(n:Int):underL 0 [iI n]=true:=rfl
end
end Go.Proofs.YtdamoemndifpmaaGreat
