/-
  Part of the proof of the Claim laws. Conditions: those that stand in each theorem.
-/
import Derived.Laws.RangeAny
import Derived.Test.YtdamoemndifpmaaGreatB08
set_option linter.unusedSimpArgs false
set_option linter.unusedVariables false
set_option maxRecDepth 100000
namespace Go.Proofs.YtdamoemndifpmaaGreat
open Ab
noncomputable section
inductive P123
 |e
inductive R123
 |r0 (r0:Bool)
def T123(p0:Int)(p1:Int)(p2:Int):P123->Tr P123 R123
 |.e=>(.br (decide (p0≥p1)) (.out (.r0 (decide (p0<=p2)))) (.out (.r0 false)))
noncomputable def g123(p0:Int)(p1:Int)(p2:Int):P123->List Item × St
 |.e=>bd Tryz.f123 [iI p0,iI p1,iI p2] 12
def n123:R123->Exit × St
 |.r0 r0=>(.ret,⟨mk 15 [(6,.bool r0)],[],[]⟩)
def v123:R123->V
 |.r0 r0=>.bool r0
theorem s123(p0:Int)(p1:Int)(p2:Int):Sm 0 (g123 p0 p1 p2) (T123 p0 p1 p2) (n123)
 |.e=>⟨400,by kernel_rfl⟩
theorem q123:∀r,bodyQ Tryz.prog Tryz.f123 (·=v123 r) (n123 r).1 (n123 r).2
 |.r0 r0=>bq (.bool r0) (by kernel_rfl)
theorem w123(p0:Int)(p1:Int)(p2:Int){post:V->Prop}(h:WQ (T123 p0 p1 p2) v123 post .e):PC 123 [iI p0,iI p1,iI p2] post:=
 PCalls.wq Tryz.func123 (s123 p0 p1 p2) q123 h
theorem c123(n a b:Int):PC 123 [iI n,iI a,iI b] (·=.bool (within n a b)):=by
 refine w123 _ _ _ (WP.step ?_);simp only[T123,Go,Ends',v123,Tr.sure,SS];repeat' with_reducible first|intro _|apply aI
 all_goals simp[within,GE.ge,Go,Ends',v123,-List.getD_eq_getElem?_getD, *]
 all_goals simp_all [within]
inductive P61
 |e
inductive R61
 |r0 (r0:Bool)
def T61(p0:Int)(p1:Int)(p2:Int):P61->Tr P61 R61
 |.e=>(.br (decide (p0≥p1)) (.out (.r0 (decide (p0<=p2)))) (.out (.r0 false)))
noncomputable def g61(p0:Int)(p1:Int)(p2:Int):P61->List Item × St
 |.e=>bd Tryz.f61 [iI p0,iI p1,iI p2] 12
def n61:R61->Exit × St
 |.r0 r0=>(.ret,⟨mk 15 [(6,.bool r0)],[],[]⟩)
def v61:R61->V
 |.r0 r0=>.bool r0
theorem s61(p0:Int)(p1:Int)(p2:Int):Sm 0 (g61 p0 p1 p2) (T61 p0 p1 p2) (n61)
 |.e=>⟨400,by kernel_rfl⟩
theorem q61:∀r,bodyQ Tryz.prog Tryz.f61 (·=v61 r) (n61 r).1 (n61 r).2
 |.r0 r0=>bq (.bool r0) (by kernel_rfl)
theorem w61(p0:Int)(p1:Int)(p2:Int){post:V->Prop}(h:WQ (T61 p0 p1 p2) v61 post .e):PC 61 [iI p0,iI p1,iI p2] post:=
 PCalls.wq Tryz.func61 (s61 p0 p1 p2) q61 h
theorem c61(n a b:Int):PC 61 [iI n,iI a,iI b] (·=.bool (within n a b)):=by
 refine w61 _ _ _ (WP.step ?_);simp only[T61,Go,Ends',v61,Tr.sure,SS];repeat' with_reducible first|intro _|apply aI
 all_goals simp[within,GE.ge,Go,Ends',v61,-List.getD_eq_getElem?_getD, *]
 all_goals simp_all [within]
inductive P128
 |e
inductive R128
 |r0 (r0:Bool)
def T128(p0:Int):P128->Tr P128 R128
 |.e=>(.br (p0==(1:Int)) (.lit true (.out (.r0 true))) (.br (p0==(2:Int)) (.out (.r0 true)) (.out (.r0 (p0==(3:Int))))))
noncomputable def g128(p0:Int):P128->List Item × St
 |.e=>bd Tryz.f128 [iI p0] 12
def n128:R128->Exit × St
 |.r0 r0=>(.ret,⟨mk 13 [(2,.bool r0)],[],[]⟩)
def v128:R128->V
 |.r0 r0=>.bool r0
theorem s128(p0:Int):Sm 0 (g128 p0) (T128 p0) (n128)
 |.e=>⟨400,by kernel_rfl⟩
theorem q128:∀r,bodyQ Tryz.prog Tryz.f128 (·=v128 r) (n128 r).1 (n128 r).2
 |.r0 r0=>bq (.bool r0) (by kernel_rfl)
theorem w128(p0:Int){post:V->Prop}(h:WQ (T128 p0) v128 post .e):PC 128 [iI p0] post:=
 PCalls.wq Tryz.func128 (s128 p0) q128 h
theorem c128(n:Int):PC 128 [iI n] (·=.bool (pair n)):=by
 refine w128 _ (WP.step ?_);simp only[T128,Go,Ends',v128,Tr.sure,SS];repeat' with_reducible first|intro _|apply aI
 all_goals simp[pair,Go,Ends',v128,-List.getD_eq_getElem?_getD, *]
inductive P130
 |e
inductive R130
 |r0 (r0:Bool)
def T130(p0:Int):P130->Tr P130 R130
 |.e=>(.br (p0==(4:Int)) (.out (.r0 true)) (.out (.r0 (p0==(5:Int)))))
noncomputable def g130(p0:Int):P130->List Item × St
 |.e=>bd Tryz.f130 [iI p0] 8
def n130:R130->Exit × St
 |.r0 r0=>(.ret,⟨mk 9 [(2,.bool r0)],[],[]⟩)
def v130:R130->V
 |.r0 r0=>.bool r0
theorem s130(p0:Int):Sm 0 (g130 p0) (T130 p0) (n130)
 |.e=>⟨400,by kernel_rfl⟩
theorem q130:∀r,bodyQ Tryz.prog Tryz.f130 (·=v130 r) (n130 r).1 (n130 r).2
 |.r0 r0=>bq (.bool r0) (by kernel_rfl)
theorem w130(p0:Int){post:V->Prop}(h:WQ (T130 p0) v130 post .e):PC 130 [iI p0] post:=
 PCalls.wq Tryz.func130 (s130 p0) q130 h
theorem c130(n:Int):PC 130 [iI n] (·=.bool (lasting n)):=by
 refine w130 _ (WP.step ?_);simp only[T130,Go,Ends',v130,Tr.sure,SS];repeat' with_reducible first|intro _|apply aI
 all_goals simp[lasting,Go,Ends',v130,-List.getD_eq_getElem?_getD, *]
inductive P127
 |e
inductive R127
 |r0 (r0:Bool)
def T127(p0:Shop)(p1:Claim):P127->Tr P127 R127
 |.e=>let c1:=(p0.heads.length:Int)-(1:Int);let c2:=(p0.moulds.length:Int)-(1:Int);let c3:=p0.features-(1:Int);let c4:=within p1.mould 0 c2;let c5:=within p1.a 0 c1;let c6:Tr P127 R127:=.out (.r0 false);let c7:List V:=[iI p1.mould,iI 0,iI c2];(.front [] [] (((inR .i64 c1)&&((inR .i64 c2)&&true))&&true) true (.call 128 [iI p1.kind] (.bool (pair p1.kind)) true true (.br (pair p1.kind) (.call 61 [iI p1.a,iI 0,iI c1] (.bool c5) true true (.br c5 (.call 61 [iI p1.b,iI 0,iI c1] (.bool (within p1.b 0 c1)) true true (.out (.r0 (within p1.b 0 c1)))) c6)) (.call 130 [iI p1.kind] (.bool (lasting p1.kind)) true true (.br (lasting p1.kind) (.call 61 c7 (.bool c4) true true (.br c4 (.need (inR .i64 c3) (.call 61 [iI p1.feature,iI 0,iI c3] (.bool (within p1.feature 0 c3)) true true (.out (.r0 (within p1.feature 0 c3))))) c6)) (.call 61 [iI p1.a,iI 0,iI c1] (.bool c5) true true (.br c5 (.call 61 c7 (.bool c4) true true (.out (.r0 c4))) c6)))))))
noncomputable def g127(p0:Shop)(p1:Claim):P127->List Item × St
 |.e=>bd Tryz.f127 [.agg [iI p0.features,tMould.lst p0.moulds,tHead.lst p0.heads],.agg [iI p1.own,iI p1.kind,iI p1.a,iI p1.b,iI p1.mould,iI p1.feature,iI p1.number,iI p1.worth]] 51
def n127:R127->Exit × St
 |.r0 r0=>(.ret,⟨mk 53 [(4,.bool r0)],[],[]⟩)
def v127:R127->V
 |.r0 r0=>.bool r0
theorem s127(p0:Shop)(p1:Claim):Sm 0 (g127 p0 p1) (T127 p0 p1) (n127)
 |.e=>⟨400,by kernel_rfl⟩
theorem q127:∀r,bodyQ Tryz.prog Tryz.f127 (·=v127 r) (n127 r).1 (n127 r).2
 |.r0 r0=>bq (.bool r0) (by kernel_rfl)
theorem w127(p0:Shop)(p1:Claim){post:V->Prop}(h:WQ (T127 p0 p1) v127 post .e):PC 127 [.agg [iI p0.features,tMould.lst p0.moulds,tHead.lst p0.heads],.agg [iI p1.own,iI p1.kind,iI p1.a,iI p1.b,iI p1.mould,iI p1.feature,iI p1.number,iI p1.worth]] post:=
 PCalls.wq Tryz.func127 (s127 p0 p1) q127 h
theorem c127(s:Shop)(x:Claim)(h1:s.heads.length<=4)(h2:s.moulds.length<=2)(h3:within s.features 1 4=true):PC 127 [.agg (tShop.cells s),.agg (tClaim.cells x)] (·=.bool (named s x)):=by
 have i1:inR .i64 ((s.heads.length:Int)-1)=true:=inR64 (by omega) (by omega);have i2:inR .i64 ((s.moulds.length:Int)-1)=true:=inR64 (by omega) (by omega);have i3:inR .i64 (s.features-1)=true:=by rw[within_iff]at h3;exact inR64 (by omega) (by omega)
 refine w127 _ _ (WP.step ?_);simp only[T127,Go,Ends',v127,Tr.sure,SS];repeat' with_reducible first|intro _|apply aI
 all_goals first|exact c128 _|exact c130 _|exact c61 _ _ _|(simp[named,index,Go,Ends',v127,-List.getD_eq_getElem?_getD, *];done)
inductive P129
 |e
inductive R129
 |r0 (r0:Bool)
def T129(p0:Claim):P129->Tr P129 R129
 |.e=>let c1:Tr P129 R129:=.out (.r0 false);(.call 128 [iI p0.kind] (.bool (pair p0.kind)) true true (.br (pair p0.kind) (.br (p0.mould==(0:Int)) (.br (p0.feature==(0:Int)) (.out (.r0 (p0.number==(0:Int)))) c1) (.lit false c1)) (.call 130 [iI p0.kind] (.bool (lasting p0.kind)) true true (.br (lasting p0.kind) (.br (p0.a==(0:Int)) (.out (.r0 (p0.b==(0:Int)))) c1) (.br (p0.b==(0:Int)) (.out (.r0 (p0.feature==(0:Int)))) c1)))))
noncomputable def g129(p0:Claim):P129->List Item × St
 |.e=>bd Tryz.f129 [.agg [iI p0.own,iI p0.kind,iI p0.a,iI p0.b,iI p0.mould,iI p0.feature,iI p0.number,iI p0.worth]] 37
def n129:R129->Exit × St
 |.r0 r0=>(.ret,⟨mk 38 [(2,.bool r0)],[],[]⟩)
def v129:R129->V
 |.r0 r0=>.bool r0
theorem s129(p0:Claim):Sm 0 (g129 p0) (T129 p0) (n129)
 |.e=>⟨400,by kernel_rfl⟩
theorem q129:∀r,bodyQ Tryz.prog Tryz.f129 (·=v129 r) (n129 r).1 (n129 r).2
 |.r0 r0=>bq (.bool r0) (by kernel_rfl)
theorem w129(p0:Claim){post:V->Prop}(h:WQ (T129 p0) v129 post .e):PC 129 [.agg [iI p0.own,iI p0.kind,iI p0.a,iI p0.b,iI p0.mould,iI p0.feature,iI p0.number,iI p0.worth]] post:=
 PCalls.wq Tryz.func129 (s129 p0) q129 h
theorem c129(x:Claim):PC 129 [.agg (tClaim.cells x)] (·=.bool (spare x)):=by
 refine w129 _ (WP.step ?_);simp only[T129,Go,Ends',v129,Tr.sure,SS];repeat' with_reducible first|intro _|apply aI
 all_goals first|exact c128 _|exact c130 _|(simp[spare,Go,Ends',v129,-List.getD_eq_getElem?_getD, *];done)
theorem data_len(s:ByteArray):s.data.toList.length=s.size:=rfl
theorem data_get(s:ByteArray)(i:Nat):s.data.getD i 0=s.data.toList.getD i 0:=by simp
theorem inR8(c:UInt8):inR .i64 (c.toNat:Int)=true:=inR64 (by omega) (by have:=c.toNat_lt;omega)
inductive P179
 |e
 |l0 (x0_3:Int)
inductive R179
 |r0 (r0:Bool)
def T179(p0:ByteArray):P179->Tr P179 R179
 |.e=>(.br ((p0.size:Int)==(0:Int)) (.lit true (.out (.r0 false))) (.br (decide ((p0.size:Int)>(16:Int))) (.out (.r0 false)) (.go (.l0 0))))
 |.l0 x0_3=>let c1:=((p0.data.getD (x0_3).toNat 0).toNat:Int);let c2:Tr P179 R179:=.need (inR .i64 (x0_3+(1:Int))) (.go (.l0 (x0_3+(1:Int))));let c3:=decide (0<=x0_3)&&decide (x0_3<(p0.size:Int));let c4:Tr P179 R179:=.lit true (.lit true (.out (.r0 false)));let c5:=within c1 97 122;let c6:Tr P179 R179:=.lit false (.lit false c2);(.br (decide (x0_3<(p0.size:Int))) (.need c3 (.need (inR .i64 c1) (.call 123 [iI c1,iI 97,iI 122] (.bool c5) true true (.need c3 (.need (inR .i64 c1) (.call 123 [iI c1,iI 48,iI 57] (.bool (within c1 48 57)) true true (.br (within c1 48 57) (.br (!c5) (.br (x0_3==(0:Int)) c4 (.lit true (.lit false c2))) c6) (.need c3 (.br (!c5) (.br (x0_3==(0:Int)) c4 (.lit true (.br (!(c1==(46:Int))) (.out (.r0 false)) c2))) c6))))))))) (.out (.r0 true)))
noncomputable def g179(p0:ByteArray):P179->List Item × St
 |.e=>bd Tryz.f179 [.str p0] 45
 |.l0 x0_3=>(cutOf Tryz.f179 0,⟨mk 46 [(0,.str p0),(2,.bool false),(3,iI x0_3)],[],[]⟩)
def n179:R179->Exit × St
 |.r0 r0=>(.ret,⟨mk 46 [(2,.bool r0)],[],[]⟩)
def v179:R179->V
 |.r0 r0=>.bool r0
theorem s179(p0:ByteArray):Sm 0 (g179 p0) (T179 p0) (n179)
 |.e=>⟨400,by kernel_rfl⟩
 |.l0 _=>⟨400,by kernel_rfl⟩
theorem q179:∀r,bodyQ Tryz.prog Tryz.f179 (·=v179 r) (n179 r).1 (n179 r).2
 |.r0 r0=>bq (.bool r0) (by kernel_rfl)
theorem w179(p0:ByteArray){post:V->Prop}(h:WQ (T179 p0) v179 post .e):PC 179 [.str p0] post:=
 PCalls.wq Tryz.func179 (s179 p0) q179 h
theorem c179(s:ByteArray):PC 179 [.str s] (·=.bool (nameOk s)):=by
 refine w179 _ (WP.step ?_);simp only[T179,Tr.sure,Go,Ends',v179];refine⟨fun h=> ?_,fun h0=>⟨fun h=> ?_,fun h1=> ?_⟩⟩
 ·simp at h;simp[nameOk,h]
 ·simp at h;simp[nameOk];omega
 simp only[beq_eq_false_iff_ne,ne_eq,decide_eq_false_iff_not,Int.not_lt,gt_iff_lt]at h0 h1;have hs:s.size<=16:=by omega
 have hn:nameOk s=nameFrom true s.data.toList:=by
  have h0':s.size≠0:=by omega
  simp[nameOk,hs,h0']
 refine WP.count (fun i=>.l0 i) rfl s.size (fun i=>nameFrom true s.data.toList=nameFrom (i==0) (s.data.toList.drop i)) rfl (fun i hi hI=> ?_) fun hI=> ?_
 ·have hd:=drop_cons 0 s.data.toList i hi;have hr:inR .i64 ((i:Int)+1)=true:=inR64 (by omega) (by omega);have hc:=inR8 (s.data.toList.getD i 0);rw[hd]at hI;simp only[nameFrom]at hI;generalize hg:s.data.toList.getD i 0=c at*
  refine WP.once ?_;simp only[T179,Tr.sure,SS,hi,data_get,hg];repeat' with_reducible first|intro _|apply aI
  all_goals first|exact c123 _ _ _|(simp[hr,hc,hI,hn,letter,other,Go,Ends',v179,-List.getD_eq_getElem?_getD, *];done)
 ·have he:nameFrom (s.size==0) (s.data.toList.drop s.size)=true:=by rw[<-data_len,List.drop_length];rfl
  refine WP.step ?_;simp only[T179,Go,Ends',v179,Tr.sure,SS];repeat' with_reducible first|intro _|apply aI
  all_goals simp[hn,hI,he,Go,Ends',v179,-List.getD_eq_getElem?_getD, *]
theorem tstr_zero:tstr.zero=ByteArray.empty:=rfl
inductive P180
 |e
 |l0 (x0_5:Int)
inductive R180
 |r0 (r0:Int)
def T180(p0:List ByteArray)(p1:ByteArray):P180->Tr P180 R180
 |.e=>(.go (.l0 0))
 |.l0 x0_5=>let c1:=x0_5<(p0.length:Int);(.br (decide c1) (.need (decide (0<=x0_5)&&decide c1) (.br ((p0.getD (x0_5).toNat tstr.zero).toList==p1.toList) (.out (.r0 x0_5)) (.need (inR .i64 (x0_5+(1:Int))) (.go (.l0 (x0_5+(1:Int))))))) (.out (.r0 (-1))))
noncomputable def g180(p0:List ByteArray)(p1:ByteArray):P180->List Item × St
 |.e=>bd Tryz.f180 [tstr.lst p0,.str p1] 17
 |.l0 x0_5=>(cutOf Tryz.f180 0,⟨mk 19 [(0,tstr.lst p0),(1,.str p1),(4,iI 0),(5,iI x0_5)],[],[]⟩)
def n180:R180->Exit × St
 |.r0 r0=>(.ret,⟨mk 19 [(4,iI r0)],[],[]⟩)
def v180:R180->V
 |.r0 r0=>iI r0
theorem s180(p0:List ByteArray)(p1:ByteArray):Sm 0 (g180 p0 p1) (T180 p0 p1) (n180)
 |.e=>⟨400,by kernel_rfl⟩
 |.l0 _=>⟨400,by kernel_rfl⟩
theorem q180:∀r,bodyQ Tryz.prog Tryz.f180 (·=v180 r) (n180 r).1 (n180 r).2
 |.r0 r0=>bq (iI r0) (by kernel_rfl)
theorem w180(p0:List ByteArray)(p1:ByteArray){post:V->Prop}(h:WQ (T180 p0 p1) v180 post .e):PC 180 [tstr.lst p0,.str p1] post:=
 PCalls.wq Tryz.func180 (s180 p0 p1) q180 h
theorem c180(l:List ByteArray)(n:ByteArray)(h:l.length<=4):PC 180 [tstr.lst l,.str n] (·=iI (indexS l n)):=by
 refine w180 _ _ (WP.step ?_);simp only[T180,Go,Ends',v180,Tr.sure,SS];repeat' with_reducible first|intro _|apply aI
 refine WP.findI (fun i=>.l0 i) rfl l ByteArray.empty (fun o=>same o n) (fun i hi=> ?_) fun hI=> ?_
 ·have hr:inR .i64 ((i:Int)+1)=true:=inR64 (by omega) (by omega);refine WP.once ?_;simp only[T180,Tr.sure,SS,hi];repeat' with_reducible first|intro _|apply aI
  all_goals first|(simp[hr,same,tstr_zero,indexS,Go,Ends',v180,-List.getD_eq_getElem?_getD, *];done)|(simp_all [hr,same,tstr_zero,indexS,Go,Ends',v180,-List.getD_eq_getElem?_getD];done)
 ·refine WP.step ?_;simp only[T180,Go,Ends',v180,Tr.sure,SS];repeat' with_reducible first|intro _|apply aI
  all_goals simp[hI,indexS,Go,Ends',v180,-List.getD_eq_getElem?_getD, *]
theorem indexS_ge(l:List ByteArray)(n:ByteArray):(0<=indexS l n)↔l.any (fun o=>same o n)=true:=by
 rw[<-firstI_any _ l 0,indexS];cases firstI (fun o=>same o n) 0 l<;>simp
inductive P124
 |e
inductive R124
 |r0 (r0:Int)
def T124(p0:ByteArray)(p1:List ByteArray):P124->Tr P124 R124
 |.e=>(.call 179 [.str p0] (.bool (nameOk p0)) true true (.br (!(nameOk p0)) (.out (.r0 6)) (.call 180 [tstr.lst p1,.str p0] (iI (indexS p1 p0)) true true (.br (decide ((indexS p1 p0)≥(0:Int))) (.out (.r0 5)) (.out (.r0 0))))))
noncomputable def g124(p0:ByteArray)(p1:List ByteArray):P124->List Item × St
 |.e=>bd Tryz.f124 [.str p0,tstr.lst p1] 10
def n124:R124->Exit × St
 |.r0 r0=>(.ret,⟨mk 12 [(4,iI r0)],[],[]⟩)
def v124:R124->V
 |.r0 r0=>iI r0
theorem s124(p0:ByteArray)(p1:List ByteArray):Sm 0 (g124 p0 p1) (T124 p0 p1) (n124)
 |.e=>⟨400,by kernel_rfl⟩
theorem q124:∀r,bodyQ Tryz.prog Tryz.f124 (·=v124 r) (n124 r).1 (n124 r).2
 |.r0 r0=>bq (iI r0) (by kernel_rfl)
theorem w124(p0:ByteArray)(p1:List ByteArray){post:V->Prop}(h:WQ (T124 p0 p1) v124 post .e):PC 124 [.str p0,tstr.lst p1] post:=
 PCalls.wq Tryz.func124 (s124 p0 p1) q124 h
theorem c124(n:ByteArray)(l:List ByteArray)(h:l.length<=4):PC 124 [.str n,tstr.lst l] (·=iI (newErr n l)):=by
 have hi:=indexS_ge l n;refine w124 _ _ (WP.step ?_);simp only[T124,Go,Ends',v124,Tr.sure,SS];repeat' with_reducible first|intro _|apply aI
 all_goals first|exact c179 _|exact c180 _ _ h|(simp[newErr,Go,Ends',v124,-List.getD_eq_getElem?_getD, *];done)|(simp_all [newErr,Go,Ends',v124,-List.getD_eq_getElem?_getD];done)
inductive P181
 |e
inductive R181
 |r0 (r0:Int)
def T181(p0:Span)(p1:Int)(p2:Int):P181->Tr P181 R181
 |.e=>(.call 123 [iI p0.lo,iI p1,iI p2] (.bool (within p0.lo p1 p2)) true true (.br (!(within p0.lo p1 p2)) (.lit true (.out (.r0 7))) (.call 123 [iI p0.hi,iI p1,iI p2] (.bool (within p0.hi p1 p2)) true true (.br (!(within p0.hi p1 p2)) (.out (.r0 7)) (.br (decide (p0.hi<p0.lo)) (.out (.r0 2)) (.out (.r0 0)))))))
noncomputable def g181(p0:Span)(p1:Int)(p2:Int):P181->List Item × St
 |.e=>bd Tryz.f181 [.agg [iI p0.lo,iI p0.hi],iI p1,iI p2] 23
def n181:R181->Exit × St
 |.r0 r0=>(.ret,⟨mk 26 [(6,iI r0)],[],[]⟩)
def v181:R181->V
 |.r0 r0=>iI r0
theorem s181(p0:Span)(p1:Int)(p2:Int):Sm 0 (g181 p0 p1 p2) (T181 p0 p1 p2) (n181)
 |.e=>⟨400,by kernel_rfl⟩
theorem q181:∀r,bodyQ Tryz.prog Tryz.f181 (·=v181 r) (n181 r).1 (n181 r).2
 |.r0 r0=>bq (iI r0) (by kernel_rfl)
theorem w181(p0:Span)(p1:Int)(p2:Int){post:V->Prop}(h:WQ (T181 p0 p1 p2) v181 post .e):PC 181 [.agg [iI p0.lo,iI p0.hi],iI p1,iI p2] post:=
 PCalls.wq Tryz.func181 (s181 p0 p1 p2) q181 h
theorem c181(x:Span)(a b:Int):PC 181 [.agg (tSpan.cells x),iI a,iI b] (·=iI (endsErr x a b)):=by
 refine w181 _ _ _ (WP.step ?_);simp only[T181,Go,Ends',v181,Tr.sure,SS];repeat' with_reducible first|intro _|apply aI
 all_goals first|exact c123 _ _ _|(simp[endsErr,Go,Ends',v181,-List.getD_eq_getElem?_getD, *];done)
inductive P125
 |e
 |l0 (x0_5:Int)
inductive R125
 |r0 (r0:Int)
def T125(p0:Shop)(p1:Mould):P125->Tr P125 R125
 |.e=>(.call 123 [iI p1.casts,iI 1,iI 4] (.bool (within p1.casts 1 4)) true true (.br (!(within p1.casts 1 4)) (.out (.r0 7)) (.br ((p1.lasts.length:Int) !=p0.features) (.out (.r0 3)) (.go (.l0 0)))))
 |.l0 x0_5=>let c1:=p1.lasts.getD (x0_5).toNat tSpan.zero;let c2:=x0_5<(p1.lasts.length:Int);let c3:=endsErr c1 0 6;(.br (decide c2) (.need (decide (0<=x0_5)&&decide c2) (.call 181 [.agg [iI (c1.lo),iI (c1.hi)],iI 0,iI 6] (iI c3) true true (.br (c3 !=(0:Int)) (.out (.r0 c3)) (.need (inR .i64 (x0_5+(1:Int))) (.go (.l0 (x0_5+(1:Int)))))))) (.out (.r0 0)))
noncomputable def g125(p0:Shop)(p1:Mould):P125->List Item × St
 |.e=>bd Tryz.f125 [.agg [iI p0.features,tMould.lst p0.moulds,tHead.lst p0.heads],.agg [.str p1.name,iI p1.casts,tSpan.lst p1.lasts]] 31
 |.l0 x0_5=>(cutOf Tryz.f125 0,⟨mk 33 [(3,.ref 1 0 0),(4,iI 0),(5,iI x0_5)],[.gone,.cells [.str p1.name,iI p1.casts,tSpan.lst p1.lasts]],[]⟩)
def n125:R125->Exit × St
 |.r0 r0=>(.ret,⟨mk 33 [(4,iI r0)],[],[]⟩)
def v125:R125->V
 |.r0 r0=>iI r0
theorem s125(p0:Shop)(p1:Mould):Sm 0 (g125 p0 p1) (T125 p0 p1) (n125)
 |.e=>⟨400,by kernel_rfl⟩
 |.l0 _=>⟨400,by kernel_rfl⟩
theorem q125:∀r,bodyQ Tryz.prog Tryz.f125 (·=v125 r) (n125 r).1 (n125 r).2
 |.r0 r0=>bq (iI r0) (by kernel_rfl)
theorem w125(p0:Shop)(p1:Mould){post:V->Prop}(h:WQ (T125 p0 p1) v125 post .e):PC 125 [.agg [iI p0.features,tMould.lst p0.moulds,tHead.lst p0.heads],.agg [.str p1.name,iI p1.casts,tSpan.lst p1.lasts]] post:=
 PCalls.wq Tryz.func125 (s125 p0 p1) q125 h
theorem c125(s:Shop)(m:Mould)(h:within s.features 1 4=true):PC 125 [.agg (tShop.cells s),.agg (tMould.cells m)] (·=iI (mouldErr s.features m)):=by
 rw[within_iff]at h;refine w125 _ _ (WP.step ?_);simp only[T125,Go,Ends',v125,Tr.sure,SS];repeat' with_reducible first|intro _|apply aI
 all_goals first|exact c123 _ _ _|(simp[mouldErr,Go,Ends',v125,-List.getD_eq_getElem?_getD, *];done)|skip
 have hl:m.lasts.length<=4:=by omega
 refine WP.findE (fun i=>.l0 i) rfl m.lasts zSpan (fun _ x=>spanErr x) (fun i hi=> ?_) fun hI=> ?_
 ·have hr:inR .i64 ((i:Int)+1)=true:=inR64 (by omega) (by omega);refine WP.once ?_;simp only[T125,Tr.sure,SS,hi,z4];repeat' with_reducible first|intro _|apply aI
  all_goals first|exact c181 _ _ _|(simp[hr,spanErr,mouldErr,lastsErr,Go,Ends',v125,-List.getD_eq_getElem?_getD, *];done)|(simp_all [hr,spanErr,mouldErr,lastsErr,Go,Ends',v125,-List.getD_eq_getElem?_getD];done)
 ·refine WP.step ?_;simp only[T125,Go,Ends',v125,Tr.sure,SS];repeat' with_reducible first|intro _|apply aI
  all_goals simp[hI,mouldErr,lastsErr,Go,Ends',v125,-List.getD_eq_getElem?_getD, *]
inductive P126
 |e
 |l0 (x0_5:Int)
inductive R126
 |r0 (r0:Int)
def T126(p0:Shop)(p1:Head):P126->Tr P126 R126
 |.e=>(.br ((p1.shows.length:Int) !=p0.features) (.out (.r0 3)) (.go (.l0 0)))
 |.l0 x0_5=>let c1:=p1.shows.getD (x0_5).toNat tint.zero;let c2:=x0_5<(p1.shows.length:Int);(.br (decide c2) (.need (decide (0<=x0_5)&&decide c2) (.call 123 [iI c1,iI 0,iI 2] (.bool (within c1 0 2)) true true (.br (!(within c1 0 2)) (.out (.r0 7)) (.need (inR .i64 (x0_5+(1:Int))) (.go (.l0 (x0_5+(1:Int)))))))) (.out (.r0 0)))
noncomputable def g126(p0:Shop)(p1:Head):P126->List Item × St
 |.e=>bd Tryz.f126 [.agg [iI p0.features,tMould.lst p0.moulds,tHead.lst p0.heads],.agg [.str p1.name,tint.lst p1.shows]] 24
 |.l0 x0_5=>(cutOf Tryz.f126 0,⟨mk 26 [(3,.ref 1 0 0),(4,iI 0),(5,iI x0_5)],[.gone,.cells [.str p1.name,tint.lst p1.shows]],[]⟩)
def n126:R126->Exit × St
 |.r0 r0=>(.ret,⟨mk 26 [(4,iI r0)],[],[]⟩)
def v126:R126->V
 |.r0 r0=>iI r0
theorem s126(p0:Shop)(p1:Head):Sm 0 (g126 p0 p1) (T126 p0 p1) (n126)
 |.e=>⟨400,by kernel_rfl⟩
 |.l0 _=>⟨400,by kernel_rfl⟩
theorem q126:∀r,bodyQ Tryz.prog Tryz.f126 (·=v126 r) (n126 r).1 (n126 r).2
 |.r0 r0=>bq (iI r0) (by kernel_rfl)
theorem w126(p0:Shop)(p1:Head){post:V->Prop}(h:WQ (T126 p0 p1) v126 post .e):PC 126 [.agg [iI p0.features,tMould.lst p0.moulds,tHead.lst p0.heads],.agg [.str p1.name,tint.lst p1.shows]] post:=
 PCalls.wq Tryz.func126 (s126 p0 p1) q126 h
theorem c126(s:Shop)(m:Head)(h:within s.features 1 4=true):PC 126 [.agg (tShop.cells s),.agg (tHead.cells m)] (·=iI (headErr s.features m)):=by
 rw[within_iff]at h;refine w126 _ _ (WP.step ?_);simp only[T126,Go,Ends',v126,Tr.sure,SS];repeat' with_reducible first|intro _|apply aI
 all_goals first|(simp[headErr,Go,Ends',v126,-List.getD_eq_getElem?_getD, *];done)|skip
 have hl:m.shows.length<=4:=by omega
 refine WP.findI (fun i=>.l0 i) rfl m.shows 0 (fun n=> !within n 0 2) (fun i hi=> ?_) fun hI=> ?_
 ·have hr:inR .i64 ((i:Int)+1)=true:=inR64 (by omega) (by omega);have ha:firstI (fun n=> !within n 0 2) 0 m.shows=some i->_:=any_of_firstI;refine WP.once ?_;simp only[T126,Tr.sure,SS,hi,z1];repeat' with_reducible first|intro _|apply aI
  all_goals first|exact c123 _ _ _|(simp[hr,headErr,Go,Ends',v126,-List.getD_eq_getElem?_getD, *];done)|(simp_all [hr,headErr,Go,Ends',v126,-List.getD_eq_getElem?_getD];done)
 ·have ha:=any_of_none hI;refine WP.step ?_;simp only[T126,Go,Ends',v126,Tr.sure,SS];repeat' with_reducible first|intro _|apply aI
  all_goals simp[ha,headErr,Go,Ends',v126,-List.getD_eq_getElem?_getD, *]
end
noncomputable section
theorem map_take_len{τ υ:Type}(f:τ->υ)(l:List τ)(i:Nat)(hi:i<=l.length):((l.map f).take i).reverse.length=i:=by simp;omega
theorem PCalls.arg{P:Program}{f:FuncId}{pre suf:List V}{a a':V}{post:V->Prop}(h:PCalls P f (pre++a::suf) post)(hv:VLe a' a):PCalls P f (pre++a'::suf) post:=by
 refine h.vle (by simp) fun j hj=> ?_;by_cases h1:j<pre.length
 ·simp only[gE,aL h1];exact VLe.refl _
 ·by_cases h2:j=pre.length
  ·subst h2;simpa using hv
  ·obtain⟨k,hk⟩:∃k,j-pre.length=k+1:=⟨j-pre.length-1,by omega⟩
   simp only[gE,List.getElem?_append_right (Nat.le_of_not_lt h1),hk,List.getElem?_cons_succ];exact VLe.refl _
theorem c124r(n:ByteArray)(l:List ByteArray)(h:l.length<=4):PC 124 [.str n,.list 1 l.reverse.length (rowsRev tstr l.reverse)] (·=iI (newErr n l)):=
 PCalls.arg (pre:=[.str n]) (c124 n l h) (by have:=VLe.rev tstr l.reverse;rwa[List.reverse_reverse]at this)
inductive P60
 |e
 |l0 (x0_6:Int) (a0_1:List ByteArray)
 |l1 (x1_8:Int) (a1_2:List ByteArray)
inductive R60
 |r0 (r0:Int) (r1:Int) (r2:Int)
def T60(p0:Shop):P60->Tr P60 R60
 |.e=>(.call 123 [iI p0.features,iI 1,iI 4] (.bool (within p0.features 1 4)) true true (.br (!(within p0.features 1 4)) (.out (.r0 1 0 7)) (.br (decide ((p0.moulds.length:Int)>(2:Int))) (.out (.r0 2 0 3)) (.wait 3 (.own 5 9 1 (.go (.l0 0 ([]))))))))
 |.l0 x0_6 a0_1=>let c1:=p0.moulds.getD (x0_6).toNat tMould.zero;let c2:=decide (0<=x0_6)&&decide (x0_6<(p0.moulds.length:Int));let c3:=(decide (a0_1.length=a0_1.length)&&decide (a0_1.length+1<=4294967296))&&decide (1<=1);let c4:=newErr (c1.name) a0_1.reverse;let c5:Tr P60 R60:=.need (inR .i64 (x0_6+(1:Int))) (.go (.l0 (x0_6+(1:Int)) (c1.name::a0_1)));(.br (decide (x0_6<(p0.moulds.length:Int))) (.need c2 (.call 124 [.str (c1.name),.list 1 a0_1.length (rowsRev tstr a0_1)] (iI c4) ((decide (a0_1.length<=a0_1.length))&&true) true (.br (c4==(0:Int)) (.front [] [] ((c2&&true)&&true) true (.call 125 [.agg [iI p0.features,tMould.lst p0.moulds,tHead.lst p0.heads],.agg [.str (c1.name),iI (c1.casts),tSpan.lst (c1.lasts)]] (iI ((fun s m=>mouldErr s.features m) p0 c1)) true true (.br (((fun s m=>mouldErr s.features m) p0 c1) !=(0:Int)) (.out (.r0 2 x0_6 ((fun s m=>mouldErr s.features m) p0 c1))) (.need c2 (.need c3 (.scal (fun _=>true) c5)))))) (.br (c4 !=(0:Int)) (.out (.r0 2 x0_6 c4)) (.need c2 (.need c3 (.scal (fun _=>true) c5))))))) (.br (decide ((p0.heads.length:Int)>(4:Int))) (.out (.r0 3 0 3)) (.wait 3 (.own 5 9 1 (.go (.l1 0 ([])))))))
 |.l1 x1_8 a1_2=>let c1:=p0.heads.getD (x1_8).toNat tHead.zero;let c2:=decide (0<=x1_8)&&decide (x1_8<(p0.heads.length:Int));let c3:=(decide (a1_2.length=a1_2.length)&&decide (a1_2.length+1<=4294967296))&&decide (1<=1);let c4:=newErr (c1.name) a1_2.reverse;let c5:Tr P60 R60:=.need (inR .i64 (x1_8+(1:Int))) (.go (.l1 (x1_8+(1:Int)) (c1.name::a1_2)));(.br (decide (x1_8<(p0.heads.length:Int))) (.need c2 (.call 124 [.str (c1.name),.list 1 a1_2.length (rowsRev tstr a1_2)] (iI c4) ((decide (a1_2.length<=a1_2.length))&&true) true (.br (c4==(0:Int)) (.front [] [] ((c2&&true)&&true) true (.call 126 [.agg [iI p0.features,tMould.lst p0.moulds,tHead.lst p0.heads],.agg [.str (c1.name),tint.lst (c1.shows)]] (iI ((fun s m=>headErr s.features m) p0 c1)) true true (.br (((fun s m=>headErr s.features m) p0 c1) !=(0:Int)) (.out (.r0 3 x1_8 ((fun s m=>headErr s.features m) p0 c1))) (.need c2 (.need c3 (.scal (fun _=>true) c5)))))) (.br (c4 !=(0:Int)) (.out (.r0 3 x1_8 c4)) (.need c2 (.need c3 (.scal (fun _=>true) c5))))))) (.out (.r0 0 0 0)))
noncomputable def g60(p0:Shop):P60->List Item × St
 |.e=>bd Tryz.f60 [.agg [iI p0.features,tMould.lst p0.moulds,tHead.lst p0.heads]] 95
 |.l0 x0_6 a0_1=>(cutOf Tryz.f60 0,⟨mk 96 [(1,.ref 0 0 0),(2,iI 0),(3,iI 0),(4,iI 0),(5,.row 1 a0_1.length),(6,iI x0_6)],[.cells [iI p0.features,tMould.lst p0.moulds,tHead.lst p0.heads],.rows 9 1 a0_1.length (rowsRev tstr a0_1)],[]⟩)
 |.l1 x1_8 a1_2=>(cutOf Tryz.f60 1,⟨mk 96 [(1,.ref 0 0 0),(2,iI 0),(3,iI 0),(4,iI 0),(5,.row 2 a1_2.length),(8,iI x1_8)],[.cells [iI p0.features,tMould.lst p0.moulds,tHead.lst p0.heads],.gone,.rows 9 1 a1_2.length (rowsRev tstr a1_2)],[]⟩)
def n60:R60->Exit × St
 |.r0 r0 r1 r2=>(.ret,⟨mk 96 [(2,iI r0),(3,iI r1),(4,iI r2)],[],[]⟩)
def v60:R60->V
 |.r0 r0 r1 r2=>.tuple [iI r0,iI r1,iI r2]
theorem s60(p0:Shop):Sm 0 (g60 p0) (T60 p0) (n60)
 |.e=>⟨400,by kernel_rfl⟩
 |.l0 _ _=>⟨400,by kernel_rfl⟩
 |.l1 _ _=>⟨400,by kernel_rfl⟩
theorem q60:∀r,bodyQ Tryz.prog Tryz.f60 (·=v60 r) (n60 r).1 (n60 r).2
 |.r0 r0 r1 r2=>bq (.tuple [iI r0,iI r1,iI r2]) (by kernel_rfl)
theorem w60(p0:Shop){post:V->Prop}(h:WQ (T60 p0) v60 post .e):PC 60 [.agg [iI p0.features,tMould.lst p0.moulds,tHead.lst p0.heads]] post:=
 PCalls.wq Tryz.func60 (s60 p0) q60 h
theorem c60(s:Shop):PC 60 [.agg (tShop.cells s)] (·=.tuple [iI (shopCheck s).1,iI (shopCheck s).2.1,iI (shopCheck s).2.2]):=by
 refine w60 _ (WP.step ?_);simp only[T60,Go,Ends',v60,Tr.sure,SS];repeat' with_reducible first|intro _|apply aI
 all_goals first|exact c123 _ _ _|(simp[shopCheck,Go,Ends',v60,-List.getD_eq_getElem?_getD, *];done)|skip
 rename_i h1 h2;have hm:s.moulds.length<=2:=by omega
 refine WP.findE (fun i=>.l0 i (((s.moulds.map (·.name)).take i).reverse)) rfl s.moulds zMould (mouldAt s) (fun i hi=> ?_) fun hI=> ?_
 ·have hr:inR .i64 ((i:Int)+1)=true:=inR64 (by omega) (by omega);have hl:=map_take_len (·.name) s.moulds i (by omega);have hl':((s.moulds.map (·.name)).take i).length<=4:=by simp;omega
  have ht:=rev_take' (·.name) zMould s.moulds i hi;have hb:i+1<=4294967296:=by omega
  refine WP.once ?_;simp only[T60,Tr.sure,SS,hi,z2,List.reverse_reverse];repeat' with_reducible first|intro _|apply aI
  all_goals first|exact c124r _ _ hl'|exact c125 _ _ h1|(simp[hr,shopCheck,mouldAt,ht,hb,hl,Go,Ends',v60,-List.getD_eq_getElem?_getD, *];done)|(simp_all [hr,shopCheck,mouldAt,ht,hb,hl,Go,Ends',v60,-List.getD_eq_getElem?_getD];done)|(simp+contextual [hr,shopCheck,mouldAt,ht,hb,hl,Go,Ends',v60,-List.getD_eq_getElem?_getD, *];done)
  all_goals simp+contextual [shopCheck,mouldAt,Go,Ends',v60,-List.getD_eq_getElem?_getD, *]
 ·refine WP.step ?_;simp only[T60,Go,Ends',v60,Tr.sure,SS,z2];repeat' with_reducible first|intro _|apply aI
  all_goals first|(simp[shopCheck,hI,Go,Ends',v60,-List.getD_eq_getElem?_getD, *];done)|skip
  rename_i h3;have hm:s.heads.length<=4:=by omega
  refine WP.findE (fun i=>.l1 i (((s.heads.map (·.name)).take i).reverse)) rfl s.heads zHead (headAt s) (fun i hi=> ?_) fun hI=> ?_
  ·have hr:inR .i64 ((i:Int)+1)=true:=inR64 (by omega) (by omega);have hl:=map_take_len (·.name) s.heads i (by omega);have hl':((s.heads.map (·.name)).take i).length<=4:=by simp;omega
   have ht:=rev_take' (·.name) zHead s.heads i hi;have hb:i+1<=4294967296:=by omega
   refine WP.once ?_;simp only[T60,Tr.sure,SS,hi,z3,List.reverse_reverse];repeat' with_reducible first|intro _|apply aI
   all_goals first|exact c124r _ _ hl'|exact c126 _ _ h1|(simp[hr,shopCheck,headAt,ht,hb,hl,Go,Ends',v60,-List.getD_eq_getElem?_getD, *];done)|(simp_all [hr,shopCheck,headAt,ht,hb,hl,Go,Ends',v60,-List.getD_eq_getElem?_getD];done)|(simp+contextual [hr,shopCheck,headAt,ht,hb,hl,Go,Ends',v60,-List.getD_eq_getElem?_getD, *];done)
  ·refine WP.step ?_;simp only[T60,Go,Ends',v60,Tr.sure,SS];repeat' with_reducible first|intro _|apply aI
   all_goals simp[shopCheck,hI,Go,Ends',v60,-List.getD_eq_getElem?_getD, *]
inductive P62
 |e
inductive R62
 |r0 (r0:Int)
def T62(p0:Shop)(p1:Claim):P62->Tr P62 R62
 |.e=>let c2:Tr P62 R62:=.lit true (.out (.r0 7));let c1:Tr P62 R62:=.call 129 [.agg [iI p1.own,iI p1.kind,iI p1.a,iI p1.b,iI p1.mould,iI p1.feature,iI p1.number,iI p1.worth]] (.bool (spare p1)) true true (.br (!(spare p1)) (.out (.r0 2)) (.br (p1.kind==(0:Int)) (.br (!(within p1.number 1 ((p0.moulds.getD (p1.mould).toNat tMould.zero).casts))) (.front [(13,61,[iI p1.number,iI 1,iI ((p0.moulds.getD (p1.mould).toNat tMould.zero).casts)],.bool (within p1.number 1 ((p0.moulds.getD (p1.mould).toNat tMould.zero).casts)))] [(3,true),(16,true)] ((((p1.kind==(0:Int))==true)&&((decide (0<=p1.mould)&&decide (p1.mould<(p0.moulds.length:Int)))&&(((!(within p1.number 1 ((p0.moulds.getD (p1.mould).toNat tMould.zero).casts)))==true)&&true)))&&true) true c2) (.br (lasting p1.kind) (.front [(13,61,[iI p1.number,iI 1,iI ((p0.moulds.getD (p1.mould).toNat tMould.zero).casts)],.bool (within p1.number 1 ((p0.moulds.getD (p1.mould).toNat tMould.zero).casts))),(19,130,[iI p1.kind],.bool (lasting p1.kind)),(23,61,[iI p1.number,iI 1,iI 6],.bool (within p1.number 1 6))] [(3,true),(16,false),(20,true)] ((((p1.kind==(0:Int))==true)&&((decide (0<=p1.mould)&&decide (p1.mould<(p0.moulds.length:Int)))&&(((!(within p1.number 1 ((p0.moulds.getD (p1.mould).toNat tMould.zero).casts)))==false)&&(((lasting p1.kind)==true)&&true))))&&true) true (.br (!(within p1.number 1 6)) (.out (.r0 7)) (.out (.r0 0)))) (.front [(13,61,[iI p1.number,iI 1,iI ((p0.moulds.getD (p1.mould).toNat tMould.zero).casts)],.bool (within p1.number 1 ((p0.moulds.getD (p1.mould).toNat tMould.zero).casts))),(19,130,[iI p1.kind],.bool (lasting p1.kind))] [(3,true),(16,false),(20,false)] ((((p1.kind==(0:Int))==true)&&((decide (0<=p1.mould)&&decide (p1.mould<(p0.moulds.length:Int)))&&(((!(within p1.number 1 ((p0.moulds.getD (p1.mould).toNat tMould.zero).casts)))==false)&&(((lasting p1.kind)==false)&&true))))&&true) true (.lit false (.out (.r0 0)))))) (.br (lasting p1.kind) (.front [(19,130,[iI p1.kind],.bool (lasting p1.kind)),(23,61,[iI p1.number,iI 1,iI 6],.bool (within p1.number 1 6))] [(3,false),(20,true)] ((((p1.kind==(0:Int))==false)&&(((lasting p1.kind)==true)&&true))&&true) true (.br (!(within p1.number 1 6)) (.out (.r0 7)) (.out (.r0 0)))) (.front [(19,130,[iI p1.kind],.bool (lasting p1.kind))] [(3,false),(20,false)] ((((p1.kind==(0:Int))==false)&&(((lasting p1.kind)==false)&&true))&&true) true (.lit false (.out (.r0 0)))))));(.call 61 [iI p1.own,iI 0,iI 1] (.bool (within p1.own 0 1)) true true (.br (!(within p1.own 0 1)) (.lit true c2) (.call 61 [iI p1.worth,iI 1,iI 100] (.bool (within p1.worth 1 100)) true true (.br (!(within p1.worth 1 100)) c2 (.call 61 [iI p1.kind,iI 0,iI 5] (.bool (within p1.kind 0 5)) true true (.br (!(within p1.kind 0 5)) (.out (.r0 7)) (.call 127 [.agg [iI p0.features,tMould.lst p0.moulds,tHead.lst p0.heads],.agg [iI p1.own,iI p1.kind,iI p1.a,iI p1.b,iI p1.mould,iI p1.feature,iI p1.number,iI p1.worth]] (.bool (named p0 p1)) true true (.br (!(named p0 p1)) (.out (.r0 4)) (.call 128 [iI p1.kind] (.bool (pair p1.kind)) true true (.br (pair p1.kind) (.br (p1.a==p1.b) (.lit true (.out (.r0 2))) c1) (.lit false c1)))))))))))
noncomputable def g62(p0:Shop)(p1:Claim):P62->List Item × St
 |.e=>bd Tryz.f62 [.agg [iI p0.features,tMould.lst p0.moulds,tHead.lst p0.heads],.agg [iI p1.own,iI p1.kind,iI p1.a,iI p1.b,iI p1.mould,iI p1.feature,iI p1.number,iI p1.worth]] 65
def n62:R62->Exit × St
 |.r0 r0=>(.ret,⟨mk 67 [(4,iI r0)],[],[]⟩)
def v62:R62->V
 |.r0 r0=>iI r0
theorem s62(p0:Shop)(p1:Claim):Sm 0 (g62 p0 p1) (T62 p0 p1) (n62)
 |.e=>⟨400,by kernel_rfl⟩
theorem q62:∀r,bodyQ Tryz.prog Tryz.f62 (·=v62 r) (n62 r).1 (n62 r).2
 |.r0 r0=>bq (iI r0) (by kernel_rfl)
theorem w62(p0:Shop)(p1:Claim){post:V->Prop}(h:WQ (T62 p0 p1) v62 post .e):PC 62 [.agg [iI p0.features,tMould.lst p0.moulds,tHead.lst p0.heads],.agg [iI p1.own,iI p1.kind,iI p1.a,iI p1.b,iI p1.mould,iI p1.feature,iI p1.number,iI p1.worth]] post:=
 PCalls.wq Tryz.func62 (s62 p0 p1) q62 h
theorem c62(s:Shop)(x:Claim)(h1:s.heads.length<=4)(h2:s.moulds.length<=2)(h3:within s.features 1 4=true):PC 62 [.agg (tShop.cells s),.agg (tClaim.cells x)] (·=iI (claimErr s x)):=by
 have hm:x.kind=0->named s x=true->0<=x.mould/\x.mould<(s.moulds.length:Int):=fun hk hn=>by
  simp[named,hk,pair,lasting]at hn;exact index_iff.1 hn.2
 refine w62 _ _ (WP.step ?_);simp only[T62,Go,Ends',v62,Tr.sure,SS];repeat' with_reducible first|intro _|apply aI
 all_goals first|exact c61 _ _ _|exact c127 _ _ h1 h2 h3|exact c128 _|exact c129 _|exact c130 _|(simp[claimErr,Go,Ends',v62,-List.getD_eq_getElem?_getD, *];done)|(simp_all [claimErr,Go,Ends',v62,-List.getD_eq_getElem?_getD];done)
inductive P17
 |e
 |l0 (x0_8:Int)
 |l1 (x1_7:Int) (x1_9:Int)
inductive R17
 |r0 (r0:Int) (r1:Int) (r2:Int)
def T17(p0:Case):P17->Tr P17 R17
 |.e=>let c1:=shopCheck p0.shop;(.call 60 [.agg [iI p0.shop.features,tMould.lst p0.shop.moulds,tHead.lst p0.shop.heads]] (.tuple [iI (c1.1),iI (c1.2.1),iI (c1.2.2)]) true true (.br (c1.2.2 !=(0:Int)) (.out (.r0 1 0 (c1.2.2))) (.br ((p0.owners.length:Int) !=(p0.shop.heads.length:Int)) (.out (.r0 2 0 3)) (.go (.l0 0)))))
 |.l0 x0_8=>let c1:=p0.owners.getD (x0_8).toNat tint.zero;let c2:=x0_8<(p0.owners.length:Int);(.br (decide c2) (.need (decide (0<=x0_8)&&decide c2) (.call 61 [iI c1,iI 0,iI 1] (.bool (within c1 0 1)) true true (.br (!(within c1 0 1)) (.out (.r0 2 x0_8 7)) (.need (inR .i64 (x0_8+(1:Int))) (.go (.l0 (x0_8+(1:Int)))))))) (.br (decide ((p0.claims.length:Int)>(5:Int))) (.out (.r0 3 0 3)) (.go (.l1 ((shopCheck p0.shop).2.2) 0))))
 |.l1 x1_7 x1_9=>let c1:=p0.claims.getD (x1_9).toNat tClaim.zero;let c2:=claimErr p0.shop c1;let c3:=x1_9<(p0.claims.length:Int);(.br (decide c3) (.front [] [] (((decide (0<=x1_9)&&decide c3)&&true)&&true) true (.call 62 [.agg [iI p0.shop.features,tMould.lst p0.shop.moulds,tHead.lst p0.shop.heads],.agg [iI (c1.own),iI (c1.kind),iI (c1.a),iI (c1.b),iI (c1.mould),iI (c1.feature),iI (c1.number),iI (c1.worth)]] (iI c2) true true (.br (c2 !=(0:Int)) (.out (.r0 3 x1_9 c2)) (.need (inR .i64 (x1_9+(1:Int))) (.go (.l1 c2 (x1_9+(1:Int)))))))) (.out (.r0 0 0 0)))
noncomputable def g17(p0:Case):P17->List Item × St
 |.e=>bd Tryz.f17 [.agg (cC p0)] 65
 |.l0 x0_8=>(cutOf Tryz.f17 0,⟨mk 66 [(1,.ref 0 0 0),(2,iI 0),(3,iI 0),(4,iI 0),(7,iI ((shopCheck p0.shop).2.2)),(8,iI x0_8)],[.cells (cC p0)],[]⟩)
 |.l1 x1_7 x1_9=>(cutOf Tryz.f17 1,⟨mk 66 [(1,.ref 0 0 0),(2,iI 0),(3,iI 0),(4,iI 0),(7,iI x1_7),(9,iI x1_9)],[.cells (cC p0)],[]⟩)
def n17:R17->Exit × St
 |.r0 r0 r1 r2=>(.ret,⟨mk 66 [(2,iI r0),(3,iI r1),(4,iI r2)],[],[]⟩)
def v17:R17->V
 |.r0 r0 r1 r2=>.tuple [iI r0,iI r1,iI r2]
theorem s17(p0:Case):Sm 0 (g17 p0) (T17 p0) (n17)
 |.e=>⟨400,by kernel_rfl⟩
 |.l0 _=>⟨400,by kernel_rfl⟩
 |.l1 _ _=>⟨400,by kernel_rfl⟩
theorem q17:∀r,bodyQ Tryz.prog Tryz.f17 (·=v17 r) (n17 r).1 (n17 r).2
 |.r0 r0 r1 r2=>bq (.tuple [iI r0,iI r1,iI r2]) (by kernel_rfl)
theorem w17(p0:Case){post:V->Prop}(h:WQ (T17 p0) v17 post .e):PC 17 [.agg (cC p0)] post:=
 PCalls.wq Tryz.func17 (s17 p0) q17 h
theorem c17(c:Case):PC 17 [.agg (tCase.cells c)] (·=.tuple [iI (caseCheck c).1,iI (caseCheck c).2.1,iI (caseCheck c).2.2]):=by
 refine w17 _ (WP.step ?_);simp only[T17,Go,Ends',v17,Tr.sure,SS];repeat' with_reducible first|intro _|apply aI
 all_goals first|exact c60 _|(simp[caseCheck,Go,Ends',v17,-List.getD_eq_getElem?_getD, *];done)|skip
 rename_i h1 h2;obtain⟨⟨o1,o2⟩,o3,o4,-,-⟩:=okShop h1;have o0:within c.shop.features 1 4=true:=by rw[within_iff];omega
 refine WP.findE (fun i=>.l0 i) rfl c.owners 0 (fun _ n=>if within n 0 1=true then 0 else 7) (fun i hi=> ?_) fun hI=> ?_
 ·have hr:inR .i64 ((i:Int)+1)=true:=inR64 (by omega) (by omega);refine WP.once ?_;simp only[T17,Tr.sure,SS,hi,z1];repeat' with_reducible first|intro _|apply aI
  all_goals first|exact c61 _ _ _|(simp[hr,caseCheck,Go,Ends',v17,-List.getD_eq_getElem?_getD, *];done)|(simp_all [hr,caseCheck,Go,Ends',v17,-List.getD_eq_getElem?_getD];done)
 ·refine WP.step ?_;simp only[T17,Go,Ends',v17,Tr.sure,SS];repeat' with_reducible first|intro _|apply aI
  all_goals first|(simp[caseCheck,hI,Go,Ends',v17,-List.getD_eq_getElem?_getD, *];done)|skip
  rename_i h3;refine WP.findE (fun i=>.l1 0 i) (by rw[h1];rfl) c.claims tClaim.zero (fun _ x=>claimErr c.shop x) (fun i hi=> ?_) fun hJ=> ?_
  ·have hr:inR .i64 ((i:Int)+1)=true:=inR64 (by omega) (by omega);refine WP.once ?_;simp only[T17,Tr.sure,SS,hi];repeat' with_reducible first|intro _|apply aI
   all_goals first|exact c62 _ _ o4 o3 o0|(simp[hr,caseCheck,hI,Go,Ends',v17,-List.getD_eq_getElem?_getD, *];done)|(simp+contextual [hr,caseCheck,hI,Go,Ends',v17,-List.getD_eq_getElem?_getD, *];done)
  ·refine WP.step ?_;simp only[T17,Go,Ends',v17,Tr.sure,SS];repeat' with_reducible first|intro _|apply aI
   all_goals simp[caseCheck,hI,hJ,Go,Ends',v17,-List.getD_eq_getElem?_getD, *]
end
noncomputable section
inductive P121
 |e
inductive R121
 |r0 (r0:Bool)
def T121(n:Int)(lo:Int)(hi:Int):P121->Tr P121 R121
 |.e=>(.br (decide (n<lo)) (.out (.r0 true)) (.out (.r0 (decide (n>hi)))))
noncomputable def g121(n:Int)(lo:Int)(hi:Int):P121->List Item × St
 |.e=>bd Tryz.f121 [iI n,rR (iI lo),rR (iI hi)] 10
def n121:R121->Exit × St
 |.r0 r0=>(.ret,⟨mk 13 [(4,.bool r0)],[],[]⟩)
def v121:R121->V
 |.r0 r0=>.bool r0
theorem s121(n:Int)(lo:Int)(hi:Int):Sm 0 (g121 n lo hi) (T121 n lo hi) (n121)
 |.e=>⟨400,by kernel_rfl⟩
theorem q121:∀r,bodyQ Tryz.prog Tryz.f121 (·=v121 r) (n121 r).1 (n121 r).2
 |.r0 r0=>bq (.bool r0) (by kernel_rfl)
theorem w121(n:Int)(lo:Int)(hi:Int){post:V->Prop}(h:WQ (T121 n lo hi) v121 post .e):PC 121 [iI n,rR (iI lo),rR (iI hi)] post:=
 PCalls.wq Tryz.func121 (s121 n lo hi) q121 h
theorem c121(n lo hi:Int):PC 121 [iI n,rR (iI lo),rR (iI hi)] (·=.bool (!within n lo hi)):=by
 refine w121 _ _ _ (WP.step ?_);simp only[T121,Go,Ends',v121,Tr.sure,SS];repeat' with_reducible first|intro _|apply aI
 all_goals first|(simp[within,Go,Ends',v121,-List.getD_eq_getElem?_getD, *];done)|skip
 all_goals(simp only[within,V.bool.injEq];rw[Bool.eq_iff_iff];simp;omega)
inductive P153
 |e
inductive R153
 |r0 (r0:Bool)
def T153(n:Int)(lo:Int)(hi:Int):P153->Tr P153 R153
 |.e=>(.br (decide (n<lo)) (.out (.r0 true)) (.out (.r0 (decide (n>hi)))))
noncomputable def g153(n:Int)(lo:Int)(hi:Int):P153->List Item × St
 |.e=>bd Tryz.f153 [iI n,rR (iI lo),rR (iI hi)] 10
def n153:R153->Exit × St
 |.r0 r0=>(.ret,⟨mk 13 [(4,.bool r0)],[],[]⟩)
def v153:R153->V
 |.r0 r0=>.bool r0
theorem s153(n:Int)(lo:Int)(hi:Int):Sm 0 (g153 n lo hi) (T153 n lo hi) (n153)
 |.e=>⟨400,by kernel_rfl⟩
theorem q153:∀r,bodyQ Tryz.prog Tryz.f153 (·=v153 r) (n153 r).1 (n153 r).2
 |.r0 r0=>bq (.bool r0) (by kernel_rfl)
theorem w153(n:Int)(lo:Int)(hi:Int){post:V->Prop}(h:WQ (T153 n lo hi) v153 post .e):PC 153 [iI n,rR (iI lo),rR (iI hi)] post:=
 PCalls.wq Tryz.func153 (s153 n lo hi) q153 h
theorem c153(n lo hi:Int):PC 153 [iI n,rR (iI lo),rR (iI hi)] (·=.bool (!within n lo hi)):=by
 refine w153 _ _ _ (WP.step ?_);simp only[T153,Go,Ends',v153,Tr.sure,SS];repeat' with_reducible first|intro _|apply aI
 all_goals first|(simp[within,Go,Ends',v153,-List.getD_eq_getElem?_getD, *];done)|skip
 all_goals(simp only[within,V.bool.injEq];rw[Bool.eq_iff_iff];simp;omega)
def Asks2(g:Nat)(lo hi:Int)(p:Int->Bool):Prop:=∀n,PC g [iI n,rR (iI lo),rR (iI hi)] (·=.bool (p n))
def place(o:Option Nat):Int:=match o with|some i=>i|none=> -1
theorem place_ge(o:Option Nat):(0<=place o)↔o.isSome=true:=by cases o<;>simp[place]
inductive P136
 |e
 |l0 (x0_8:Int)
inductive R136
 |r0 (r0:Int)
def T136(g:Nat)(lo:Int)(hi:Int)(p:Int->Bool)(s:List Int):P136->Tr P136 R136
 |.e=>(.go (.l0 0))
 |.l0 x0_8=>let c1:=s.getD (x0_8).toNat tint.zero;(.br (decide (x0_8<(s.length:Int))) (.need (decide (0<=x0_8)&&decide (x0_8<(s.length:Int))) (.call g [iI c1,rR (iI lo),rR (iI hi)] (.bool (p c1)) true true (.br (p c1) (.out (.r0 x0_8)) (.need (inR .i64 (x0_8+(1:Int))) (.go (.l0 (x0_8+(1:Int)))))))) (.out (.r0 (-1))))
noncomputable def g136(g:Nat)(lo:Int)(hi:Int)(p:Int->Bool)(s:List Int):P136->List Item × St
 |.e=>bd Tryz.f136 [tint.lst s,.func (.func g) [] [rR (iI lo),rR (iI hi)]] 17
 |.l0 x0_8=>(cutOf Tryz.f136 0,⟨mk 19 [(0,tint.lst s),(1,.func (.func g) [] [rR (iI lo),rR (iI hi)]),(4,iI 0),(7,iI (s.length:Int)),(8,iI x0_8)],[],[]⟩)
def n136:R136->Exit × St
 |.r0 r0=>(.ret,⟨mk 19 [(4,iI r0)],[],[]⟩)
def v136:R136->V
 |.r0 r0=>iI r0
theorem s136(g:Nat)(lo:Int)(hi:Int)(p:Int->Bool)(s:List Int):Sm 0 (g136 g lo hi p s) (T136 g lo hi p s) (n136)
 |.e=>⟨400,by kernel_rfl⟩
 |.l0 _=>⟨400,by kernel_rfl⟩
theorem q136:∀r,bodyQ Tryz.prog Tryz.f136 (·=v136 r) (n136 r).1 (n136 r).2
 |.r0 r0=>bq (iI r0) (by kernel_rfl)
theorem w136(g:Nat)(lo:Int)(hi:Int)(p:Int->Bool)(s:List Int){post:V->Prop}(h:WQ (T136 g lo hi p s) v136 post .e):PC 136 [tint.lst s,.func (.func g) [] [rR (iI lo),rR (iI hi)]] post:=
 PCalls.wq Tryz.func136 (s136 g lo hi p s) q136 h
theorem e136:∀xs w,(callFunc 136 xs).run Tryz.prog w=.ok (.enter 136 xs) w:=PCalls.enters Tryz.func136 (c:=Tryz.f136.body.getD .skip) (by kernel_rfl) (by kernel_rfl)
theorem c136{g:Nat}{lo hi:Int}{p:Int->Bool}(s:List Int)(hg:Asks2 g lo hi p):PC 136 [tint.lst s,.func (.func g) [] [rR (iI lo),rR (iI hi)]]
  (·=iI (place (firstI p 0 s))):=by
 refine PCalls.assume e136 0 (by simp) .list fun hs=> ?_;refine w136 g lo hi p s (WP.step ?_);simp only[T136,Go,Ends',v136,Tr.sure,SS];repeat' with_reducible first|intro _|apply aI
 refine WP.findI (fun i=>.l0 i) rfl s 0 p (fun i hi=> ?_) fun hI=> ?_
 ·have hr:=inRi hi hs;refine WP.once ?_;simp only[T136,Tr.sure,SS,hi,z1];repeat' with_reducible first|intro _|apply aI
  all_goals first|exact hg _|(simp[hr,place,Go,Ends',v136,-List.getD_eq_getElem?_getD, *];done)|(simp_all [hr,place,Go,Ends',v136,-List.getD_eq_getElem?_getD];done)
 ·refine WP.step ?_;simp only[T136,Go,Ends',v136,Tr.sure,SS];repeat' with_reducible first|intro _|apply aI
  all_goals simp[hI,place,Go,Ends',v136,-List.getD_eq_getElem?_getD, *]
inductive P120
 |e
inductive R120
 |r0 (r0:Bool)
def T120(g:Nat)(lo:Int)(hi:Int)(p:Int->Bool)(s:List Int):P120->Tr P120 R120
 |.e=>(.call 136 [tint.lst s,.func (.func g) [] [rR (iI lo),rR (iI hi)]] (iI (place (firstI p 0 s))) true true (.out (.r0 (decide ((place (firstI p 0 s))≥(0:Int))))))
noncomputable def g120(g:Nat)(lo:Int)(hi:Int)(p:Int->Bool)(s:List Int):P120->List Item × St
 |.e=>bd Tryz.f120 [tint.lst s,.func (.func g) [] [rR (iI lo),rR (iI hi)]] 7
def n120:R120->Exit × St
 |.r0 r0=>(.ret,⟨mk 9 [(4,.bool r0)],[],[]⟩)
def v120:R120->V
 |.r0 r0=>.bool r0
theorem s120(g:Nat)(lo:Int)(hi:Int)(p:Int->Bool)(s:List Int):Sm 0 (g120 g lo hi p s) (T120 g lo hi p s) (n120)
 |.e=>⟨400,by kernel_rfl⟩
theorem q120:∀r,bodyQ Tryz.prog Tryz.f120 (·=v120 r) (n120 r).1 (n120 r).2
 |.r0 r0=>bq (.bool r0) (by kernel_rfl)
theorem w120(g:Nat)(lo:Int)(hi:Int)(p:Int->Bool)(s:List Int){post:V->Prop}(h:WQ (T120 g lo hi p s) v120 post .e):PC 120 [tint.lst s,.func (.func g) [] [rR (iI lo),rR (iI hi)]] post:=
 PCalls.wq Tryz.func120 (s120 g lo hi p s) q120 h
theorem c120{g:Nat}{lo hi:Int}{p:Int->Bool}(s:List Int)(hg:Asks2 g lo hi p):PC 120 [tint.lst s,.func (.func g) [] [rR (iI lo),rR (iI hi)]]
  (·=.bool (s.any p)):=by
 have h1:decide (0<=place (firstI p 0 s))=s.any p:=by rw[<-firstI_any p s 0,Bool.eq_iff_iff,decide_eq_true_iff];exact place_ge _
 refine w120 g lo hi p s (WP.step ?_);simp only[T120,Go,Ends',v120,Tr.sure,SS];repeat' with_reducible first|intro _|apply aI
 all_goals first|exact c136 s hg|(simp[h1,Go,Ends',v120,-List.getD_eq_getElem?_getD, *];done)
inductive P58
 |e
inductive R58
 |r0 (r0:Bool)
def T58(p0:Int)(p1:Int)(p2:List Int):P58->Tr P58 R58
 |.e=>(.call 120 [tint.lst p2,fG 121 [rR (iI p0),rR (iI p1)]] (.bool (outside p0 p1 p2)) true true (.out (.r0 (outside p0 p1 p2))))
noncomputable def g58(p0:Int)(p1:Int)(p2:List Int):P58->List Item × St
 |.e=>bd Tryz.f58 [iI p0,iI p1,tint.lst p2] 7
def n58:R58->Exit × St
 |.r0 r0=>(.ret,⟨mk 10 [(6,.bool r0)],[],[]⟩)
def v58:R58->V
 |.r0 r0=>.bool r0
theorem s58(p0:Int)(p1:Int)(p2:List Int):Sm 0 (g58 p0 p1 p2) (T58 p0 p1 p2) (n58)
 |.e=>⟨400,by kernel_rfl⟩
theorem q58:∀r,bodyQ Tryz.prog Tryz.f58 (·=v58 r) (n58 r).1 (n58 r).2
 |.r0 r0=>bq (.bool r0) (by kernel_rfl)
theorem w58(p0:Int)(p1:Int)(p2:List Int){post:V->Prop}(h:WQ (T58 p0 p1 p2) v58 post .e):PC 58 [iI p0,iI p1,tint.lst p2] post:=
 PCalls.wq Tryz.func58 (s58 p0 p1 p2) q58 h
theorem c58(lo hi:Int)(l:List Int):PC 58 [iI lo,iI hi,tint.lst l] (·=.bool (outside lo hi l)):=by
 refine w58 _ _ _ (WP.step ?_);simp only[T58,Go,Ends',v58,Tr.sure,SS];repeat' with_reducible first|intro _|apply aI
 all_goals exact c120 l fun n=>c121 n lo hi
inductive P109
 |e
inductive R109
 |r0 (r0:Bool)
def T109(p0:Int)(p1:Int)(p2:List Int):P109->Tr P109 R109
 |.e=>(.call 120 [tint.lst p2,fG 153 [rR (iI p0),rR (iI p1)]] (.bool (outside p0 p1 p2)) true true (.out (.r0 (outside p0 p1 p2))))
noncomputable def g109(p0:Int)(p1:Int)(p2:List Int):P109->List Item × St
 |.e=>bd Tryz.f109 [iI p0,iI p1,tint.lst p2] 7
def n109:R109->Exit × St
 |.r0 r0=>(.ret,⟨mk 10 [(6,.bool r0)],[],[]⟩)
def v109:R109->V
 |.r0 r0=>.bool r0
theorem s109(p0:Int)(p1:Int)(p2:List Int):Sm 0 (g109 p0 p1 p2) (T109 p0 p1 p2) (n109)
 |.e=>⟨400,by kernel_rfl⟩
theorem q109:∀r,bodyQ Tryz.prog Tryz.f109 (·=v109 r) (n109 r).1 (n109 r).2
 |.r0 r0=>bq (.bool r0) (by kernel_rfl)
theorem w109(p0:Int)(p1:Int)(p2:List Int){post:V->Prop}(h:WQ (T109 p0 p1 p2) v109 post .e):PC 109 [iI p0,iI p1,tint.lst p2] post:=
 PCalls.wq Tryz.func109 (s109 p0 p1 p2) q109 h
theorem c109(lo hi:Int)(l:List Int):PC 109 [iI lo,iI hi,tint.lst l] (·=.bool (outside lo hi l)):=by
 refine w109 _ _ _ (WP.step ?_);simp only[T109,Go,Ends',v109,Tr.sure,SS];repeat' with_reducible first|intro _|apply aI
 all_goals exact c120 l fun n=>c153 n lo hi
theorem outside1(lo hi a:Int):outside lo hi [a]= !within a lo hi:=by simp[outside]
theorem outside2(lo hi a b:Int):outside lo hi [a,b]=(!within a lo hi|| !within b lo hi):=by simp[outside]
inductive P113
 |e
inductive R113
 |r0 (r0:ByteArray)
def T113(p0:Mould):P113->Tr P113 R113
 |.e=>(.out (.r0 p0.name))
noncomputable def g113(p0:Mould):P113->List Item × St
 |.e=>bd Tryz.f113 [.agg [.str p0.name,iI p0.casts,tSpan.lst p0.lasts]] 4
def n113:R113->Exit × St
 |.r0 r0=>(.ret,⟨mk 5 [(2,.str r0)],[],[]⟩)
def v113:R113->V
 |.r0 r0=>.str r0
theorem s113(p0:Mould):Sm 0 (g113 p0) (T113 p0) (n113)
 |.e=>⟨400,by kernel_rfl⟩
theorem q113:∀r,bodyQ Tryz.prog Tryz.f113 (·=v113 r) (n113 r).1 (n113 r).2
 |.r0 r0=>bq (.str r0) (by kernel_rfl)
theorem w113(p0:Mould){post:V->Prop}(h:WQ (T113 p0) v113 post .e):PC 113 [.agg [.str p0.name,iI p0.casts,tSpan.lst p0.lasts]] post:=
 PCalls.wq Tryz.func113 (s113 p0) q113 h
theorem c113(m:Mould):PC 113 [.agg (tMould.cells m)] (·=.str m.name):=by
 refine w113 _ (WP.step ?_);simp only[T113,Go,Ends',v113,Tr.sure,SS];repeat' with_reducible first|intro _|apply aI
inductive P119
 |e
inductive R119
 |r0 (r0:ByteArray)
def T119(p0:Head):P119->Tr P119 R119
 |.e=>(.out (.r0 p0.name))
noncomputable def g119(p0:Head):P119->List Item × St
 |.e=>bd Tryz.f119 [.agg [.str p0.name,tint.lst p0.shows]] 4
def n119:R119->Exit × St
 |.r0 r0=>(.ret,⟨mk 5 [(2,.str r0)],[],[]⟩)
def v119:R119->V
 |.r0 r0=>.str r0
theorem s119(p0:Head):Sm 0 (g119 p0) (T119 p0) (n119)
 |.e=>⟨400,by kernel_rfl⟩
theorem q119:∀r,bodyQ Tryz.prog Tryz.f119 (·=v119 r) (n119 r).1 (n119 r).2
 |.r0 r0=>bq (.str r0) (by kernel_rfl)
theorem w119(p0:Head){post:V->Prop}(h:WQ (T119 p0) v119 post .e):PC 119 [.agg [.str p0.name,tint.lst p0.shows]] post:=
 PCalls.wq Tryz.func119 (s119 p0) q119 h
theorem c119(m:Head):PC 119 [.agg (tHead.cells m)] (·=.str m.name):=by
 refine w119 _ (WP.step ?_);simp only[T119,Go,Ends',v119,Tr.sure,SS];repeat' with_reducible first|intro _|apply aI
end
end Go.Proofs.YtdamoemndifpmaaGreat
namespace Go.Proofs.YtdamoemndifpmaaGreat
open Ab Go
noncomputable section
theorem VLe.take{τ:Type}(E:Ty τ)(l:List τ)(i n:Nat)(hi:i<=l.length)(hn:n=i):VLe (.list E.w n (fun a j=>rowsOf E l a j)) (E.lst (l.take i)):=by
 subst hn;have hl:(l.take n).length=n:=by simp;omega
 show VLe _ (.list E.w (l.take n).length (rowsOf E (l.take n)));rw[hl];exact VLe.list fun a j ha _=>by simp only[rowsOf,gE,List.getElem?_take,ha,if_true]
theorem byte_at(s:ByteArray)(i:Nat)(hi:i<s.size):s[i]'hi=s.data.toList.getD i 0:=by
 simp only[gE,List.getElem?_eq_getElem (show i<s.data.toList.length from hi),Option.getD_some];rfl
inductive P154
 |e
 |l0 (o0_0:Nat)
inductive R154
 |r0 (r0:Bool)
def T154(p0:ByteArray):P154->Tr P154 R154
 |.e=>(.sem (opAt Tryz.f154 1 1) [(.tmp 6,.str p0)] [] (.ref 0 0 0) [.obj (.stringIter p0 0)] true (.go (.l0 0)))
 |.l0 o0_0=>let c2:=Utf8.decode p0 o0_0;let c1:Tr P154 R154:=.br ((o0_0:Int)==(0:Int)) (.lit true (.lit true (.lit true (.out (.r0 false))))) (.br ((c2.1:Int) !=(46:Int)) (.br (decide ((c2.1:Int)<(48:Int))) (.lit true (.lit false (.lit true (.lit true (.out (.r0 false)))))) (.lit true (.lit false (.lit true (.br (decide ((c2.1:Int)>(57:Int))) (.out (.r0 false)) (.go (.l0 (o0_0+c2.2)))))))) (.lit false (.lit false (.lit true (.lit false (.go (.l0 (o0_0+c2.2))))))));let c3:List Blk:=[.obj (.stringIter p0 o0_0)];(.wait 1 (.cas (decide (o0_0<p0.size)) (.sem (opAt Tryz.f154 2 0) [(.tmp 7,.ref 0 0 0)] c3 (.tuple [.bool true,iI (o0_0:Int),.int .i32 (c2.1:Int)]) [.obj (.stringIter p0 (o0_0+c2.2))] true (.lit true (.br (decide ((97:Int)<=(c2.1:Int))) (.br (!(decide ((c2.1:Int)<=(122:Int)))) c1 (.lit false (.lit false (.go (.l0 (o0_0+c2.2)))))) (.lit true c1)))) (.sem (opAt Tryz.f154 2 0) [(.tmp 7,.ref 0 0 0)] c3 (.tuple [.bool false]) c3 true (.lit false (.br (!(p0.toList==(ByteArray.mk #[]).toList)) (.out (.r0 (decide ((p0.size:Int)<=(16:Int))))) (.out (.r0 false)))))))
noncomputable def g154(p0:ByteArray):P154->List Item × St
 |.e=>bd Tryz.f154 [.str p0] 42
 |.l0 o0_0=>(cutOf Tryz.f154 0,⟨mk 43 [(0,.str p0),(2,.bool false),(7,.ref 0 0 0)],[.obj (.stringIter p0 o0_0)],[]⟩)
def n154:R154->Exit × St
 |.r0 r0=>(.ret,⟨mk 43 [(2,.bool r0)],[],[]⟩)
def v154:R154->V
 |.r0 r0=>.bool r0
theorem s154(p0:ByteArray):Sm 0 (g154 p0) (T154 p0) (n154)
 |.e=>⟨400,by kernel_rfl⟩
 |.l0 _=>⟨400,by kernel_rfl⟩
theorem q154:∀r,bodyQ Tryz.prog Tryz.f154 (·=v154 r) (n154 r).1 (n154 r).2
 |.r0 r0=>bq (.bool r0) (by kernel_rfl)
theorem w154(p0:ByteArray){post:V->Prop}(h:WQ (T154 p0) v154 post .e):PC 154 [.str p0] post:=
 PCalls.wq Tryz.func154 (s154 p0) q154 h
theorem c154(s:ByteArray):PC 154 [.str s] (·=.bool (nameOk s)):=by
 refine w154 _ (WP.step ?_);simp only[T154,Go,Ends',v154,Tr.sure,SS];repeat' with_reducible first|intro _|apply aI
 all_goals first|exact sem_rangeStr (by kernel_rfl)|skip
 refine WP.count (fun i=>.l0 i) rfl s.size (fun i=>nameFrom true s.data.toList=nameFrom (i==0) (s.data.toList.drop i)) rfl (fun i hi hI=> ?_) fun hI=> ?_
 ·have hd:=drop_cons 0 s.data.toList i hi;rw[hd]at hI;have hb:=byte_at s i hi;have hsem:SemOK Tryz.prog (opAt Tryz.f154 2 0) _ _ _ _:=sem_nextStr (P:=Tryz.prog) (x:=.tmp 7) (i:=0) (h:=[.obj (.stringIter s i)]) rfl hi
  have hgo:(97<=(s.data.toList.getD i 0).toNat/\(s.data.toList.getD i 0).toNat<=122\/i≠0/\(48<=(s.data.toList.getD i 0).toNat/\(s.data.toList.getD i 0).toNat<=57\/(s.data.toList.getD i 0).toNat=46))->
    nameFrom true s.data.toList=nameFrom (i+1==0) (s.data.toList.drop (i+1)):=fun h=>by
   rw[hI];simp only[nameFrom,letter,other,within]
   have:(decide ((97:Int)<=((s.data.toList.getD i 0).toNat:Int))&&decide (((s.data.toList.getD i 0).toNat:Int)<=122)|| !(i==0)&&(decide ((48:Int)<=((s.data.toList.getD i 0).toNat:Int))&&decide (((s.data.toList.getD i 0).toNat:Int)<=57)||((s.data.toList.getD i 0).toNat:Int)==46))=true:=by
    simp only[Bool.or_eq_true,Bool.and_eq_true,decide_eq_true_eq,Bool.not_eq_eq_eq_not,Bool.not_true,beq_eq_false_iff_ne,beq_iff_eq];omega
   rw[this];simp
  have hx:¬(97<=(s.data.toList.getD i 0).toNat/\(s.data.toList.getD i 0).toNat<=122\/i≠0/\(48<=(s.data.toList.getD i 0).toNat/\(s.data.toList.getD i 0).toNat<=57\/(s.data.toList.getD i 0).toNat=46))->
    nameOk s=false:=fun h=>by
   have:nameFrom true s.data.toList=false:=by
    rw[hI];simp only[nameFrom,letter,other,within]
    have:(decide ((97:Int)<=((s.data.toList.getD i 0).toNat:Int))&&decide (((s.data.toList.getD i 0).toNat:Int)<=122)|| !(i==0)&&(decide ((48:Int)<=((s.data.toList.getD i 0).toNat:Int))&&decide (((s.data.toList.getD i 0).toNat:Int)<=57)||((s.data.toList.getD i 0).toNat:Int)==46))=false:=by
     rw[Bool.eq_false_iff];simp only[ne_eq,Bool.or_eq_true,Bool.and_eq_true,decide_eq_true_eq,Bool.not_eq_eq_eq_not,Bool.not_true,beq_eq_false_iff_ne,beq_iff_eq];omega
    rw[this];simp
   simp[nameOk,this]
  have hen:∀x:Bool,nameOk s=false->x=false->V.bool x=V.bool (nameOk s):=fun x h1 h2=>by rw[h1,h2]
  by_cases ha:(s.data.toList.getD i 0).toNat<128
  ·have hu:=decode_ascii s i hi (by rw[hb];exact ha);rw[hb]at hu;rw[hu]at hsem;generalize hg:s.data.toList.getD i 0=c at*
   refine WP.once ?_;simp only[T154,Tr.sure,SS,hi,hu];repeat' with_reducible first|intro _|apply aI
   all_goals first|exact hsem|exact .inl (hgo (by omega))|exact .inr (hen _ (hx (by omega)) rfl)
  ·have hu:=(decode_high s i hi (by rw[hb];omega)).1;have hx':=hx (by omega);refine WP.once ?_;simp only[T154,Tr.sure,SS,hi];repeat' with_reducible first|intro _|apply aI
   all_goals first|exact hsem|exact .inr (hen _ hx' rfl)|exact(by omega)
   all_goals(exfalso;omega)
 ·have he:nameFrom (s.size==0) (s.data.toList.drop s.size)=true:=by rw[<-data_len,List.drop_length];rfl
  have hz:s.toList=(ByteArray.mk #[]).toList↔s.size=0:=by
   rw[ByteArray.toList_eq,ByteArray.toList_eq,<-data_len];exact⟨fun h=>by rw[h];rfl,fun h=>List.eq_nil_of_length_eq_zero h⟩
  have h16:((s.size:Int)<=16)↔s.size<=16:=by omega
  refine WP.step ?_;simp only[T154,Go,Ends',v154,Tr.sure,SS,Nat.lt_irrefl,hz];repeat' with_reducible first|intro _|apply aI
  all_goals first|exact sem_nextStr0 rfl (Nat.lt_irrefl _)|(simp[hI,he,nameOk,hz,h16,Go,Ends',v154,-List.getD_eq_getElem?_getD, *];done)
inductive P156
 |e
inductive R156
 |r0 (r0:Bool)
def T156(m:Mould)(own:ByteArray):P156->Tr P156 R156
 |.e=>(.front [(2,113,[.agg [.str m.name,iI m.casts,tSpan.lst m.lasts]],.str (Mould.name m))] [] true true (.out (.r0 ((Mould.name m).toList==own.toList))))
noncomputable def g156(m:Mould)(own:ByteArray):P156->List Item × St
 |.e=>bd Tryz.f156 [.agg [.str m.name,iI m.casts,tSpan.lst m.lasts],rR (fF 113),rR (.str own)] 7
def n156:R156->Exit × St
 |.r0 r0=>(.ret,⟨mk 10 [(4,.bool r0)],[],[]⟩)
def v156:R156->V
 |.r0 r0=>.bool r0
theorem s156(m:Mould)(own:ByteArray):Sm 0 (g156 m own) (T156 m own) (n156)
 |.e=>⟨400,by kernel_rfl⟩
theorem q156:∀r,bodyQ Tryz.prog Tryz.f156 (·=v156 r) (n156 r).1 (n156 r).2
 |.r0 r0=>bq (.bool r0) (by kernel_rfl)
theorem w156(m:Mould)(own:ByteArray){post:V->Prop}(h:WQ (T156 m own) v156 post .e):PC 156 [.agg [.str m.name,iI m.casts,tSpan.lst m.lasts],rR (fF 113),rR (.str own)] post:=
 PCalls.wq Tryz.func156 (s156 m own) q156 h
theorem c156(m:Mould)(own:ByteArray):PC 156 [.agg (tMould.cells m),rR (fF 113),rR (.str own)] (·=.bool (same m.name own)):=by
 refine w156 _ _ (WP.step ?_);simp only[T156,Go,Ends',v156,Tr.sure,SS];repeat' with_reducible first|intro _|apply aI
 all_goals first|exact c113 _|(simp[same,Go,Ends',v156,-List.getD_eq_getElem?_getD, *];done)
inductive P203
 |e
 |l0 (x0_8:Int)
inductive R203
 |r0 (r0:Int)
def T203(own:ByteArray)(s:List Mould):P203->Tr P203 R203
 |.e=>(.go (.l0 0))
 |.l0 x0_8=>let c1:=s.getD (x0_8).toNat tMould.zero;(.br (decide (x0_8<(s.length:Int))) (.need (decide (0<=x0_8)&&decide (x0_8<(s.length:Int))) (.call 156 [.agg [.str (c1.name),iI (c1.casts),tSpan.lst (c1.lasts)],rR (fF 113),rR (.str own)] (.bool (same c1.name own)) true true (.br (same c1.name own) (.out (.r0 x0_8)) (.need (inR .i64 (x0_8+(1:Int))) (.go (.l0 (x0_8+(1:Int)))))))) (.out (.r0 (-1))))
noncomputable def g203(own:ByteArray)(s:List Mould):P203->List Item × St
 |.e=>bd Tryz.f203 [tMould.lst s,fG 156 [rR (fF 113),rR (.str own)]] 17
 |.l0 x0_8=>(cutOf Tryz.f203 0,⟨mk 19 [(0,tMould.lst s),(1,fG 156 [rR (fF 113),rR (.str own)]),(4,iI 0),(7,iI (s.length:Int)),(8,iI x0_8)],[],[]⟩)
def n203:R203->Exit × St
 |.r0 r0=>(.ret,⟨mk 19 [(4,iI r0)],[],[]⟩)
def v203:R203->V
 |.r0 r0=>iI r0
theorem s203(own:ByteArray)(s:List Mould):Sm 0 (g203 own s) (T203 own s) (n203)
 |.e=>⟨400,by kernel_rfl⟩
 |.l0 _=>⟨400,by kernel_rfl⟩
theorem q203:∀r,bodyQ Tryz.prog Tryz.f203 (·=v203 r) (n203 r).1 (n203 r).2
 |.r0 r0=>bq (iI r0) (by kernel_rfl)
theorem w203(own:ByteArray)(s:List Mould){post:V->Prop}(h:WQ (T203 own s) v203 post .e):PC 203 [tMould.lst s,fG 156 [rR (fF 113),rR (.str own)]] post:=
 PCalls.wq Tryz.func203 (s203 own s) q203 h
theorem c203(s:List Mould)(own:ByteArray)(hl:s.length<=maxn):PC 203 [tMould.lst s,fG 156 [rR (fF 113),rR (.str own)]] (·=iI (place (firstI (fun m=>same m.name own) 0 s))):=by
 refine w203 own s (WP.step ?_);simp only[T203,Go,Ends',v203,Tr.sure,SS];repeat' with_reducible first|intro _|apply aI
 refine WP.findI (fun i=>.l0 i) rfl s zMould (fun m=>same m.name own) (fun i hi=> ?_) fun hI=> ?_
 ·have hr:=inRi hi hl;refine WP.once ?_;simp only[T203,Tr.sure,SS,hi,z2];repeat' with_reducible first|intro _|apply aI
  all_goals first|exact c156 _ _|(simp[hr,place,Go,Ends',v203,-List.getD_eq_getElem?_getD, *];done)|(simp_all [hr,place,Go,Ends',v203,-List.getD_eq_getElem?_getD];done)
 ·refine WP.step ?_;simp only[T203,Go,Ends',v203,Tr.sure,SS];repeat' with_reducible first|intro _|apply aI
  all_goals simp[hI,place,Go,Ends',v203,-List.getD_eq_getElem?_getD, *]
inductive P155
 |e
inductive R155
 |r0 (r0:Bool)
def T155(own:ByteArray)(s:List Mould):P155->Tr P155 R155
 |.e=>(.call 203 [tMould.lst s,fG 156 [rR (fF 113),rR (.str own)]] (iI (place (firstI (fun m=>same m.name own) 0 s))) true true (.out (.r0 (decide ((place (firstI (fun m=>same m.name own) 0 s))≥(0:Int))))))
noncomputable def g155(own:ByteArray)(s:List Mould):P155->List Item × St
 |.e=>bd Tryz.f155 [tMould.lst s,fG 156 [rR (fF 113),rR (.str own)]] 7
def n155:R155->Exit × St
 |.r0 r0=>(.ret,⟨mk 9 [(4,.bool r0)],[],[]⟩)
def v155:R155->V
 |.r0 r0=>.bool r0
theorem s155(own:ByteArray)(s:List Mould):Sm 0 (g155 own s) (T155 own s) (n155)
 |.e=>⟨400,by kernel_rfl⟩
theorem q155:∀r,bodyQ Tryz.prog Tryz.f155 (·=v155 r) (n155 r).1 (n155 r).2
 |.r0 r0=>bq (.bool r0) (by kernel_rfl)
theorem w155(own:ByteArray)(s:List Mould){post:V->Prop}(h:WQ (T155 own s) v155 post .e):PC 155 [tMould.lst s,fG 156 [rR (fF 113),rR (.str own)]] post:=
 PCalls.wq Tryz.func155 (s155 own s) q155 h
theorem c155(s:List Mould)(own:ByteArray)(hl:s.length<=maxn):PC 155 [tMould.lst s,fG 156 [rR (fF 113),rR (.str own)]] (·=.bool ((s.map (·.name)).any fun o=>same o own)):=by
 have h1:decide (0<=place (firstI (fun m=>same m.name own) 0 s))=(s.map (·.name)).any fun o=>same o own:=by rw[List.any_map,<-firstI_any _ s 0,Bool.eq_iff_iff,decide_eq_true_iff];exact place_ge _
 refine w155 own s (WP.step ?_);simp only[T155,Go,Ends',v155,Tr.sure,SS];repeat' with_reducible first|intro _|apply aI
 all_goals first|exact c203 s own hl|(simp[h1,Go,Ends',v155,-List.getD_eq_getElem?_getD, *];done)
inductive P112
 |e
inductive R112
 |r0 (r0:Int)
def T112(l:List Mould)(n:Nat):P112->Tr P112 R112
 |.e=>let c1:=l.getD ((n:Int)).toNat tMould.zero;let c2:=Mould.name c1;(.front [(5,113,[.agg [.str (c1.name),iI (c1.casts),tSpan.lst (c1.lasts)]],.str c2)] [] (((decide (0<=(n:Int))&&decide ((n:Int)<(l.length:Int)))&&true)&&true) true (.call 154 [.str c2] (.bool (nameOk c2)) true true (.br (!(nameOk c2)) (.out (.r0 6)) (.need ((decide (0<=(0:Int))&&decide ((0:Int)<=(n:Int)))&&decide ((n:Int)<=(l.length:Int))) (.call 155 [.list 3 (((n:Int)).toNat-((0:Int)).toNat) (fun i j=>rowsOf tMould l (((0:Int)).toNat+i) j),fG 156 [rR (fF 113),rR (.str c2)]] (.bool (((l.take n).map (·.name)).any fun o=>same o (l.getD n zMould).name)) true true (.br (((l.take n).map (·.name)).any fun o=>same o (l.getD n zMould).name) (.out (.r0 5)) (.out (.r0 0))))))))
noncomputable def g112(l:List Mould)(n:Nat):P112->List Item × St
 |.e=>bd Tryz.f112 [tMould.lst l,iI (n:Int),fF 113] 21
def n112:R112->Exit × St
 |.r0 r0=>(.ret,⟨mk 24 [(6,iI r0)],[],[]⟩)
def v112:R112->V
 |.r0 r0=>iI r0
theorem s112(l:List Mould)(n:Nat):Sm 0 (g112 l n) (T112 l n) (n112)
 |.e=>⟨400,by kernel_rfl⟩
theorem q112:∀r,bodyQ Tryz.prog Tryz.f112 (·=v112 r) (n112 r).1 (n112 r).2
 |.r0 r0=>bq (iI r0) (by kernel_rfl)
theorem w112(l:List Mould)(n:Nat){post:V->Prop}(h:WQ (T112 l n) v112 post .e):PC 112 [tMould.lst l,iI (n:Int),fF 113] post:=
 PCalls.wq Tryz.func112 (s112 l n) q112 h
theorem c112(l:List Mould)(n:Nat)(hn:n<l.length)(hl:l.length<=maxn):PC 112 [tMould.lst l,iI n,fF 113] (·=iI (newErr (l.getD n zMould).name ((l.map (·.name)).take n))):=by
 have hq:n<=l.length:=by omega
 have hq':(n:Int)<=l.length:=by omega
 have hc:=c155 (l.take n) (l.getD n zMould).name (by simp;omega);rw[List.map_take]at hc;refine w112 _ _ (WP.step ?_);simp only[T112,Go,Ends',v112,Tr.sure,SS,z2,hn,hq',List.map_take,Int.toNat_zero,Nat.sub_zero,Nat.zero_add];repeat' with_reducible first|intro _|apply aI
 all_goals first|exact c113 _|exact c154 _|exact(PCalls.arg (pre:=[]) hc (VLe.take tMould l n n hq rfl))|(simp[newErr,hn,Go,Ends',v112,-List.getD_eq_getElem?_getD, *];done)
inductive P158
 |e
inductive R158
 |r0 (r0:Bool)
def T158(m:Head)(own:ByteArray):P158->Tr P158 R158
 |.e=>(.front [(2,119,[.agg [.str m.name,tint.lst m.shows]],.str (Head.name m))] [] true true (.out (.r0 ((Head.name m).toList==own.toList))))
noncomputable def g158(m:Head)(own:ByteArray):P158->List Item × St
 |.e=>bd Tryz.f158 [.agg [.str m.name,tint.lst m.shows],rR (fF 119),rR (.str own)] 7
def n158:R158->Exit × St
 |.r0 r0=>(.ret,⟨mk 10 [(4,.bool r0)],[],[]⟩)
def v158:R158->V
 |.r0 r0=>.bool r0
theorem s158(m:Head)(own:ByteArray):Sm 0 (g158 m own) (T158 m own) (n158)
 |.e=>⟨400,by kernel_rfl⟩
theorem q158:∀r,bodyQ Tryz.prog Tryz.f158 (·=v158 r) (n158 r).1 (n158 r).2
 |.r0 r0=>bq (.bool r0) (by kernel_rfl)
theorem w158(m:Head)(own:ByteArray){post:V->Prop}(h:WQ (T158 m own) v158 post .e):PC 158 [.agg [.str m.name,tint.lst m.shows],rR (fF 119),rR (.str own)] post:=
 PCalls.wq Tryz.func158 (s158 m own) q158 h
theorem c158(m:Head)(own:ByteArray):PC 158 [.agg (tHead.cells m),rR (fF 119),rR (.str own)] (·=.bool (same m.name own)):=by
 refine w158 _ _ (WP.step ?_);simp only[T158,Go,Ends',v158,Tr.sure,SS];repeat' with_reducible first|intro _|apply aI
 all_goals first|exact c119 _|(simp[same,Go,Ends',v158,-List.getD_eq_getElem?_getD, *];done)
inductive P204
 |e
 |l0 (x0_8:Int)
inductive R204
 |r0 (r0:Int)
def T204(own:ByteArray)(s:List Head):P204->Tr P204 R204
 |.e=>(.go (.l0 0))
 |.l0 x0_8=>let c1:=s.getD (x0_8).toNat tHead.zero;(.br (decide (x0_8<(s.length:Int))) (.need (decide (0<=x0_8)&&decide (x0_8<(s.length:Int))) (.call 158 [.agg [.str (c1.name),tint.lst (c1.shows)],rR (fF 119),rR (.str own)] (.bool (same c1.name own)) true true (.br (same c1.name own) (.out (.r0 x0_8)) (.need (inR .i64 (x0_8+(1:Int))) (.go (.l0 (x0_8+(1:Int)))))))) (.out (.r0 (-1))))
noncomputable def g204(own:ByteArray)(s:List Head):P204->List Item × St
 |.e=>bd Tryz.f204 [tHead.lst s,fG 158 [rR (fF 119),rR (.str own)]] 17
 |.l0 x0_8=>(cutOf Tryz.f204 0,⟨mk 19 [(0,tHead.lst s),(1,fG 158 [rR (fF 119),rR (.str own)]),(4,iI 0),(7,iI (s.length:Int)),(8,iI x0_8)],[],[]⟩)
def n204:R204->Exit × St
 |.r0 r0=>(.ret,⟨mk 19 [(4,iI r0)],[],[]⟩)
def v204:R204->V
 |.r0 r0=>iI r0
theorem s204(own:ByteArray)(s:List Head):Sm 0 (g204 own s) (T204 own s) (n204)
 |.e=>⟨400,by kernel_rfl⟩
 |.l0 _=>⟨400,by kernel_rfl⟩
theorem q204:∀r,bodyQ Tryz.prog Tryz.f204 (·=v204 r) (n204 r).1 (n204 r).2
 |.r0 r0=>bq (iI r0) (by kernel_rfl)
theorem w204(own:ByteArray)(s:List Head){post:V->Prop}(h:WQ (T204 own s) v204 post .e):PC 204 [tHead.lst s,fG 158 [rR (fF 119),rR (.str own)]] post:=
 PCalls.wq Tryz.func204 (s204 own s) q204 h
theorem c204(s:List Head)(own:ByteArray)(hl:s.length<=maxn):PC 204 [tHead.lst s,fG 158 [rR (fF 119),rR (.str own)]] (·=iI (place (firstI (fun m=>same m.name own) 0 s))):=by
 refine w204 own s (WP.step ?_);simp only[T204,Go,Ends',v204,Tr.sure,SS];repeat' with_reducible first|intro _|apply aI
 refine WP.findI (fun i=>.l0 i) rfl s zHead (fun m=>same m.name own) (fun i hi=> ?_) fun hI=> ?_
 ·have hr:=inRi hi hl;refine WP.once ?_;simp only[T204,Tr.sure,SS,hi,z3];repeat' with_reducible first|intro _|apply aI
  all_goals first|exact c158 _ _|(simp[hr,place,Go,Ends',v204,-List.getD_eq_getElem?_getD, *];done)|(simp_all [hr,place,Go,Ends',v204,-List.getD_eq_getElem?_getD];done)
 ·refine WP.step ?_;simp only[T204,Go,Ends',v204,Tr.sure,SS];repeat' with_reducible first|intro _|apply aI
  all_goals simp[hI,place,Go,Ends',v204,-List.getD_eq_getElem?_getD, *]
inductive P157
 |e
inductive R157
 |r0 (r0:Bool)
def T157(own:ByteArray)(s:List Head):P157->Tr P157 R157
 |.e=>(.call 204 [tHead.lst s,fG 158 [rR (fF 119),rR (.str own)]] (iI (place (firstI (fun m=>same m.name own) 0 s))) true true (.out (.r0 (decide ((place (firstI (fun m=>same m.name own) 0 s))≥(0:Int))))))
noncomputable def g157(own:ByteArray)(s:List Head):P157->List Item × St
 |.e=>bd Tryz.f157 [tHead.lst s,fG 158 [rR (fF 119),rR (.str own)]] 7
def n157:R157->Exit × St
 |.r0 r0=>(.ret,⟨mk 9 [(4,.bool r0)],[],[]⟩)
def v157:R157->V
 |.r0 r0=>.bool r0
theorem s157(own:ByteArray)(s:List Head):Sm 0 (g157 own s) (T157 own s) (n157)
 |.e=>⟨400,by kernel_rfl⟩
theorem q157:∀r,bodyQ Tryz.prog Tryz.f157 (·=v157 r) (n157 r).1 (n157 r).2
 |.r0 r0=>bq (.bool r0) (by kernel_rfl)
theorem w157(own:ByteArray)(s:List Head){post:V->Prop}(h:WQ (T157 own s) v157 post .e):PC 157 [tHead.lst s,fG 158 [rR (fF 119),rR (.str own)]] post:=
 PCalls.wq Tryz.func157 (s157 own s) q157 h
theorem c157(s:List Head)(own:ByteArray)(hl:s.length<=maxn):PC 157 [tHead.lst s,fG 158 [rR (fF 119),rR (.str own)]] (·=.bool ((s.map (·.name)).any fun o=>same o own)):=by
 have h1:decide (0<=place (firstI (fun m=>same m.name own) 0 s))=(s.map (·.name)).any fun o=>same o own:=by rw[List.any_map,<-firstI_any _ s 0,Bool.eq_iff_iff,decide_eq_true_iff];exact place_ge _
 refine w157 own s (WP.step ?_);simp only[T157,Go,Ends',v157,Tr.sure,SS];repeat' with_reducible first|intro _|apply aI
 all_goals first|exact c204 s own hl|(simp[h1,Go,Ends',v157,-List.getD_eq_getElem?_getD, *];done)
inductive P118
 |e
inductive R118
 |r0 (r0:Int)
def T118(l:List Head)(n:Nat):P118->Tr P118 R118
 |.e=>let c1:=l.getD ((n:Int)).toNat tHead.zero;let c2:=Head.name c1;(.front [(5,119,[.agg [.str (c1.name),tint.lst (c1.shows)]],.str c2)] [] (((decide (0<=(n:Int))&&decide ((n:Int)<(l.length:Int)))&&true)&&true) true (.call 154 [.str c2] (.bool (nameOk c2)) true true (.br (!(nameOk c2)) (.out (.r0 6)) (.need ((decide (0<=(0:Int))&&decide ((0:Int)<=(n:Int)))&&decide ((n:Int)<=(l.length:Int))) (.call 157 [.list 2 (((n:Int)).toNat-((0:Int)).toNat) (fun i j=>rowsOf tHead l (((0:Int)).toNat+i) j),fG 158 [rR (fF 119),rR (.str c2)]] (.bool (((l.take n).map (·.name)).any fun o=>same o (l.getD n zHead).name)) true true (.br (((l.take n).map (·.name)).any fun o=>same o (l.getD n zHead).name) (.out (.r0 5)) (.out (.r0 0))))))))
noncomputable def g118(l:List Head)(n:Nat):P118->List Item × St
 |.e=>bd Tryz.f118 [tHead.lst l,iI (n:Int),fF 119] 21
def n118:R118->Exit × St
 |.r0 r0=>(.ret,⟨mk 24 [(6,iI r0)],[],[]⟩)
def v118:R118->V
 |.r0 r0=>iI r0
theorem s118(l:List Head)(n:Nat):Sm 0 (g118 l n) (T118 l n) (n118)
 |.e=>⟨400,by kernel_rfl⟩
theorem q118:∀r,bodyQ Tryz.prog Tryz.f118 (·=v118 r) (n118 r).1 (n118 r).2
 |.r0 r0=>bq (iI r0) (by kernel_rfl)
theorem w118(l:List Head)(n:Nat){post:V->Prop}(h:WQ (T118 l n) v118 post .e):PC 118 [tHead.lst l,iI (n:Int),fF 119] post:=
 PCalls.wq Tryz.func118 (s118 l n) q118 h
theorem c118(l:List Head)(n:Nat)(hn:n<l.length)(hl:l.length<=maxn):PC 118 [tHead.lst l,iI n,fF 119] (·=iI (newErr (l.getD n zHead).name ((l.map (·.name)).take n))):=by
 have hq:n<=l.length:=by omega
 have hq':(n:Int)<=l.length:=by omega
 have hc:=c157 (l.take n) (l.getD n zHead).name (by simp;omega);rw[List.map_take]at hc;refine w118 _ _ (WP.step ?_);simp only[T118,Go,Ends',v118,Tr.sure,SS,z3,hn,hq',List.map_take,Int.toNat_zero,Nat.sub_zero,Nat.zero_add];repeat' with_reducible first|intro _|apply aI
 all_goals first|exact c119 _|exact c154 _|exact(PCalls.arg (pre:=[]) hc (VLe.take tHead l n n hq rfl))|(simp[newErr,hn,Go,Ends',v118,-List.getD_eq_getElem?_getD, *];done)
end
noncomputable section
inductive P115
 |e
inductive R115
 |r0 (r0:Int)
def T115(p0:Int)(p1:Span):P115->Tr P115 R115
 |.e=>let c1:=outside 0 6 ([p1.lo,p1.hi]:List Int);(.call 109 [iI 0,iI 6,.list 1 2 (litC 1 2 [iI p1.lo,iI p1.hi])] (.bool c1) ((decide (2<=2))&&true) true (.br c1 (.out (.r0 7)) (.br (decide (p1.lo>p1.hi)) (.out (.r0 2)) (.out (.r0 0)))))
noncomputable def g115(p0:Int)(p1:Span):P115->List Item × St
 |.e=>bd Tryz.f115 [iI p0,.agg [iI p1.lo,iI p1.hi]] 16
def n115:R115->Exit × St
 |.r0 r0=>(.ret,⟨mk 18 [(4,iI r0)],[],[]⟩)
def v115:R115->V
 |.r0 r0=>iI r0
theorem s115(p0:Int)(p1:Span):Sm 0 (g115 p0 p1) (T115 p0 p1) (n115)
 |.e=>⟨400,by kernel_rfl⟩
theorem q115:∀r,bodyQ Tryz.prog Tryz.f115 (·=v115 r) (n115 r).1 (n115 r).2
 |.r0 r0=>bq (iI r0) (by kernel_rfl)
theorem w115(p0:Int)(p1:Span){post:V->Prop}(h:WQ (T115 p0 p1) v115 post .e):PC 115 [iI p0,.agg [iI p1.lo,iI p1.hi]] post:=
 PCalls.wq Tryz.func115 (s115 p0 p1) q115 h
theorem c115(i:Int)(x:Span):PC 115 [iI i,.agg (tSpan.cells x)] (·=iI (spanErr x)):=by
 have ho:=outside2 0 6 x.lo x.hi;refine w115 _ _ (WP.step ?_);simp only[T115,Go,Ends',v115,Tr.sure,SS];repeat' with_reducible first|intro _|apply aI
 all_goals first|exact(PCalls.arg (pre:=[iI 0,iI 6]) (c109 0 6 [x.lo,x.hi]) (VLe.lit tint _ rfl rfl (fun _=>rfl)))|(simp[spanErr,endsErr,Go,Ends',v115,-List.getD_eq_getElem?_getD, *];done)|(simp_all [spanErr,endsErr,Go,Ends',v115,-List.getD_eq_getElem?_getD];done)
inductive P114
 |e
 |l0 (x0_11:Int)
inductive R114
 |r0 (r0:Int) (r1:Int)
def T114(l:List Span):P114->Tr P114 R114
 |.e=>(.go (.l0 0))
 |.l0 x0_11=>let c1:=l.getD (x0_11).toNat tSpan.zero;let c2:=x0_11<(l.length:Int);(.br (decide c2) (.need (decide (0<=x0_11)&&decide c2) (.call 115 [iI x0_11,.agg [iI (c1.lo),iI (c1.hi)]] (iI (spanErr c1)) true true (.br ((spanErr c1) !=(0:Int)) (.out (.r0 x0_11 (spanErr c1))) (.need (inR .i64 (x0_11+(1:Int))) (.go (.l0 (x0_11+(1:Int)))))))) (.out (.r0 0 0)))
noncomputable def g114(l:List Span):P114->List Item × St
 |.e=>bd Tryz.f114 [tSpan.lst l,fF 115] 23
 |.l0 x0_11=>(cutOf Tryz.f114 0,⟨mk 25 [(1,fF 115),(4,iI 0),(5,iI 0),(9,tSpan.lst l),(10,iI (l.length:Int)),(11,iI x0_11)],[],[]⟩)
def n114:R114->Exit × St
 |.r0 r0 r1=>(.ret,⟨mk 25 [(4,iI r0),(5,iI r1)],[],[]⟩)
def v114:R114->V
 |.r0 r0 r1=>.tuple [iI r0,iI r1]
theorem s114(l:List Span):Sm 0 (g114 l) (T114 l) (n114)
 |.e=>⟨400,by kernel_rfl⟩
 |.l0 _=>⟨400,by kernel_rfl⟩
theorem q114:∀r,bodyQ Tryz.prog Tryz.f114 (·=v114 r) (n114 r).1 (n114 r).2
 |.r0 r0 r1=>bq (.tuple [iI r0,iI r1]) (by kernel_rfl)
theorem w114(l:List Span){post:V->Prop}(h:WQ (T114 l) v114 post .e):PC 114 [tSpan.lst l,fF 115] post:=
 PCalls.wq Tryz.func114 (s114 l) q114 h
theorem c114(l:List Span)(hl:l.length<=maxn):PC 114 [tSpan.lst l,fF 115] (·=.tuple [iI (firstR (fun _ x=>spanErr x) l).1,iI (firstR (fun _ x=>spanErr x) l).2]):=by
 refine w114 _ (WP.step ?_);simp only[T114,Go,Ends',v114,Tr.sure,SS];repeat' with_reducible first|intro _|apply aI
 refine WP.findE (fun i=>.l0 i) rfl l zSpan (fun _ x=>spanErr x) (fun i hi=> ?_) fun hI=> ?_
 ·have hr:=inRi hi hl;refine WP.once ?_;simp only[T114,Tr.sure,SS,hi,z4];repeat' with_reducible first|intro _|apply aI
  all_goals first|exact c115 _ _|(simp[hr,firstR,Go,Ends',v114,-List.getD_eq_getElem?_getD, *];done)|(simp_all [hr,firstR,Go,Ends',v114,-List.getD_eq_getElem?_getD];done)
 ·refine WP.step ?_;simp only[T114,Go,Ends',v114,Tr.sure,SS];repeat' with_reducible first|intro _|apply aI
  all_goals simp[hI,firstR,Go,Ends',v114,-List.getD_eq_getElem?_getD, *]
theorem firstR_lasts(l:List Span):(firstR (fun _ x=>spanErr x) l).2=lastsErr l:=by
 simp only[firstR,lastsErr];cases firstE (fun _ x=>spanErr x) 0 l<;>rfl
inductive P111
 |e
inductive R111
 |r0 (r0:Int)
def T111(i:Nat)(m:Mould)(s:Shop):P111->Tr P111 R111
 |.e=>let c1:=newErr (s.moulds.getD i zMould).name ((s.moulds.map (·.name)).take i);let c2:=outside 1 4 ([m.casts]:List Int);(.call 112 [tMould.lst s.moulds,iI (i:Int),fF 113] (iI c1) true true (.br (c1 !=(0:Int)) (.out (.r0 c1)) (.call 109 [iI 1,iI 4,.list 1 1 (litC 1 1 [iI m.casts])] (.bool c2) ((decide (1<=1))&&true) true (.br c2 (.out (.r0 7)) (.br ((m.lasts.length:Int) !=s.features) (.out (.r0 3)) (.call 114 [tSpan.lst m.lasts,fF 115] (.tuple [iI ((firstR (fun _ x=>spanErr x) m.lasts).1),iI ((firstR (fun _ x=>spanErr x) m.lasts).2)]) true true (.out (.r0 ((firstR (fun _ x=>spanErr x) m.lasts).2)))))))))
noncomputable def g111(i:Nat)(m:Mould)(s:Shop):P111->List Item × St
 |.e=>bd Tryz.f111 [iI (i:Int),.agg [.str m.name,iI m.casts,tSpan.lst m.lasts],.cref 3 fun q=>([iI s.features,tMould.lst s.moulds,tHead.lst s.heads]:List V).getD q uU] 32
def n111:R111->Exit × St
 |.r0 r0=>(.ret,⟨mk 35 [(5,iI r0)],[],[]⟩)
def v111:R111->V
 |.r0 r0=>iI r0
theorem s111(i:Nat)(m:Mould)(s:Shop):Sm 0 (g111 i m s) (T111 i m s) (n111)
 |.e=>⟨400,by kernel_rfl⟩
theorem q111:∀r,bodyQ Tryz.prog Tryz.f111 (·=v111 r) (n111 r).1 (n111 r).2
 |.r0 r0=>bq (iI r0) (by kernel_rfl)
theorem w111(i:Nat)(m:Mould)(s:Shop){post:V->Prop}(h:WQ (T111 i m s) v111 post .e):PC 111 [iI (i:Int),.agg [.str m.name,iI m.casts,tSpan.lst m.lasts],.cref 3 fun q=>([iI s.features,tMould.lst s.moulds,tHead.lst s.heads]:List V).getD q uU] post:=
 PCalls.wq Tryz.func111 (s111 i m s) q111 h
theorem c111(s:Shop)(i:Nat)(m:Mould)(hi:i<s.moulds.length)(hm:m=s.moulds.getD i zMould)(h2:s.moulds.length<=2)(h4:m.lasts.length<=maxn):PC 111 [iI i,.agg (tMould.cells m),.cref 3 fun q=>(tShop.cells s).getD q uU] (·=iI (mouldAt s i m)):=by
 have hx:=c112 s.moulds i hi (Nat.le_trans h2 (by decide));have ho:=outside1 1 4 m.casts;refine w111 _ _ _ (WP.step ?_);simp only[T111,Go,Ends',v111,Tr.sure,SS];repeat' with_reducible first|intro _|apply aI
 all_goals first|exact hx|exact c114 _ h4|exact(PCalls.arg (pre:=[iI 1,iI 4]) (c109 1 4 [m.casts]) (VLe.lit tint _ rfl rfl (fun _=>rfl)))|(simp[mouldAt,mouldErr,firstR_lasts,Go,Ends',v111,-List.getD_eq_getElem?_getD, *];done)|(simp_all [mouldAt,mouldErr,firstR_lasts,Go,Ends',v111,-List.getD_eq_getElem?_getD];done)
theorem VLe.lit1(n:Int):VLe (.list 1 1 (litC 1 1 [iI n])) (tint.lst [n]):=VLe.lit tint [n] rfl rfl (fun _=>rfl)
inductive P117
 |e
inductive R117
 |r0 (r0:Int)
def T117(i:Nat)(m:Head)(s:Shop):P117->Tr P117 R117
 |.e=>let c1:=newErr (s.heads.getD i zHead).name ((s.heads.map (·.name)).take i);(.call 118 [tHead.lst s.heads,iI (i:Int),fF 119] (iI c1) true true (.br (c1 !=(0:Int)) (.out (.r0 c1)) (.br ((m.shows.length:Int) !=s.features) (.out (.r0 3)) (.call 109 [iI 0,iI 2,tint.lst m.shows] (.bool (outside 0 2 m.shows)) true true (.br (outside 0 2 m.shows) (.out (.r0 7)) (.out (.r0 0)))))))
noncomputable def g117(i:Nat)(m:Head)(s:Shop):P117->List Item × St
 |.e=>bd Tryz.f117 [iI (i:Int),.agg [.str m.name,tint.lst m.shows],.cref 3 fun q=>([iI s.features,tMould.lst s.moulds,tHead.lst s.heads]:List V).getD q uU] 23
def n117:R117->Exit × St
 |.r0 r0=>(.ret,⟨mk 26 [(5,iI r0)],[],[]⟩)
def v117:R117->V
 |.r0 r0=>iI r0
theorem s117(i:Nat)(m:Head)(s:Shop):Sm 0 (g117 i m s) (T117 i m s) (n117)
 |.e=>⟨400,by kernel_rfl⟩
theorem q117:∀r,bodyQ Tryz.prog Tryz.f117 (·=v117 r) (n117 r).1 (n117 r).2
 |.r0 r0=>bq (iI r0) (by kernel_rfl)
theorem w117(i:Nat)(m:Head)(s:Shop){post:V->Prop}(h:WQ (T117 i m s) v117 post .e):PC 117 [iI (i:Int),.agg [.str m.name,tint.lst m.shows],.cref 3 fun q=>([iI s.features,tMould.lst s.moulds,tHead.lst s.heads]:List V).getD q uU] post:=
 PCalls.wq Tryz.func117 (s117 i m s) q117 h
theorem c117(s:Shop)(i:Nat)(m:Head)(hi:i<s.heads.length)(hm:m=s.heads.getD i zHead)(h2:s.heads.length<=4):PC 117 [iI i,.agg (tHead.cells m),.cref 3 fun q=>(tShop.cells s).getD q uU] (·=iI (headAt s i m)):=by
 have hx:=c118 s.heads i hi (Nat.le_trans h2 (by decide));have ho:outside 0 2 m.shows=m.shows.any (fun n=> !within n 0 2):=rfl;refine w117 _ _ _ (WP.step ?_);simp only[T117,Go,Ends',v117,Tr.sure,SS];repeat' with_reducible first|intro _|apply aI
 all_goals first|exact hx|exact c109 _ _ _|(simp[headAt,headErr,Go,Ends',v117,-List.getD_eq_getElem?_getD, *];done)|(simp_all [headAt,headErr,Go,Ends',v117,-List.getD_eq_getElem?_getD];done)
inductive P110
 |e
 |l0 (x0_11:Int)
inductive R110
 |r0 (r0:Int) (r1:Int)
def T110(s:Shop):P110->Tr P110 R110
 |.e=>(.go (.l0 0))
 |.l0 x0_11=>let c1:=s.moulds.getD (x0_11).toNat tMould.zero;let c2:=mouldAt s x0_11.toNat c1;let c3:=x0_11<(s.moulds.length:Int);(.br (decide c3) (.need (decide (0<=x0_11)&&decide c3) (.call 111 [iI x0_11,.agg [.str (c1.name),iI (c1.casts),tSpan.lst (c1.lasts)],.cref 3 fun q=>([iI s.features,tMould.lst s.moulds,tHead.lst s.heads]:List V).getD q uU] (iI c2) true true (.br (c2 !=(0:Int)) (.out (.r0 x0_11 c2)) (.need (inR .i64 (x0_11+(1:Int))) (.go (.l0 (x0_11+(1:Int)))))))) (.out (.r0 0 0)))
noncomputable def g110(s:Shop):P110->List Item × St
 |.e=>bd Tryz.f110 [tMould.lst s.moulds,fG 111 [.cref 3 fun q=>([iI s.features,tMould.lst s.moulds,tHead.lst s.heads]:List V).getD q uU]] 23
 |.l0 x0_11=>(cutOf Tryz.f110 0,⟨mk 25 [(1,fG 111 [.cref 3 fun q=>([iI s.features,tMould.lst s.moulds,tHead.lst s.heads]:List V).getD q uU]),(4,iI 0),(5,iI 0),(9,tMould.lst s.moulds),(10,iI (s.moulds.length:Int)),(11,iI x0_11)],[],[]⟩)
def n110:R110->Exit × St
 |.r0 r0 r1=>(.ret,⟨mk 25 [(4,iI r0),(5,iI r1)],[],[]⟩)
def v110:R110->V
 |.r0 r0 r1=>.tuple [iI r0,iI r1]
theorem s110(s:Shop):Sm 0 (g110 s) (T110 s) (n110)
 |.e=>⟨400,by kernel_rfl⟩
 |.l0 _=>⟨400,by kernel_rfl⟩
theorem q110:∀r,bodyQ Tryz.prog Tryz.f110 (·=v110 r) (n110 r).1 (n110 r).2
 |.r0 r0 r1=>bq (.tuple [iI r0,iI r1]) (by kernel_rfl)
theorem w110(s:Shop){post:V->Prop}(h:WQ (T110 s) v110 post .e):PC 110 [tMould.lst s.moulds,fG 111 [.cref 3 fun q=>([iI s.features,tMould.lst s.moulds,tHead.lst s.heads]:List V).getD q uU]] post:=
 PCalls.wq Tryz.func110 (s110 s) q110 h
theorem c110(s:Shop)(hl:s.moulds.length<=maxn)(hg:∀i:Nat,i<s.moulds.length->PC 111 [iI i,.agg (tMould.cells (s.moulds.getD i zMould)),.cref 3 fun q=>(tShop.cells s).getD q uU] (·=iI (mouldAt s i (s.moulds.getD i zMould)))):
  PC 110 [tMould.lst s.moulds,fG 111 [.cref 3 fun q=>(tShop.cells s).getD q uU]] (·=.tuple [iI (firstR (mouldAt s) s.moulds).1,iI (firstR (mouldAt s) s.moulds).2]):=by
 refine w110 _ (WP.step ?_);simp only[T110,Go,Ends',v110,Tr.sure,SS];repeat' with_reducible first|intro _|apply aI
 refine WP.findE (fun i=>.l0 i) rfl s.moulds zMould (mouldAt s) (fun i hi=> ?_) fun hI=> ?_
 ·have hr:=inRi hi hl;refine WP.once ?_;simp only[T110,Tr.sure,SS,hi,z2];repeat' with_reducible first|intro _|apply aI
  all_goals first|exact hg i hi|(simp[hr,firstR,Go,Ends',v110,-List.getD_eq_getElem?_getD, *];done)|(simp_all [hr,firstR,Go,Ends',v110,-List.getD_eq_getElem?_getD];done)
 ·refine WP.step ?_;simp only[T110,Go,Ends',v110,Tr.sure,SS];repeat' with_reducible first|intro _|apply aI
  all_goals simp[hI,firstR,Go,Ends',v110,-List.getD_eq_getElem?_getD, *]
inductive P116
 |e
 |l0 (x0_11:Int)
inductive R116
 |r0 (r0:Int) (r1:Int)
def T116(s:Shop):P116->Tr P116 R116
 |.e=>(.go (.l0 0))
 |.l0 x0_11=>let c1:=s.heads.getD (x0_11).toNat tHead.zero;let c2:=headAt s x0_11.toNat c1;let c3:=x0_11<(s.heads.length:Int);(.br (decide c3) (.need (decide (0<=x0_11)&&decide c3) (.call 117 [iI x0_11,.agg [.str (c1.name),tint.lst (c1.shows)],.cref 3 fun q=>([iI s.features,tMould.lst s.moulds,tHead.lst s.heads]:List V).getD q uU] (iI c2) true true (.br (c2 !=(0:Int)) (.out (.r0 x0_11 c2)) (.need (inR .i64 (x0_11+(1:Int))) (.go (.l0 (x0_11+(1:Int)))))))) (.out (.r0 0 0)))
noncomputable def g116(s:Shop):P116->List Item × St
 |.e=>bd Tryz.f116 [tHead.lst s.heads,fG 117 [.cref 3 fun q=>([iI s.features,tMould.lst s.moulds,tHead.lst s.heads]:List V).getD q uU]] 23
 |.l0 x0_11=>(cutOf Tryz.f116 0,⟨mk 25 [(1,fG 117 [.cref 3 fun q=>([iI s.features,tMould.lst s.moulds,tHead.lst s.heads]:List V).getD q uU]),(4,iI 0),(5,iI 0),(9,tHead.lst s.heads),(10,iI (s.heads.length:Int)),(11,iI x0_11)],[],[]⟩)
def n116:R116->Exit × St
 |.r0 r0 r1=>(.ret,⟨mk 25 [(4,iI r0),(5,iI r1)],[],[]⟩)
def v116:R116->V
 |.r0 r0 r1=>.tuple [iI r0,iI r1]
theorem s116(s:Shop):Sm 0 (g116 s) (T116 s) (n116)
 |.e=>⟨400,by kernel_rfl⟩
 |.l0 _=>⟨400,by kernel_rfl⟩
theorem q116:∀r,bodyQ Tryz.prog Tryz.f116 (·=v116 r) (n116 r).1 (n116 r).2
 |.r0 r0 r1=>bq (.tuple [iI r0,iI r1]) (by kernel_rfl)
theorem w116(s:Shop){post:V->Prop}(h:WQ (T116 s) v116 post .e):PC 116 [tHead.lst s.heads,fG 117 [.cref 3 fun q=>([iI s.features,tMould.lst s.moulds,tHead.lst s.heads]:List V).getD q uU]] post:=
 PCalls.wq Tryz.func116 (s116 s) q116 h
theorem c116(s:Shop)(hl:s.heads.length<=maxn)(hg:∀i:Nat,i<s.heads.length->PC 117 [iI i,.agg (tHead.cells (s.heads.getD i zHead)),.cref 3 fun q=>(tShop.cells s).getD q uU] (·=iI (headAt s i (s.heads.getD i zHead)))):
  PC 116 [tHead.lst s.heads,fG 117 [.cref 3 fun q=>(tShop.cells s).getD q uU]] (·=.tuple [iI (firstR (headAt s) s.heads).1,iI (firstR (headAt s) s.heads).2]):=by
 refine w116 _ (WP.step ?_);simp only[T116,Go,Ends',v116,Tr.sure,SS];repeat' with_reducible first|intro _|apply aI
 refine WP.findE (fun i=>.l0 i) rfl s.heads zHead (headAt s) (fun i hi=> ?_) fun hI=> ?_
 ·have hr:=inRi hi hl;refine WP.once ?_;simp only[T116,Tr.sure,SS,hi,z3];repeat' with_reducible first|intro _|apply aI
  all_goals first|exact hg i hi|(simp[hr,firstR,Go,Ends',v116,-List.getD_eq_getElem?_getD, *];done)|(simp_all [hr,firstR,Go,Ends',v116,-List.getD_eq_getElem?_getD];done)
 ·refine WP.step ?_;simp only[T116,Go,Ends',v116,Tr.sure,SS];repeat' with_reducible first|intro _|apply aI
  all_goals simp[hI,firstR,Go,Ends',v116,-List.getD_eq_getElem?_getD, *]
theorem firstR_cases{τ:Type}(of:Nat->τ->Int)(l:List τ):(firstE of 0 l=none/\(firstR of l).2=0)\/∃i e,firstE of 0 l=some (i,e)/\e≠0/\firstR of l=((i:Int),e):=by
 cases h:firstE of 0 l with
 |none=>exact .inl ⟨rfl,by simp only[firstR,h]⟩
 |some p=>exact .inr ⟨p.1,p.2,rfl,firstE_ne h,by simp only[firstR,h]⟩
theorem shopCheck_eq(s:Shop):shopCheck s=if within s.features 1 4=false then(1,0,7)else if(2:Int)<s.moulds.length then(2,0,3)else if(firstR (mouldAt s) s.moulds).2≠0 then(2,(firstR (mouldAt s) s.moulds).1,(firstR (mouldAt s) s.moulds).2)
  else if(4:Int)<s.heads.length then(3,0,3)else if(firstR (headAt s) s.heads).2≠0 then(3,(firstR (headAt s) s.heads).1,(firstR (headAt s) s.heads).2)else(0,0,0):=by
 rcases firstR_cases (mouldAt s) s.moulds with⟨h1,h2⟩|⟨i,e,h1,h2,h3⟩<;>rcases firstR_cases (headAt s) s.heads with⟨h4,h5⟩|⟨j,e',h4,h5,h6⟩<;>simp[shopCheck, *]
inductive P57
 |e
inductive R57
 |r0 (r0:Int) (r1:Int) (r2:Int)
def T57(p0:Shop):P57->Tr P57 R57
 |.e=>let c1:=firstR (mouldAt p0) p0.moulds;let c2:=firstR (headAt p0) p0.heads;let c3:=([iI p0.features,tMould.lst p0.moulds,tHead.lst p0.heads]:List V);let c4:=outside 1 4 ([p0.features]:List Int);(.call 109 [iI 1,iI 4,.list 1 1 (litC 1 1 [iI p0.features])] (.bool c4) ((decide (1<=1))&&true) true (.br c4 (.out (.r0 1 0 7)) (.br (decide ((p0.moulds.length:Int)>(2:Int))) (.out (.r0 2 0 3)) (.call 110 [tMould.lst p0.moulds,fG 111 [.cref 3 fun q=>c3.getD q uU]] (.tuple [iI (c1.1),iI (c1.2)]) true true (.br (c1.2 !=(0:Int)) (.out (.r0 2 (c1.1) (c1.2))) (.br (decide ((p0.heads.length:Int)>(4:Int))) (.out (.r0 3 0 3)) (.call 116 [tHead.lst p0.heads,fG 117 [.cref 3 fun q=>c3.getD q uU]] (.tuple [iI (c2.1),iI (c2.2)]) true true (.br (c2.2 !=(0:Int)) (.out (.r0 3 (c2.1) (c2.2))) (.out (.r0 0 0 0))))))))))
noncomputable def g57(p0:Shop):P57->List Item × St
 |.e=>bd Tryz.f57 [.agg [iI p0.features,tMould.lst p0.moulds,tHead.lst p0.heads]] 42
def n57:R57->Exit × St
 |.r0 r0 r1 r2=>(.ret,⟨mk 43 [(2,iI r0),(3,iI r1),(4,iI r2)],[],[]⟩)
def v57:R57->V
 |.r0 r0 r1 r2=>.tuple [iI r0,iI r1,iI r2]
theorem s57(p0:Shop):Sm 0 (g57 p0) (T57 p0) (n57)
 |.e=>⟨400,by kernel_rfl⟩
theorem q57:∀r,bodyQ Tryz.prog Tryz.f57 (·=v57 r) (n57 r).1 (n57 r).2
 |.r0 r0 r1 r2=>bq (.tuple [iI r0,iI r1,iI r2]) (by kernel_rfl)
theorem w57(p0:Shop){post:V->Prop}(h:WQ (T57 p0) v57 post .e):PC 57 [.agg [iI p0.features,tMould.lst p0.moulds,tHead.lst p0.heads]] post:=
 PCalls.wq Tryz.func57 (s57 p0) q57 h
theorem e57:∀xs w,(callFunc 57 xs).run Tryz.prog w=.ok (.enter 57 xs) w:=PCalls.enters Tryz.func57 (c:=Tryz.f57.body.getD .skip) (by kernel_rfl) (by kernel_rfl)
theorem c57(s:Shop):PC 57 [.agg (tShop.cells s)] (·=.tuple [iI (shopCheck s).1,iI (shopCheck s).2.1,iI (shopCheck s).2.2]):=by
 refine PCalls.assumeAll e57 0 (by simp) (fun G x h=>lens_shop (rest:=[]) h) fun hL=> ?_;have ho:=outside1 1 4 s.features
 have hc1:¬(2:Int)<s.moulds.length->PC 110 [tMould.lst s.moulds,fG 111 [.cref 3 fun q=>(tShop.cells s).getD q uU]] (·=.tuple [iI (firstR (mouldAt s) s.moulds).1,iI (firstR (mouldAt s) s.moulds).2]):=fun h=>
  c110 s hL.m fun i hi=>c111 s i _ hi rfl (by omega) (hL.l _ (by rw[gE,List.getElem?_eq_getElem hi];exact List.getElem_mem hi))
 have hc2:¬(4:Int)<s.heads.length->PC 116 [tHead.lst s.heads,fG 117 [.cref 3 fun q=>(tShop.cells s).getD q uU]] (·=.tuple [iI (firstR (headAt s) s.heads).1,iI (firstR (headAt s) s.heads).2]):=fun h=>
  c116 s hL.h fun i hi=>c117 s i _ hi rfl (by omega)
 have hc0:PC 109 [iI 1,iI 4,.list 1 1 (litC 1 1 [iI s.features])] (·=.bool (!within s.features 1 4)):=by
  have:=PCalls.arg (pre:=[iI 1,iI 4]) (suf:=[]) (c109 1 4 [s.features]) (VLe.lit1 _);rwa[ho]at this
 refine w57 _ (WP.step ?_);simp only[T57,Go,Ends',v57,Tr.sure,SS,ho];repeat' with_reducible first|intro _|apply aI
 all_goals first|exact hc0|exact(hc1 (by assumption))|exact(hc2 (by assumption))|(simp[shopCheck_eq,Go,Ends',v57,-List.getD_eq_getElem?_getD, *];done)
end
end Go.Proofs.YtdamoemndifpmaaGreat
