/-
  Part of the proof of the Head laws. Conditions: those that stand in each theorem.
-/
import Derived.Test.YtemgodefhcbleaaGreatB09
set_option linter.unusedSimpArgs false
set_option linter.unusedVariables false
set_option maxRecDepth 100000
namespace Go.Proofs.YtemgodefhcbleaaGreat
open Ab Go
noncomputable section
def oc0(p0:Int):Int:=(IntKind.wrap .u64 ((bitsOf .and .u64 (p0.fdiv (2^(min ((1:Int)).toNat 64))) (6148914691236517205:Int))+(bitsOf .and .u64 p0 (6148914691236517205:Int))))
def oc1(p0:Int):Int:=(IntKind.wrap .u64 ((bitsOf .and .u64 ((oc0 p0).fdiv (2^(min ((2:Int)).toNat 64))) (3689348814741910323:Int))+(bitsOf .and .u64 (oc0 p0) (3689348814741910323:Int))))
def oc2(p0:Int):Int:=(bitsOf .and .u64 (IntKind.wrap .u64 (((oc1 p0).fdiv (2^(min ((4:Int)).toNat 64)))+(oc1 p0))) (1085102592571150095:Int))
def oc3(p0:Int):Int:=(IntKind.wrap .u64 ((oc2 p0)+((oc2 p0).fdiv (2^(min ((8:Int)).toNat 64)))))
def oc4(p0:Int):Int:=(IntKind.wrap .u64 ((oc3 p0)+((oc3 p0).fdiv (2^(min ((16:Int)).toNat 64)))))
def oc5(p0:Int):Int:=(IntKind.wrap .u64 ((oc4 p0)+((oc4 p0).fdiv (2^(min ((32:Int)).toNat 64)))))
inductive P129
 |e
inductive R129
 |r0 (r0:Int)
def T129(p0:Int):P129->Tr P129 R129
 |.e=>let c1:=(6148914691236517205:Int);let c2:=(3689348814741910323:Int);(.need (decide (0<=(1:Int))) (.need true (.wait 1 (.vle 0 (.int .u64 (IntKind.wrap .u64 ((bitsOf .and .u64 (p0.fdiv (2^(min ((1:Int)).toNat 64))) c1)+(bitsOf .and .u64 p0 c1)))) (.int .u64 (oc0 p0)) (.need (decide (0<=(2:Int))) (.need true (.wait 1 (.vle 0 (.int .u64 (IntKind.wrap .u64 ((bitsOf .and .u64 ((oc0 p0).fdiv (2^(min ((2:Int)).toNat 64))) c2)+(bitsOf .and .u64 (oc0 p0) c2)))) (.int .u64 (oc1 p0)) (.need (decide (0<=(4:Int))) (.need true (.wait 1 (.vle 0 (.int .u64 (bitsOf .and .u64 (IntKind.wrap .u64 (((oc1 p0).fdiv (2^(min ((4:Int)).toNat 64)))+(oc1 p0))) (1085102592571150095:Int))) (.int .u64 (oc2 p0)) (.need (decide (0<=(8:Int))) (.need true (.wait 1 (.vle 0 (.int .u64 (IntKind.wrap .u64 ((oc2 p0)+((oc2 p0).fdiv (2^(min ((8:Int)).toNat 64)))))) (.int .u64 (oc3 p0)) (.need (decide (0<=(16:Int))) (.need true (.wait 1 (.vle 0 (.int .u64 (IntKind.wrap .u64 ((oc3 p0)+((oc3 p0).fdiv (2^(min ((16:Int)).toNat 64)))))) (.int .u64 (oc4 p0)) (.need (decide (0<=(32:Int))) (.need true (.wait 1 (.vle 0 (.int .u64 (IntKind.wrap .u64 ((oc4 p0)+((oc4 p0).fdiv (2^(min ((32:Int)).toNat 64)))))) (.int .u64 (oc5 p0)) (.need (inR .i64 (oc5 p0)) (.out (.r0 (bitsOf .and .i64 (oc5 p0) (127:Int)))))))))))))))))))))))))))))
noncomputable def g129(p0:Int):P129->List Item × St
 |.e=>bd Tryz.f129 [.int .u64 p0] 34
def n129:R129->Exit × St
 |.r0 r0=>(.ret,⟨mk 35 [(2,iI r0)],[],[]⟩)
def v129:R129->V
 |.r0 r0=>iI r0
theorem s129(p0:Int):Sm 0 (g129 p0) (T129 p0) (n129)
 |.e=>⟨400,by kernel_rfl⟩
theorem q129:∀r,bodyQ Tryz.prog Tryz.f129 (·=v129 r) (n129 r).1 (n129 r).2
 |.r0 r0=>bq (iI r0) (by kernel_rfl)
theorem w129(p0:Int){post:V->Prop}(h:WQ (T129 p0) v129 post .e):PC 129 [.int .u64 p0] post:=
 PCalls.wq Tryz.func129 (s129 p0) q129 h
def ones(p0:Int):Int:=bitsOf .and .i64 (oc5 p0) (127:Int)
theorem oc5_small:∀k:Fin 32,0<=oc5 (k:Nat)/\oc5 (k:Nat)<=5/\ones (k:Nat)=((bitsR (k:Nat)).length:Int):=by decide
theorem c129(s:Int)(h:0<=s/\s<=31):PC 129 [.int .u64 s] (·=iI ((bitsR s).length:Int)):=by
 obtain⟨k,rfl⟩:∃k:Fin 32,s=((k:Nat):Int):=⟨⟨s.toNat,by omega⟩,by simp only;omega⟩
 obtain⟨o1,o2,o3⟩:=oc5_small k;have hr:inR .i64 (oc5 (k:Nat))=true:=inR64 (by omega) (by omega);have ho:bitsOf .and .i64 (oc5 ((k:Nat):Int)) 127=((bitsR ((k:Nat):Int)).length:Int):=o3;rw[<-ho];refine w129 _ (WP.step ?_);simp only[T129,Go,Ends',v129,Tr.sure,SS];repeat' with_reducible first|intro _|apply aI
 all_goals first|exact VLe.refl _|(simp[hr,Go,Ends',v129,-List.getD_eq_getElem?_getD, *];done)
inductive P107
 |e
inductive R107
 |r0 (r0:Int)
def T107(s:Int):P107->Tr P107 R107
 |.e=>(.lit false (.call 129 [.int .u64 s] (iI ((bitsR s).length:Int)) true true (.out (.r0 ((bitsR s).length:Int)))))
noncomputable def g107(s:Int):P107->List Item × St
 |.e=>bd Tryz.f107 [.int .u64 s] 7
def n107:R107->Exit × St
 |.r0 r0=>(.ret,⟨mk 8 [(2,iI r0)],[],[]⟩)
def v107:R107->V
 |.r0 r0=>iI r0
theorem s107(s:Int):Sm 0 (g107 s) (T107 s) (n107)
 |.e=>⟨400,by kernel_rfl⟩
theorem q107:∀r,bodyQ Tryz.prog Tryz.f107 (·=v107 r) (n107 r).1 (n107 r).2
 |.r0 r0=>bq (iI r0) (by kernel_rfl)
theorem w107(s:Int){post:V->Prop}(h:WQ (T107 s) v107 post .e):PC 107 [.int .u64 s] post:=
 PCalls.wq Tryz.func107 (s107 s) q107 h
theorem c107(s:Int)(h:0<=s/\s<=31):PC 107 [.int .u64 s] (·=iI ((bitsR s).length:Int)):=by
 refine w107 _ (WP.step ?_);simp only[T107,Go,Ends',v107,Tr.sure,SS];repeat' with_reducible first|intro _|apply aI
 all_goals exact c129 s h
inductive P106
 |e
inductive R106
 |r0 (r0_0:Int) (r0_1:Bool) (r0_3:Int) (r0_4:Bool) (r0_6:Int) (r0_7:Bool) (r0_9:Int) (r0_10:Bool) (r0_12:Int) (r0_13:Bool)
def T106:P106->Tr P106 R106
 |.e=>(.out (.r0 2 true 4 true 0 false 2 false 2 false))
noncomputable def g106:P106->List Item × St
 |.e=>bd Tryz.f106 [] 10
def n106:R106->Exit × St
 |.r0 r0_0 r0_1 r0_3 r0_4 r0_6 r0_7 r0_9 r0_10 r0_12 r0_13=>(.ret,⟨mk 10 [(0,.ref 0 0 0)],[.rows 162 3 5 (fun r j=>([iI r0_0,.bool r0_1,fF 123,iI r0_3,.bool r0_4,fF 125,iI r0_6,.bool r0_7,fF 126,iI r0_9,.bool r0_10,fF 122,iI r0_12,.bool r0_13,fF 122]:List V).getD (r*3+j) uU)],[]⟩)
def v106:R106->V
 |.r0 r0_0 r0_1 r0_3 r0_4 r0_6 r0_7 r0_9 r0_10 r0_12 r0_13=>.arr 3 5 (fun r j=>([iI r0_0,.bool r0_1,fF 123,iI r0_3,.bool r0_4,fF 125,iI r0_6,.bool r0_7,fF 126,iI r0_9,.bool r0_10,fF 122,iI r0_12,.bool r0_13,fF 122]:List V).getD (r*3+j) uU)
theorem s106:Sm 0 (g106) (T106) (n106)
 |.e=>⟨400,by kernel_rfl⟩
theorem q106:∀r,bodyQ Tryz.prog Tryz.f106 (·=v106 r) (n106 r).1 (n106 r).2
 |.r0 r0_0 r0_1 r0_3 r0_4 r0_6 r0_7 r0_9 r0_10 r0_12 r0_13=>bq (.arr 3 5 (fun r j=>([iI r0_0,.bool r0_1,fF 123,iI r0_3,.bool r0_4,fF 125,iI r0_6,.bool r0_7,fF 126,iI r0_9,.bool r0_10,fF 122,iI r0_12,.bool r0_13,fF 122]:List V).getD (r*3+j) uU)) (by kernel_rfl)
theorem w106{post:V->Prop}(h:WQ (T106) v106 post .e):PC 106 [] post:=
 PCalls.wq Tryz.func106 (s106) q106 h
def formsC:Nat->Nat->V:=fun r j=>([iI 2,.bool true,fF 123,iI 4,.bool true,fF 125,iI 0,.bool false,fF 126,iI 2,.bool false,fF 122,iI 2,.bool false,fF 122]:List V).getD (r*3+j) uU
theorem c106:PC 106 [] (·=.arr 3 5 formsC):=by
 refine w106 (WP.step ?_);exact rfl
theorem c64s(lo hi:Int)(l:List Int)(a b:Nat)(h:b<=l.length):PC 64 [iI lo,iI hi,.list 1 (b-a) (fun i j=>rowsOf tint l (a+i) j)] (·=.bool (outside lo hi ((l.drop a).take (b-a)))):=by
 refine PCalls.arg (pre:=[iI lo,iI hi]) (c64 lo hi ((l.drop a).take (b-a))) ?_;have hl:((l.drop a).take (b-a)).length=b-a:=by rw[List.length_take,List.length_drop];omega
 show VLe _ (.list 1 ((l.drop a).take (b-a)).length (rowsOf tint ((l.drop a).take (b-a))));rw[hl];refine VLe.list fun i j hi' hj=> ?_;have:((l.drop a).take (b-a)).getD i 0=l.getD (a+i) 0:=by rw[gE,gE,List.getElem?_take,if_pos hi',List.getElem?_drop]
 simp only[rowsOf,z1,this]
theorem within0{n:Int}:within n 0 0=true↔n=0:=by rw[within_iff];omega
inductive P70_0
 |e
 |l0 (x0_7:Int)
inductive R70_0
 |r0 (r0:Int)
def T70_0(bs:Int)(x:Line):P70_0->Tr P70_0 R70_0
 |.e=>let c1:=([x.a,x.b,x.c,x.d]:List Int);let c2:=outside 0 (bs-(1:Int)) ((c1.drop (((0:Int)).toNat)).take (((2:Int)).toNat-((0:Int)).toNat));let c4:=((c1.length):Int);let c3:=outside 0 0 ((c1.drop (((2:Int)).toNat)).take ((c4).toNat-((2:Int)).toNat));let c5:V:=.list 1 4 (litC 1 4 [iI x.a,iI x.b,iI x.c,iI x.d]);(.front [(0,106,[],.arr 3 5 formsC)] [] (((decide (0<=(0:Int))&&decide ((0:Int)<(5:Int)))&&true)&&true) true (.wait 5 (.frz 2 ((decide (4<=4))&&((decide (4<=4))&&true)) (.vle 6 c5 (tint.lst c1) (.vle 20 c5 (tint.lst c1) (.need (inR .i64 (bs-(1:Int))) (.need ((decide (0<=(0:Int))&&decide ((0:Int)<=(2:Int)))&&decide ((2:Int)<=c4)) (.call 64 [iI 0,iI (bs-(1:Int)),.list 1 (((2:Int)).toNat-((0:Int)).toNat) (fun i j=>rowsOf tint c1 (((0:Int)).toNat+i) j)] (.bool c2) true true (.br c2 (.out (.r0 4)) (.front [] [] true true (.lit false (.lit false (.lit false (.lit false (.need ((decide (0<=(2:Int))&&decide ((2:Int)<=c4))&&decide (c4<=c4)) (.call 64 [iI 0,iI 0,.list 1 ((c4).toNat-((2:Int)).toNat) (fun i j=>rowsOf tint c1 (((2:Int)).toNat+i) j)] (.bool c3) true true (.br c3 (.lit true (.lit true (.out (.r0 2)))) (.lit true (.lit false (.br (x.set !=(0:Int)) (.out (.r0 2)) (.go (.l0 0))))))))))))))))))))))
 |.l0 x0_7=>let c1:=([x.a,x.b,x.c,x.d]:List Int);let c2:=x0_7+(1:Int);(.lit true (.br (decide (x0_7<(2:Int))) (.front [] [] (((decide (0<=x0_7)&&decide (x0_7<((c1.length):Int)))&&((inR .i64 c2)&&((decide (0<=c2)&&decide (c2<((c1.length):Int)))&&true)))&&true) true (.br ((c1.getD (x0_7).toNat tint.zero)==(c1.getD (c2).toNat tint.zero)) (.out (.r0 2)) (.need (inR .i64 (x0_7+(2:Int))) (.go (.l0 (x0_7+(2:Int))))))) (.out (.r0 0))))
noncomputable def g70_0(bs:Int)(x:Line):P70_0->List Item × St
 |.e=>bd Tryz.f70 [iI bs,.agg [iI x.day,iI 0,iI x.a,iI x.b,iI x.c,iI x.d,iI x.set]] 87
 |.l0 x0_7=>(cutOf Tryz.f70 0,⟨mk 89 [(5,.ref 1 0 0),(6,tint.lst ([x.a,x.b,x.c,x.d]:List Int)),(7,iI x0_7)],[.gone,.cells [iI 2,.bool true,fF 123]],[]⟩)
def n70_0:R70_0->Exit × St
 |.r0 r0=>(.ret,⟨mk 89 [(4,iI r0)],[],[]⟩)
def v70_0:R70_0->V
 |.r0 r0=>iI r0
theorem s70_0(bs:Int)(x:Line):Sm 0 (g70_0 bs x) (T70_0 bs x) (n70_0)
 |.e=>⟨400,by kernel_rfl⟩
 |.l0 _=>⟨400,by kernel_rfl⟩
theorem q70_0:∀r,bodyQ Tryz.prog Tryz.f70 (·=v70_0 r) (n70_0 r).1 (n70_0 r).2
 |.r0 r0=>bq (iI r0) (by kernel_rfl)
theorem w70_0(bs:Int)(x:Line){post:V->Prop}(h:WQ (T70_0 bs x) v70_0 post .e):PC 70 [iI bs,.agg [iI x.day,iI 0,iI x.a,iI x.b,iI x.c,iI x.d,iI x.set]] post:=
 PCalls.wq Tryz.func70 (s70_0 bs x) q70_0 h
inductive P70_1
 |e
 |l0 (x0_7:Int)
inductive R70_1
 |r0 (r0:Int)
def T70_1(bs:Int)(x:Line):P70_1->Tr P70_1 R70_1
 |.e=>let c1:=([x.a,x.b,x.c,x.d]:List Int);let c2:=outside 0 (bs-(1:Int)) ((c1.drop (((0:Int)).toNat)).take (((4:Int)).toNat-((0:Int)).toNat));let c4:=((c1.length):Int);let c3:=outside 0 0 ((c1.drop (((4:Int)).toNat)).take ((c4).toNat-((4:Int)).toNat));let c5:V:=.list 1 4 (litC 1 4 [iI x.a,iI x.b,iI x.c,iI x.d]);(.front [(0,106,[],.arr 3 5 formsC)] [] (((decide (0<=(1:Int))&&decide ((1:Int)<(5:Int)))&&true)&&true) true (.wait 5 (.frz 2 ((decide (4<=4))&&((decide (4<=4))&&true)) (.vle 6 c5 (tint.lst c1) (.vle 20 c5 (tint.lst c1) (.need (inR .i64 (bs-(1:Int))) (.need ((decide (0<=(0:Int))&&decide ((0:Int)<=(4:Int)))&&decide ((4:Int)<=c4)) (.call 64 [iI 0,iI (bs-(1:Int)),.list 1 (((4:Int)).toNat-((0:Int)).toNat) (fun i j=>rowsOf tint c1 (((0:Int)).toNat+i) j)] (.bool c2) true true (.br c2 (.out (.r0 4)) (.front [] [] true true (.lit false (.lit false (.lit false (.lit false (.need ((decide (0<=(4:Int))&&decide ((4:Int)<=c4))&&decide (c4<=c4)) (.call 64 [iI 0,iI 0,.list 1 ((c4).toNat-((4:Int)).toNat) (fun i j=>rowsOf tint c1 (((4:Int)).toNat+i) j)] (.bool c3) true true (.br c3 (.lit true (.lit true (.out (.r0 2)))) (.lit true (.lit false (.br (x.set !=(0:Int)) (.out (.r0 2)) (.go (.l0 0))))))))))))))))))))))
 |.l0 x0_7=>let c1:=([x.a,x.b,x.c,x.d]:List Int);let c2:=x0_7+(1:Int);(.lit true (.br (decide (x0_7<(4:Int))) (.front [] [] (((decide (0<=x0_7)&&decide (x0_7<((c1.length):Int)))&&((inR .i64 c2)&&((decide (0<=c2)&&decide (c2<((c1.length):Int)))&&true)))&&true) true (.br ((c1.getD (x0_7).toNat tint.zero)==(c1.getD (c2).toNat tint.zero)) (.out (.r0 2)) (.need (inR .i64 (x0_7+(2:Int))) (.go (.l0 (x0_7+(2:Int))))))) (.out (.r0 0))))
noncomputable def g70_1(bs:Int)(x:Line):P70_1->List Item × St
 |.e=>bd Tryz.f70 [iI bs,.agg [iI x.day,iI 1,iI x.a,iI x.b,iI x.c,iI x.d,iI x.set]] 87
 |.l0 x0_7=>(cutOf Tryz.f70 0,⟨mk 89 [(5,.ref 1 0 0),(6,tint.lst ([x.a,x.b,x.c,x.d]:List Int)),(7,iI x0_7)],[.gone,.cells [iI 4,.bool true,fF 125]],[]⟩)
def n70_1:R70_1->Exit × St
 |.r0 r0=>(.ret,⟨mk 89 [(4,iI r0)],[],[]⟩)
def v70_1:R70_1->V
 |.r0 r0=>iI r0
theorem s70_1(bs:Int)(x:Line):Sm 0 (g70_1 bs x) (T70_1 bs x) (n70_1)
 |.e=>⟨400,by kernel_rfl⟩
 |.l0 _=>⟨400,by kernel_rfl⟩
theorem q70_1:∀r,bodyQ Tryz.prog Tryz.f70 (·=v70_1 r) (n70_1 r).1 (n70_1 r).2
 |.r0 r0=>bq (iI r0) (by kernel_rfl)
theorem w70_1(bs:Int)(x:Line){post:V->Prop}(h:WQ (T70_1 bs x) v70_1 post .e):PC 70 [iI bs,.agg [iI x.day,iI 1,iI x.a,iI x.b,iI x.c,iI x.d,iI x.set]] post:=
 PCalls.wq Tryz.func70 (s70_1 bs x) q70_1 h
inductive P70_2
 |e
 |l0
inductive R70_2
 |r0 (r0:Int)
def T70_2(bs:Int)(x:Line):P70_2->Tr P70_2 R70_2
 |.e=>let c1:=([x.a,x.b,x.c,x.d]:List Int);let c2:=((1:Int)*2^(min (bs).toNat 64))-(1:Int);let c3:=outside 0 (bs-(1:Int)) ((c1.drop (((0:Int)).toNat)).take (((0:Int)).toNat-((0:Int)).toNat));let c5:=((c1.length):Int);let c4:=outside 0 0 ((c1.drop (((0:Int)).toNat)).take ((c5).toNat-((0:Int)).toNat));let c6:V:=.list 1 4 (litC 1 4 [iI x.a,iI x.b,iI x.c,iI x.d]);let c7:=((bitsR (IntKind.wrap .u64 x.set)).length:Int);(.front [(0,106,[],.arr 3 5 formsC)] [] (((decide (0<=(2:Int))&&decide ((2:Int)<(5:Int)))&&true)&&true) true (.wait 5 (.frz 2 ((decide (4<=4))&&((decide (4<=4))&&true)) (.vle 6 c6 (tint.lst c1) (.vle 20 c6 (tint.lst c1) (.need (inR .i64 (bs-(1:Int))) (.need ((decide (0<=(0:Int))&&decide ((0:Int)<=(0:Int)))&&decide ((0:Int)<=c5)) (.call 64 [iI 0,iI (bs-(1:Int)),.list 1 (((0:Int)).toNat-((0:Int)).toNat) (fun i j=>rowsOf tint c1 (((0:Int)).toNat+i) j)] (.bool c3) true true (.br c3 (.out (.r0 4)) (.front [] [] (((decide (0<=bs)&&inR .i64 ((1:Int)*2^(min (bs).toNat 64)))&&((inR .i64 c2)&&true))&&true) true (.lit true (.call 64 [iI 0,iI c2,.list 1 1 (litC 1 1 [iI x.set])] (.bool (!within x.set 0 c2)) true true (.br (!within x.set 0 c2) (.out (.r0 4)) (.lit true (.need true (.call 107 [.int .u64 (IntKind.wrap .u64 x.set)] (iI c7) true true (.br (decide (c7<(2:Int))) (.out (.r0 2)) (.need ((decide (0<=(0:Int))&&decide ((0:Int)<=c5))&&decide (c5<=c5)) (.call 64 [iI 0,iI 0,.list 1 ((c5).toNat-((0:Int)).toNat) (fun i j=>rowsOf tint c1 (((0:Int)).toNat+i) j)] (.bool c4) true true (.br c4 (.lit true (.lit true (.out (.r0 2)))) (.lit false (.lit false (.lit false (.go (.l0)))))))))))))))))))))))))
 |.l0=>(.lit false (.lit false (.out (.r0 0))))
noncomputable def g70_2(bs:Int)(x:Line):P70_2->List Item × St
 |.e=>bd Tryz.f70 [iI bs,.agg [iI x.day,iI 2,iI x.a,iI x.b,iI x.c,iI x.d,iI x.set]] 87
 |.l0=>(cutOf Tryz.f70 0,⟨mk 89 [(5,.ref 1 0 0),(6,tint.lst ([x.a,x.b,x.c,x.d]:List Int)),(7,iI 0)],[.gone,.cells [iI 0,.bool false,fF 126]],[]⟩)
def n70_2:R70_2->Exit × St
 |.r0 r0=>(.ret,⟨mk 89 [(4,iI r0)],[],[]⟩)
def v70_2:R70_2->V
 |.r0 r0=>iI r0
theorem s70_2(bs:Int)(x:Line):Sm 0 (g70_2 bs x) (T70_2 bs x) (n70_2)
 |.e=>⟨400,by kernel_rfl⟩
 |.l0=>⟨400,by kernel_rfl⟩
theorem q70_2:∀r,bodyQ Tryz.prog Tryz.f70 (·=v70_2 r) (n70_2 r).1 (n70_2 r).2
 |.r0 r0=>bq (iI r0) (by kernel_rfl)
theorem w70_2(bs:Int)(x:Line){post:V->Prop}(h:WQ (T70_2 bs x) v70_2 post .e):PC 70 [iI bs,.agg [iI x.day,iI 2,iI x.a,iI x.b,iI x.c,iI x.d,iI x.set]] post:=
 PCalls.wq Tryz.func70 (s70_2 bs x) q70_2 h
inductive P70_3
 |e
 |l0
inductive R70_3
 |r0 (r0:Int)
def T70_3(bs:Int)(x:Line):P70_3->Tr P70_3 R70_3
 |.e=>let c1:=([x.a,x.b,x.c,x.d]:List Int);let c2:=outside 0 (bs-(1:Int)) ((c1.drop (((0:Int)).toNat)).take (((2:Int)).toNat-((0:Int)).toNat));let c4:=((c1.length):Int);let c3:=outside 0 0 ((c1.drop (((2:Int)).toNat)).take ((c4).toNat-((2:Int)).toNat));let c5:V:=.list 1 4 (litC 1 4 [iI x.a,iI x.b,iI x.c,iI x.d]);(.front [(0,106,[],.arr 3 5 formsC)] [] (((decide (0<=(3:Int))&&decide ((3:Int)<(5:Int)))&&true)&&true) true (.wait 5 (.frz 2 ((decide (4<=4))&&((decide (4<=4))&&true)) (.vle 6 c5 (tint.lst c1) (.vle 20 c5 (tint.lst c1) (.need (inR .i64 (bs-(1:Int))) (.need ((decide (0<=(0:Int))&&decide ((0:Int)<=(2:Int)))&&decide ((2:Int)<=c4)) (.call 64 [iI 0,iI (bs-(1:Int)),.list 1 (((2:Int)).toNat-((0:Int)).toNat) (fun i j=>rowsOf tint c1 (((0:Int)).toNat+i) j)] (.bool c2) true true (.br c2 (.out (.r0 4)) (.front [] [] true true (.lit false (.lit false (.lit false (.lit false (.need ((decide (0<=(2:Int))&&decide ((2:Int)<=c4))&&decide (c4<=c4)) (.call 64 [iI 0,iI 0,.list 1 ((c4).toNat-((2:Int)).toNat) (fun i j=>rowsOf tint c1 (((2:Int)).toNat+i) j)] (.bool c3) true true (.br c3 (.lit true (.lit true (.out (.r0 2)))) (.lit true (.lit false (.br (x.set !=(0:Int)) (.out (.r0 2)) (.go (.l0))))))))))))))))))))))
 |.l0=>(.lit false (.lit false (.out (.r0 0))))
noncomputable def g70_3(bs:Int)(x:Line):P70_3->List Item × St
 |.e=>bd Tryz.f70 [iI bs,.agg [iI x.day,iI 3,iI x.a,iI x.b,iI x.c,iI x.d,iI x.set]] 87
 |.l0=>(cutOf Tryz.f70 0,⟨mk 89 [(5,.ref 1 0 0),(6,tint.lst ([x.a,x.b,x.c,x.d]:List Int)),(7,iI 0)],[.gone,.cells [iI 2,.bool false,fF 122]],[]⟩)
def n70_3:R70_3->Exit × St
 |.r0 r0=>(.ret,⟨mk 89 [(4,iI r0)],[],[]⟩)
def v70_3:R70_3->V
 |.r0 r0=>iI r0
theorem s70_3(bs:Int)(x:Line):Sm 0 (g70_3 bs x) (T70_3 bs x) (n70_3)
 |.e=>⟨400,by kernel_rfl⟩
 |.l0=>⟨400,by kernel_rfl⟩
theorem q70_3:∀r,bodyQ Tryz.prog Tryz.f70 (·=v70_3 r) (n70_3 r).1 (n70_3 r).2
 |.r0 r0=>bq (iI r0) (by kernel_rfl)
theorem w70_3(bs:Int)(x:Line){post:V->Prop}(h:WQ (T70_3 bs x) v70_3 post .e):PC 70 [iI bs,.agg [iI x.day,iI 3,iI x.a,iI x.b,iI x.c,iI x.d,iI x.set]] post:=
 PCalls.wq Tryz.func70 (s70_3 bs x) q70_3 h
inductive P70_4
 |e
 |l0
inductive R70_4
 |r0 (r0:Int)
def T70_4(bs:Int)(x:Line):P70_4->Tr P70_4 R70_4
 |.e=>let c1:=([x.a,x.b,x.c,x.d]:List Int);let c2:=outside 0 (bs-(1:Int)) ((c1.drop (((0:Int)).toNat)).take (((2:Int)).toNat-((0:Int)).toNat));let c4:=((c1.length):Int);let c3:=outside 0 0 ((c1.drop (((2:Int)).toNat)).take ((c4).toNat-((2:Int)).toNat));let c5:V:=.list 1 4 (litC 1 4 [iI x.a,iI x.b,iI x.c,iI x.d]);(.front [(0,106,[],.arr 3 5 formsC)] [] (((decide (0<=(4:Int))&&decide ((4:Int)<(5:Int)))&&true)&&true) true (.wait 5 (.frz 2 ((decide (4<=4))&&((decide (4<=4))&&true)) (.vle 6 c5 (tint.lst c1) (.vle 20 c5 (tint.lst c1) (.need (inR .i64 (bs-(1:Int))) (.need ((decide (0<=(0:Int))&&decide ((0:Int)<=(2:Int)))&&decide ((2:Int)<=c4)) (.call 64 [iI 0,iI (bs-(1:Int)),.list 1 (((2:Int)).toNat-((0:Int)).toNat) (fun i j=>rowsOf tint c1 (((0:Int)).toNat+i) j)] (.bool c2) true true (.br c2 (.out (.r0 4)) (.front [] [] true true (.lit false (.lit false (.lit false (.lit false (.need ((decide (0<=(2:Int))&&decide ((2:Int)<=c4))&&decide (c4<=c4)) (.call 64 [iI 0,iI 0,.list 1 ((c4).toNat-((2:Int)).toNat) (fun i j=>rowsOf tint c1 (((2:Int)).toNat+i) j)] (.bool c3) true true (.br c3 (.lit true (.lit true (.out (.r0 2)))) (.lit true (.lit false (.br (x.set !=(0:Int)) (.out (.r0 2)) (.go (.l0))))))))))))))))))))))
 |.l0=>(.lit false (.lit false (.out (.r0 0))))
noncomputable def g70_4(bs:Int)(x:Line):P70_4->List Item × St
 |.e=>bd Tryz.f70 [iI bs,.agg [iI x.day,iI 4,iI x.a,iI x.b,iI x.c,iI x.d,iI x.set]] 87
 |.l0=>(cutOf Tryz.f70 0,⟨mk 89 [(5,.ref 1 0 0),(6,tint.lst ([x.a,x.b,x.c,x.d]:List Int)),(7,iI 0)],[.gone,.cells [iI 2,.bool false,fF 122]],[]⟩)
def n70_4:R70_4->Exit × St
 |.r0 r0=>(.ret,⟨mk 89 [(4,iI r0)],[],[]⟩)
def v70_4:R70_4->V
 |.r0 r0=>iI r0
theorem s70_4(bs:Int)(x:Line):Sm 0 (g70_4 bs x) (T70_4 bs x) (n70_4)
 |.e=>⟨400,by kernel_rfl⟩
 |.l0=>⟨400,by kernel_rfl⟩
theorem q70_4:∀r,bodyQ Tryz.prog Tryz.f70 (·=v70_4 r) (n70_4 r).1 (n70_4 r).2
 |.r0 r0=>bq (iI r0) (by kernel_rfl)
theorem w70_4(bs:Int)(x:Line){post:V->Prop}(h:WQ (T70_4 bs x) v70_4 post .e):PC 70 [iI bs,.agg [iI x.day,iI 4,iI x.a,iI x.b,iI x.c,iI x.d,iI x.set]] post:=
 PCalls.wq Tryz.func70 (s70_4 bs x) q70_4 h
theorem lit4(a b c d:Int):VLe (.list 1 4 (litC 1 4 [iI a,iI b,iI c,iI d])) (tint.lst [a,b,c,d]):=VLe.lit tint [a,b,c,d] rfl rfl (fun _=>rfl)
theorem within00(n:Int):within n 0 0=decide (n=0):=by rw[Bool.eq_iff_iff,within0,decide_eq_true_eq]
theorem out2(lo hi a b c d:Int):outside lo hi (([a,b,c,d].drop 0).take (2-0))=(!within a lo hi|| !within b lo hi):=by simp[outside]
theorem out22(a b c d:Int):outside 0 0 (([a,b,c,d].drop 2).take (4-2))=(!decide (c=0)|| !decide (d=0)):=by simp[outside,within00]
theorem out4(lo hi a b c d:Int):outside lo hi (([a,b,c,d].drop 0).take (4-0))=(!within a lo hi||(!within b lo hi||(!within c lo hi|| !within d lo hi))):=by simp[outside]
theorem out44(lo hi a b c d:Int):outside lo hi (([a,b,c,d].drop 4).take (4-4))=false:=by simp[outside]
theorem out0(lo hi a b c d:Int):outside lo hi (([a,b,c,d].drop 0).take (0-0))=false:=by simp[outside]
theorem cells_kind(x:Line){k:Int}(hk:x.kind=k):tLine.cells x=[iI x.day,iI k,iI x.a,iI x.b,iI x.c,iI x.d,iI x.set]:=by unfold tLine;simp only[hk]
theorem ge0(a b c d:Int):[a,b,c,d].getD (Int.toNat 0) tint.zero=a:=rfl
theorem ge1(a b c d:Int):[a,b,c,d].getD ((0:Int)+1).toNat tint.zero=b:=rfl
theorem ge2(a b c d:Int):[a,b,c,d].getD ((0:Int)+2).toNat tint.zero=c:=rfl
theorem ge3(a b c d:Int):[a,b,c,d].getD ((0:Int)+2+1).toNat tint.zero=d:=rfl
theorem r00:inR .i64 ((0:Int)+1)=true:=by decide
theorem r02:inR .i64 ((0:Int)+2+1)=true:=by decide
theorem c70_0(b:Book)(x:Line)(hk:x.kind=0)(h:b.bodies.length<=5):PC 70 [iI (b.bodies.length:Int),.agg (tLine.cells x)] (·=iI (fieldsErr b x)):=by
 rw[cells_kind x hk];have hr:inR .i64 ((b.bodies.length:Int)-1)=true:=inR64 (by omega) (by omega);have k1:=c64s 0 ((b.bodies.length:Int)-1) [x.a,x.b,x.c,x.d] 0 2 (show 2<=4 by decide);have k2:=c64s 0 0 [x.a,x.b,x.c,x.d] 2 4 (Nat.le_refl _);have e1:=out2 0 ((b.bodies.length:Int)-1) x.a x.b x.c x.d;have e2:=out22 x.a x.b x.c x.d
 have e:fieldsErr b x=if(!within x.a 0 ((b.bodies.length:Int)-1)|| !within x.b 0 ((b.bodies.length:Int)-1))=true then 4 else if(!decide (x.c=0)|| !decide (x.d=0))=true then 2 else if x.set≠0 then 2 else if x.a=x.b then 2 else 0:=by
  unfold fieldsErr;rw[if_neg (by omega)];simp only[hk,show((0:Int)==1)=false from rfl,Bool.false_and,Bool.or_false,indexR];by_cases g:(!within x.a 0 ((b.bodies.length:Int)-1)|| !within x.b 0 ((b.bodies.length:Int)-1))=true
  ·rw[if_pos g,if_pos g]
  rw[if_neg g,if_neg g];by_cases q1:x.c=0<;>by_cases q2:x.d=0<;>by_cases q3:x.set=0<;>by_cases q4:x.a=x.b<;>simp_all
 rw[e1]at k1;rw[e2]at k2;rw[e];generalize(!within x.a 0 ((b.bodies.length:Int)-1)|| !within x.b 0 ((b.bodies.length:Int)-1))=A at*
 generalize(!decide (x.c=0)|| !decide (x.d=0))=B at*
 have hl0:WP Tryz.prog ⟨none,0⟩ (T70_0 (b.bodies.length:Int) x) (Ends' fun r=>v70_0 r=iI (if x.a=x.b then 2 else 0)) (.l0 0):=by
  have hl2:¬x.a=x.b->WP Tryz.prog ⟨none,0⟩ (T70_0 (b.bodies.length:Int) x) (Ends' fun r=>v70_0 r=iI 0) (.l0 (0+2)):=fun _=>by
   refine WP.step ?_;simp only[T70_0,Go,Ends',v70_0,Tr.sure,SS];repeat' with_reducible first|intro _|apply aI
   all_goals first|(simp[Go,Ends',v70_0,-List.getD_eq_getElem?_getD, *];done)|(simp_all [Go,Ends',v70_0,-List.getD_eq_getElem?_getD];done)
  by_cases q:x.a=x.b
  ·rw[if_pos q];refine WP.step ?_;simp only[T70_0,Go,Ends',v70_0,Tr.sure,SS,ge0,ge1,q,r00];repeat' with_reducible first|intro _|apply aI
   all_goals first|(simp[Go,Ends',v70_0,-List.getD_eq_getElem?_getD, *];done)|(simp_all [Go,Ends',v70_0,-List.getD_eq_getElem?_getD];done)
  ·rw[if_neg q];refine WP.step ?_;simp only[T70_0,Go,Ends',v70_0,Tr.sure,SS,ge0,ge1,q,r00];repeat' with_reducible first|intro _|apply aI
   all_goals first|exact r00|exact(hl2 q)|(simp[Go,Ends',v70_0,-List.getD_eq_getElem?_getD, *];done)
 refine w70_0 _ _ (WP.step ?_);simp only[T70_0,Go,Ends',v70_0,Tr.sure,SS,e1,e2];repeat' with_reducible first|intro _|apply aI
 all_goals first|exact c106|exact(by with_reducible exact lit4 _ _ _ _)|(simp[hr,Go,Ends',v70_0,-List.getD_eq_getElem?_getD, *];done)|(simp_all [hr,Go,Ends',v70_0,-List.getD_eq_getElem?_getD];done)
theorem c70_1(b:Book)(x:Line)(hk:x.kind=1)(h:b.bodies.length<=5):PC 70 [iI (b.bodies.length:Int),.agg (tLine.cells x)] (·=iI (fieldsErr b x)):=by
 rw[cells_kind x hk];have hr:inR .i64 ((b.bodies.length:Int)-1)=true:=inR64 (by omega) (by omega);have k1:=c64s 0 ((b.bodies.length:Int)-1) [x.a,x.b,x.c,x.d] 0 4 (Nat.le_refl _);have k2:=c64s 0 0 [x.a,x.b,x.c,x.d] 4 4 (Nat.le_refl _);have e1:=out4 0 ((b.bodies.length:Int)-1) x.a x.b x.c x.d;have e2:=out44 0 0 x.a x.b x.c x.d
 have e:fieldsErr b x=if(!within x.a 0 ((b.bodies.length:Int)-1)||(!within x.b 0 ((b.bodies.length:Int)-1)||(!within x.c 0 ((b.bodies.length:Int)-1)|| !within x.d 0 ((b.bodies.length:Int)-1))))=true then 4 else if x.set≠0 then 2 else if x.a=x.b then 2 else if x.c=x.d then 2 else 0:=by
  unfold fieldsErr;rw[if_neg (by omega)];simp only[hk,show((1:Int)==1)=true from rfl,Bool.true_and,indexR];cases within x.a 0 ((b.bodies.length:Int)-1)<;>cases within x.b 0 ((b.bodies.length:Int)-1)<;>cases within x.c 0 ((b.bodies.length:Int)-1)<;>cases within x.d 0 ((b.bodies.length:Int)-1)<;>first|rfl|skip
  by_cases q1:x.set=0<;>by_cases q2:x.a=x.b<;>by_cases q3:x.c=x.d<;>simp_all
 rw[e1]at k1;rw[e2]at k2;rw[e];generalize(!within x.a 0 ((b.bodies.length:Int)-1)||(!within x.b 0 ((b.bodies.length:Int)-1)||(!within x.c 0 ((b.bodies.length:Int)-1)|| !within x.d 0 ((b.bodies.length:Int)-1))))=A at*
 have hl0:WP Tryz.prog ⟨none,0⟩ (T70_1 (b.bodies.length:Int) x) (Ends' fun r=>v70_1 r=iI (if x.a=x.b then 2 else if x.c=x.d then 2 else 0)) (.l0 0):=by
  have hl4:WP Tryz.prog ⟨none,0⟩ (T70_1 (b.bodies.length:Int) x) (Ends' fun r=>v70_1 r=iI 0) (.l0 (0+2+2)):=by
   refine WP.step ?_;simp only[T70_1,Go,Ends',v70_1,Tr.sure,SS];repeat' with_reducible first|intro _|apply aI
   all_goals first|(simp[Go,Ends',v70_1,-List.getD_eq_getElem?_getD, *];done)|(simp_all [Go,Ends',v70_1,-List.getD_eq_getElem?_getD];done)
  have hl2:WP Tryz.prog ⟨none,0⟩ (T70_1 (b.bodies.length:Int) x) (Ends' fun r=>v70_1 r=iI (if x.c=x.d then 2 else 0)) (.l0 (0+2)):=by
   by_cases q:x.c=x.d
   ·rw[if_pos q];refine WP.step ?_;simp only[T70_1,Go,Ends',v70_1,Tr.sure,SS,ge2,ge3,q,r02];repeat' with_reducible first|intro _|apply aI
    all_goals first|(simp[Go,Ends',v70_1,-List.getD_eq_getElem?_getD, *];done)|(simp_all [Go,Ends',v70_1,-List.getD_eq_getElem?_getD];done)
   ·rw[if_neg q];refine WP.step ?_;simp only[T70_1,Go,Ends',v70_1,Tr.sure,SS,ge2,ge3,q,r02];repeat' with_reducible first|intro _|apply aI
    all_goals first|exact r02|exact hl4|(simp[Go,Ends',v70_1,-List.getD_eq_getElem?_getD, *];done)
  by_cases q:x.a=x.b
  ·rw[if_pos q];refine WP.step ?_;simp only[T70_1,Go,Ends',v70_1,Tr.sure,SS,ge0,ge1,q,r00];repeat' with_reducible first|intro _|apply aI
   all_goals first|(simp[Go,Ends',v70_1,-List.getD_eq_getElem?_getD, *];done)|(simp_all [Go,Ends',v70_1,-List.getD_eq_getElem?_getD];done)
  ·rw[if_neg q];refine WP.step ?_;simp only[T70_1,Go,Ends',v70_1,Tr.sure,SS,ge0,ge1,q,r00];repeat' with_reducible first|intro _|apply aI
   all_goals first|exact r00|exact hl2|(simp[Go,Ends',v70_1,-List.getD_eq_getElem?_getD, *];done)|(simp_all [Go,Ends',v70_1,-List.getD_eq_getElem?_getD];done)
 refine w70_1 _ _ (WP.step ?_);simp only[T70_1,Go,Ends',v70_1,Tr.sure,SS,e1,e2];repeat' with_reducible first|intro _|apply aI
 all_goals first|exact c106|exact k2|exact(by with_reducible exact lit4 _ _ _ _)|(simp[hr,Go,Ends',v70_1,-List.getD_eq_getElem?_getD, *];done)|(simp_all [hr,Go,Ends',v70_1,-List.getD_eq_getElem?_getD];done)
theorem wrap64{s:Int}(h:0<=s/\s<=31):IntKind.wrap .u64 s=s:=by
 obtain⟨k,rfl⟩:∃k:Fin 32,s=((k:Nat):Int):=⟨⟨s.toNat,by omega⟩,by simp only;omega⟩
 exact(by decide:∀k:Fin 32,IntKind.wrap .u64 ((k:Nat):Int)=((k:Nat):Int)) k
theorem out40(a b c d:Int):outside 0 0 (([a,b,c,d].drop 0).take (4-0))=(!decide (a=0)||(!decide (b=0)||(!decide (c=0)|| !decide (d=0)))):=by rw[out4];simp only[within00]
theorem c70_2(b:Book)(x:Line)(hk:x.kind=2)(h:b.bodies.length<=5):PC 70 [iI (b.bodies.length:Int),.agg (tLine.cells x)] (·=iI (fieldsErr b x)):=by
 rw[cells_kind x hk];have hr:inR .i64 ((b.bodies.length:Int)-1)=true:=inR64 (by omega) (by omega);have k1:=c64s 0 ((b.bodies.length:Int)-1) [x.a,x.b,x.c,x.d] 0 0 (show 0<=4 by decide);have k2:=c64s 0 0 [x.a,x.b,x.c,x.d] 0 4 (Nat.le_refl _);have e1:=out0 0 ((b.bodies.length:Int)-1) x.a x.b x.c x.d;have e2:=out40 x.a x.b x.c x.d;have hp:=pow2s h;have hm:min ((b.bodies.length:Int).toNat) 64=b.bodies.length:=by omega
 have hsh:(1:Int)*2^(min ((b.bodies.length:Int).toNat) 64)=2^b.bodies.length:=by rw[hm,Int.one_mul]
 have hsh2:(1:Int)*2^(min b.bodies.length 64)=2^b.bodies.length:=by rw[Nat.min_eq_left (by omega),Int.one_mul]
 have hr2:inR .i64 ((2:Int)^b.bodies.length)=true:=inR64 (by omega) (by omega);have hr3:inR .i64 ((2:Int)^b.bodies.length-1)=true:=inR64 (by omega) (by omega);have k3:=c64l 0 ((2:Int)^b.bodies.length-1) x.set (c:=litC 1 1 [iI x.set]) rfl
 have e:fieldsErr b x=if !within x.set 0 ((2:Int)^b.bodies.length-1)then 4 else if((bitsR x.set).length:Int)<2 then 2 else if(!decide (x.a=0)||(!decide (x.b=0)||(!decide (x.c=0)|| !decide (x.d=0))))=true then 2 else 0:=by
  unfold fieldsErr;rw[if_pos hk];generalize(!within x.set 0 ((2:Int)^b.bodies.length-1))=A
  cases A with
  |true=>rfl
  |false=>
   by_cases q0:((bitsR x.set).length:Int)<2<;>by_cases q1:x.a=0<;>by_cases q2:x.b=0<;>by_cases q3:x.c=0<;>by_cases q4:x.d=0<;>simp_all
 rw[e1]at k1;rw[e2]at k2;rw[e];generalize(!decide (x.a=0)||(!decide (x.b=0)||(!decide (x.c=0)|| !decide (x.d=0))))=B at*
 have hl0:WP Tryz.prog ⟨none,0⟩ (T70_2 (b.bodies.length:Int) x) (Ends' fun r=>v70_2 r=iI 0) .l0:=by
  refine WP.step ?_;simp only[T70_2,Go,Ends',v70_2,Tr.sure,SS];repeat' with_reducible first|intro _|apply aI
 by_cases hw:within x.set 0 ((2:Int)^b.bodies.length-1)=true
 ·have hin:=within_iff.1 hw;have k107:=c107 x.set ⟨hin.1,by omega⟩;have hwr:=wrap64 (s:=x.set) ⟨hin.1,by omega⟩;by_cases hb:((bitsR x.set).length:Int)<2
  ·refine w70_2 _ _ (WP.step ?_);simp only[T70_2,Go,Ends',v70_2,Tr.sure,SS,e1,e2,hsh,hsh2,hw,hwr,hb];repeat' with_reducible first|intro _|apply aI
   all_goals first|exact c106|exact k1|exact k107|exact(by with_reducible exact lit4 _ _ _ _)|(simp[hr,hr2,hr3,hw,hb,Go,Ends',v70_2,-List.getD_eq_getElem?_getD, *];done)|(simp_all [hr,hr2,hr3,hw,hb,Go,Ends',v70_2,-List.getD_eq_getElem?_getD];done)
  ·refine w70_2 _ _ (WP.step ?_);simp only[T70_2,Go,Ends',v70_2,Tr.sure,SS,e1,e2,hsh,hsh2,hw,hwr,hb];repeat' with_reducible first|intro _|apply aI
   all_goals first|exact c106|exact k1|exact k107|exact(by with_reducible exact lit4 _ _ _ _)|(simp[hr,hr2,hr3,hw,hb,Go,Ends',v70_2,-List.getD_eq_getElem?_getD, *];done)|(simp_all [hr,hr2,hr3,hw,hb,Go,Ends',v70_2,-List.getD_eq_getElem?_getD];done)
 ·have hw':within x.set 0 ((2:Int)^b.bodies.length-1)=false:=by simpa using hw
  refine w70_2 _ _ (WP.step ?_);simp only[T70_2,Go,Ends',v70_2,Tr.sure,SS,e1,e2,hsh,hsh2,hw'];repeat' with_reducible first|intro _|apply aI
  all_goals first|exact c106|exact k1|exact(by with_reducible exact lit4 _ _ _ _)|(simp[hr,hr2,hr3,hw',Go,Ends',v70_2,-List.getD_eq_getElem?_getD, *];done)|(simp_all [hr,hr2,hr3,hw',Go,Ends',v70_2,-List.getD_eq_getElem?_getD];done)
theorem c70_3(b:Book)(x:Line)(hk:x.kind=3)(h:b.bodies.length<=5):PC 70 [iI (b.bodies.length:Int),.agg (tLine.cells x)] (·=iI (fieldsErr b x)):=by
 rw[cells_kind x hk];have hr:inR .i64 ((b.bodies.length:Int)-1)=true:=inR64 (by omega) (by omega);have k1:=c64s 0 ((b.bodies.length:Int)-1) [x.a,x.b,x.c,x.d] 0 2 (show 2<=4 by decide);have k2:=c64s 0 0 [x.a,x.b,x.c,x.d] 2 4 (Nat.le_refl _);have e1:=out2 0 ((b.bodies.length:Int)-1) x.a x.b x.c x.d;have e2:=out22 x.a x.b x.c x.d
 have e:fieldsErr b x=if(!within x.a 0 ((b.bodies.length:Int)-1)|| !within x.b 0 ((b.bodies.length:Int)-1))=true then 4 else if(!decide (x.c=0)|| !decide (x.d=0))=true then 2 else if x.set≠0 then 2 else 0:=by
  unfold fieldsErr;rw[if_neg (by omega)];simp only[hk,show((3:Int)==1)=false from rfl,Bool.false_and,Bool.or_false,indexR];by_cases g:(!within x.a 0 ((b.bodies.length:Int)-1)|| !within x.b 0 ((b.bodies.length:Int)-1))=true
  ·rw[if_pos g,if_pos g]
  rw[if_neg g,if_neg g];by_cases q1:x.c=0<;>by_cases q2:x.d=0<;>by_cases q3:x.set=0<;>simp_all
 rw[e1]at k1;rw[e2]at k2;rw[e];generalize(!within x.a 0 ((b.bodies.length:Int)-1)|| !within x.b 0 ((b.bodies.length:Int)-1))=A at*
 generalize(!decide (x.c=0)|| !decide (x.d=0))=B at*
 have hl0:WP Tryz.prog ⟨none,0⟩ (T70_3 (b.bodies.length:Int) x) (Ends' fun r=>v70_3 r=iI 0) .l0:=by
  refine WP.step ?_;simp only[T70_3,Go,Ends',v70_3,Tr.sure,SS];repeat' with_reducible first|intro _|apply aI
 refine w70_3 _ _ (WP.step ?_);simp only[T70_3,Go,Ends',v70_3,Tr.sure,SS,e1,e2];repeat' with_reducible first|intro _|apply aI
 all_goals first|exact c106|exact(by with_reducible exact lit4 _ _ _ _)|(simp[hr,Go,Ends',v70_3,-List.getD_eq_getElem?_getD, *];done)|(simp_all [hr,Go,Ends',v70_3,-List.getD_eq_getElem?_getD];done)
theorem c70_4(b:Book)(x:Line)(hk:x.kind=4)(h:b.bodies.length<=5):PC 70 [iI (b.bodies.length:Int),.agg (tLine.cells x)] (·=iI (fieldsErr b x)):=by
 rw[cells_kind x hk];have hr:inR .i64 ((b.bodies.length:Int)-1)=true:=inR64 (by omega) (by omega);have k1:=c64s 0 ((b.bodies.length:Int)-1) [x.a,x.b,x.c,x.d] 0 2 (show 2<=4 by decide);have k2:=c64s 0 0 [x.a,x.b,x.c,x.d] 2 4 (Nat.le_refl _);have e1:=out2 0 ((b.bodies.length:Int)-1) x.a x.b x.c x.d;have e2:=out22 x.a x.b x.c x.d
 have e:fieldsErr b x=if(!within x.a 0 ((b.bodies.length:Int)-1)|| !within x.b 0 ((b.bodies.length:Int)-1))=true then 4 else if(!decide (x.c=0)|| !decide (x.d=0))=true then 2 else if x.set≠0 then 2 else 0:=by
  unfold fieldsErr;rw[if_neg (by omega)];simp only[hk,show((4:Int)==1)=false from rfl,Bool.false_and,Bool.or_false,indexR];by_cases g:(!within x.a 0 ((b.bodies.length:Int)-1)|| !within x.b 0 ((b.bodies.length:Int)-1))=true
  ·rw[if_pos g,if_pos g]
  rw[if_neg g,if_neg g];by_cases q1:x.c=0<;>by_cases q2:x.d=0<;>by_cases q3:x.set=0<;>simp_all
 rw[e1]at k1;rw[e2]at k2;rw[e];generalize(!within x.a 0 ((b.bodies.length:Int)-1)|| !within x.b 0 ((b.bodies.length:Int)-1))=A at*
 generalize(!decide (x.c=0)|| !decide (x.d=0))=B at*
 have hl0:WP Tryz.prog ⟨none,0⟩ (T70_4 (b.bodies.length:Int) x) (Ends' fun r=>v70_4 r=iI 0) .l0:=by
  refine WP.step ?_;simp only[T70_4,Go,Ends',v70_4,Tr.sure,SS];repeat' with_reducible first|intro _|apply aI
 refine w70_4 _ _ (WP.step ?_);simp only[T70_4,Go,Ends',v70_4,Tr.sure,SS,e1,e2];repeat' with_reducible first|intro _|apply aI
 all_goals first|exact c106|exact(by with_reducible exact lit4 _ _ _ _)|(simp[hr,Go,Ends',v70_4,-List.getD_eq_getElem?_getD, *];done)|(simp_all [hr,Go,Ends',v70_4,-List.getD_eq_getElem?_getD];done)
theorem c70(b:Book)(x:Line)(hk:0<=x.kind/\x.kind<=4)(h:b.bodies.length<=5):PC 70 [iI (b.bodies.length:Int),.agg (tLine.cells x)] (·=iI (fieldsErr b x)):=by
 rcases show x.kind=0\/x.kind=1\/x.kind=2\/x.kind=3\/x.kind=4 by omega with q|q|q|q|q
 ·exact c70_0 b x q h
 ·exact c70_1 b x q h
 ·exact c70_2 b x q h
 ·exact c70_3 b x q h
 ·exact c70_4 b x q h
end
noncomputable section
def errQ(b:Book)(i:Nat)(x:Line)(m:Int):Int × Int:=
 if !within x.day 0 364 then(7,m)else if 0<i/\x.day<(b.lines.getD (i-1) zLine).day then(2,m)else if !within x.kind 0 4 then(7,m)
 else if fieldsErr b x≠0 then(fieldsErr b x,m)else if x.kind=2 then(if 2<m+1 then 3 else 0,m+1)else(0,m)
def errQx(b:Book)(i:Int)(x:Line)(m:Int):Int × Int:=errQ b i.toNat x m
inductive P69
 |e
inductive R69
 |r0 (r0:Int) (r1:Int)
def T69(mm:Int)(i:Int)(x:Line)(b:Book):P69->Tr P69 R69
 |.e=>let c1:Tr P69 R69:=.call 64 [iI 0,iI 4,.list 1 1 (litC 1 1 [iI x.kind])] (.bool (!within x.kind 0 4)) ((decide (1<=1))&&true) true (.br (!within x.kind 0 4) (.out (.r0 mm 7)) (.call 70 [iI (b.bodies.length:Int),.agg [iI x.day,iI x.kind,iI x.a,iI x.b,iI x.c,iI x.d,iI x.set]] (iI (fieldsErr b x)) true true (.br ((fieldsErr b x) !=(0:Int)) (.lit true (.out (.r0 mm (fieldsErr b x)))) (.br (x.kind !=(2:Int)) (.out (.r0 mm (fieldsErr b x))) (.need (inR .i64 (mm+(1:Int))) (.br (decide ((mm+(1:Int))>(2:Int))) (.out (.r0 (mm+(1:Int)) 3)) (.out (.r0 (mm+(1:Int)) 0))))))));let c2:=decide (i>(0:Int));let c3:=i-(1:Int);(.call 64 [iI 0,iI 364,.list 1 1 (litC 1 1 [iI x.day])] (.bool (!within x.day 0 364)) ((decide (1<=1))&&true) true (.br (!within x.day 0 364) (.out (.r0 mm 7)) (.br c2 (.front [] [(2,true)] (((c2==true)&&((inR .i64 c3)&&((decide (0<=c3)&&decide (c3<(b.lines.length:Int)))&&true)))&&true) true (.br (decide (x.day<(b.lines.getD (c3).toNat tLine.zero).day)) (.out (.r0 mm 2)) c1)) (.front [] [(2,false)] (((c2==false)&&true)&&true) true (.lit false c1)))))
noncomputable def g69(mm:Int)(i:Int)(x:Line)(b:Book):P69->List Item × St
 |.e=>([.code (Tryz.f69.body.getD .skip)],⟨[iI i,.agg [iI x.day,iI x.kind,iI x.a,iI x.b,iI x.c,iI x.d,iI x.set],.cref 3 fun q=>((cC b):List V).getD q uU,.ref 0 0 0]++List.replicate 46 uU,[.cells [iI mm]],[]⟩)
def n69(mm:Int):R69->Exit × St
 |.r0 r0 r1=>(.ret,⟨mk 50 [(6,iI r1)],[.cells [iI r0]],[]⟩)
theorem s69(mm:Int)(i:Int)(x:Line)(b:Book):Sm 1 (g69 mm i x b) (T69 mm i x b) (n69 mm)
 |.e=>⟨400,by kernel_rfl⟩
def hh69(mm:Int):R69->List Blk
 |.r0 r0 r1=>[.cells [iI r0]]
def v69(mm:Int):R69->V
 |.r0 r0 r1=>iI r1
theorem q69(mm:Int):∀r,((n69 mm r).1=.normal\/(n69 mm r).1=.ret)/\(n69 mm r).2.d=[]/\(n69 mm r).2.h=hh69 mm r/\resultV Tryz.prog Tryz.f69 (n69 mm r).2=some (v69 mm r)
 |.r0 r0 r1=>⟨.inr rfl,rfl,rfl,by kernel_rfl⟩
theorem w69(mm:Int)(i:Int)(x:Line)(b:Book){V0:V}{h':List Blk}(h:WP Tryz.prog ⟨none,1⟩ (T69 mm i x b) (Ends' fun r=>v69 mm r=V0/\hh69 mm r=h') .e):HCalls Tryz.prog 69 [iI i,.agg [iI x.day,iI x.kind,iI x.a,iI x.b,iI x.c,iI x.d,iI x.set],.cref 3 fun q=>((cC b):List V).getD q uU,.ref 0 0 0] V0 [.cells [iI mm]] h':=
 HCalls.wp mx Tryz.func69 (by kernel_rfl) (by kernel_rfl) (T69 mm i x b) (g69 mm i x b) (n69 mm) .e rfl (s69 mm i x b) h fun r hr=>by rw[<-hr.1,<-hr.2];exact q69 mm r
set_option maxHeartbeats 4000000 in
theorem c69(b:Book)(i:Nat)(x:Line)(m:Int)(h:b.bodies.length<=5)(hi:i<b.lines.length)(hl:b.lines.length<=8)(hm:0<=m/\m<=8):
  HCalls Tryz.prog 69 [iI (i:Int),.agg (tLine.cells x),cB b,.ref 0 0 0] (iI (errQ b i x m).1) [.cells [iI m]] [.cells [iI (errQ b i x m).2]]:=by
 have k64:=c64l 0 364 x.day (c:=litC 1 1 [iI x.day]) rfl;have k64b:=c64l 0 4 x.kind (c:=litC 1 1 [iI x.kind]) rfl;have k70:=fun hk=>c70 b x hk h;have hr:inR .i64 (m+1)=true:=inR64 (by omega) (by omega);have hr2:(0:Int)<i->inR .i64 ((i:Int)-1)=true:=fun _=>inR64 (by omega) (by omega);have h02:(0:Int)<i->(0:Int)<=(i:Int)-1:=fun _=>by omega
 have h03:(i:Int)-1<b.lines.length:=by omega
 have hn:((i:Int)-1).toNat=i-1:=by omega
 by_cases g0:(0:Int)<i
 ·have q1:=hr2 g0;have q2:=h02 g0
  have e:errQ b i x m=if !within x.day 0 364 then(7,m)else if x.day<(b.lines.getD (i-1) zLine).day then(2,m)else if !within x.kind 0 4 then(7,m)
    else if fieldsErr b x≠0 then(fieldsErr b x,m)else if x.kind=2 then(if 2<m+1 then 3 else 0,m+1)else(0,m):=by
   unfold errQ;simp only[show 0<i by omega,true_and]
  generalize hp:(b.lines.getD (i-1) zLine).day=pd at*
  generalize errQ b i x m=Z at*
  by_cases gk:within x.kind 0 4=true
  ·have k70':=k70 (within_iff.1 gk);refine w69 _ _ _ _ (WP.step ?_);simp only[T69,Go,Ends',v69,Tr.sure,SS,g0,hn,z5,gk,hp];repeat' with_reducible first|intro _|apply aI
   all_goals first|exact k64|exact k70'|(simp[hh69,hr,q1,q2,h03,e,gk,Go,Ends',v69,-List.getD_eq_getElem?_getD, *];done)|(simp_all [hh69,hr,q1,q2,h03,e,gk,Go,Ends',v69,-List.getD_eq_getElem?_getD];done)
  ·refine w69 _ _ _ _ (WP.step ?_);simp only[T69,Go,Ends',v69,Tr.sure,SS,g0,hn,z5,gk,hp];repeat' with_reducible first|intro _|apply aI
   all_goals first|exact k64|(simp[hh69,q1,q2,h03,e,gk,Go,Ends',v69,-List.getD_eq_getElem?_getD, *];done)|(simp_all [hh69,q1,q2,h03,e,gk,Go,Ends',v69,-List.getD_eq_getElem?_getD];done)
 ·have e:errQ b i x m=if !within x.day 0 364 then(7,m)else if !within x.kind 0 4 then(7,m)
    else if fieldsErr b x≠0 then(fieldsErr b x,m)else if x.kind=2 then(if 2<m+1 then 3 else 0,m+1)else(0,m):=by
   unfold errQ;simp only[show¬0<i by omega,false_and,if_false]
  generalize errQ b i x m=Z at*
  by_cases gk:within x.kind 0 4=true
  ·have k70':=k70 (within_iff.1 gk);refine w69 _ _ _ _ (WP.step ?_);simp only[T69,Go,Ends',v69,Tr.sure,SS,g0,z5,gk];repeat' with_reducible first|intro _|apply aI
   all_goals first|exact k64|exact k70'|(simp[hh69,hr,e,gk,Go,Ends',v69,-List.getD_eq_getElem?_getD, *];done)|(simp_all [hh69,hr,e,gk,Go,Ends',v69,-List.getD_eq_getElem?_getD];done)
  ·refine w69 _ _ _ _ (WP.step ?_);simp only[T69,Go,Ends',v69,Tr.sure,SS,g0,z5,gk];repeat' with_reducible first|intro _|apply aI
   all_goals first|exact k64|(simp[hh69,e,gk,Go,Ends',v69,-List.getD_eq_getElem?_getD, *];done)|(simp_all [hh69,e,gk,Go,Ends',v69,-List.getD_eq_getElem?_getD];done)
def manyEnd(b:Book):Int:=match firstE (lineErr b) 0 b.lines with|some (i,_)=>(errQ b i (b.lines.getD i zLine) (someTo b.lines i)).2|none=>someTo b.lines b.lines.length
theorem errQ_line(b:Book)(i:Nat):(errQ b i (b.lines.getD i zLine) (someTo b.lines i)).1=lineErr b i (b.lines.getD i zLine)/\(lineErr b i (b.lines.getD i zLine)=0->(errQ b i (b.lines.getD i zLine) (someTo b.lines i)).2=someTo b.lines (i+1)):=by
 have e1:someTo b.lines (i+1)=if(b.lines.getD i zLine).kind=2 then someTo b.lines i+1 else someTo b.lines i:=rfl
 unfold errQ lineErr;rw[e1];split
 ·exact⟨rfl,fun h=>by cases h⟩
 split
 ·exact⟨rfl,fun h=>by cases h⟩
 split
 ·exact⟨rfl,fun h=>by cases h⟩
 split
 ·rename_i h;exact⟨rfl,fun h'=>absurd h' h⟩
 split
 ·rename_i hk;simp only[hk,if_true,true_and];exact fun _=>trivial
 ·rename_i hk;simp only[hk,if_false,false_and];exact⟨trivial,fun _=>trivial⟩
theorem c69at(b:Book)(i:Nat)(x:Line)(m:Int)(rest:List Blk)(h:b.bodies.length<=5)(hi:i<b.lines.length)(hl:b.lines.length<=8)(hm:0<=m/\m<=8):
  HCalls Tryz.prog 69 [iI (i:Int),.agg (tLine.cells x),cB b,.ref 1 0 0] (iI (errQ b i x m).1) (.gone::.cells [iI m]::rest) (.gone::.cells [iI (errQ b i x m).2]::rest):=
 (c69 b i x m h hi hl hm).at (fun j=>match j with
  |0=>.inr rfl
  |1=>.inr rfl
  |2=>.inr rfl
  |3=>.inl ⟨0,0,rfl⟩
  |j+4=>.inr rfl) rfl rfl rfl (h:=.gone::.cells [iI m]::rest) (i:=1) rfl
inductive P68
 |e
 |l0 (x0_11:Int) (c0_1_0:Int)
inductive R68
 |r0 (r0:Int) (r1:Int) (r2:Int)
def T68(b:Book):P68->Tr P68 R68
 |.e=>(.go (.l0 0 0))
 |.l0 x0_11 c0_1_0=>let c1:=b.lines.getD (x0_11).toNat tLine.zero;let c2:List V:=[iI (c1.day),iI (c1.kind),iI (c1.a),iI (c1.b),iI (c1.c),iI (c1.d),iI (c1.set)];let c3:=errQx b x0_11 c1 c0_1_0;let c4:=x0_11<(b.lines.length:Int);(.br (decide c4) (.need (decide (0<=x0_11)&&decide c4) (.hcall 69 [iI x0_11,.agg c2,.cref 3 fun q=>((cC b):List V).getD q uU,.ref 1 0 0] (iI (c3.1)) [.gone,.cells [iI c0_1_0],.cells c2] [.gone,.cells [iI (c3.2)],.cells c2] true (.br (c3.1 !=(0:Int)) (.out (.r0 (c3.2) x0_11 (c3.1))) (.need (inR .i64 (x0_11+(1:Int))) (.go (.l0 (x0_11+(1:Int)) (c3.2))))))) (.out (.r0 c0_1_0 0 0)))
noncomputable def g68(b:Book):P68->List Item × St
 |.e=>([.code (Tryz.f68.body.getD .skip)],⟨[tLine.lst b.lines,fG 69 [.cref 3 fun q=>((cC b):List V).getD q uU,.ref 1 0 0]]++List.replicate 23 uU,[.gone,.cells [iI 0]],[]⟩)
 |.l0 x0_11 c0_1_0=>(cutOf Tryz.f68 0,⟨mk 25 [(1,fG 69 [.cref 3 fun q=>((cC b):List V).getD q uU,.ref 1 0 0]),(9,tLine.lst b.lines),(10,iI (b.lines.length:Int)),(11,iI x0_11)],[.gone,.cells [iI c0_1_0]],[]⟩)
def n68:R68->Exit × St
 |.r0 r0 r1 r2=>(.ret,⟨mk 25 [(4,iI r1),(5,iI r2)],[.gone,.cells [iI r0]],[]⟩)
theorem s68(b:Book):Sm 2 (g68 b) (T68 b) (n68)
 |.e=>⟨400,by kernel_rfl⟩
 |.l0 _ _=>⟨400,by kernel_rfl⟩
def hh68:R68->List Blk
 |.r0 r0 r1 r2=>[.gone,.cells [iI r0]]
def v68:R68->V
 |.r0 r0 r1 r2=>.tuple [iI r1,iI r2]
theorem q68:∀r,((n68 r).1=.normal\/(n68 r).1=.ret)/\(n68 r).2.d=[]/\(n68 r).2.h=hh68 r/\resultV Tryz.prog Tryz.f68 (n68 r).2=some (v68 r)
 |.r0 r0 r1 r2=>⟨.inr rfl,rfl,rfl,by kernel_rfl⟩
theorem w68(b:Book){V0:V}{h':List Blk}(h:WP Tryz.prog ⟨none,2⟩ (T68 b) (Ends' fun r=>v68 r=V0/\hh68 r=h') .e):HCalls Tryz.prog 68 [tLine.lst b.lines,fG 69 [.cref 3 fun q=>((cC b):List V).getD q uU,.ref 1 0 0]] V0 [.gone,.cells [iI 0]] h':=
 HCalls.wp mx Tryz.func68 (by kernel_rfl) (by kernel_rfl) (T68 b) (g68 b) (n68) .e rfl (s68 b) h fun r hr=>by rw[<-hr.1,<-hr.2];exact q68 r
theorem c68(b:Book)(h:b.bodies.length<=5)(hl:b.lines.length<=8):HCalls Tryz.prog 68 [tLine.lst b.lines,fG 69 [cB b,.ref 1 0 0]] (.tuple [iI (firstR (lineErr b) b.lines).1,iI (firstR (lineErr b) b.lines).2]) [.gone,.cells [iI 0]] [.gone,.cells [iI (manyEnd b)]]:=by
 refine w68 _ (WP.step ?_);simp only[T68,Go,Ends',v68,Tr.sure,SS];repeat' with_reducible first|intro _|apply aI
 refine WP.findE (fun i=>.l0 i (someTo b.lines i)) rfl b.lines zLine (lineErr b) (fun i hi=> ?_) fun hI=> ?_
 ·have hr:inR .i64 ((i:Int)+1)=true:=inR64 (by omega) (by omega);have hi':(i:Int)<b.lines.length:=by omega
  have hs:=someTo_le b.lines i;have k69:=fun rest=>c69at b i (b.lines.getD i zLine) (someTo b.lines i) rest h hi hl (by omega);obtain⟨e1,e2⟩:=errQ_line b i;have ex:∀x m,errQx b (i:Int) x m=errQ b i x m:=fun x m=>by unfold errQx;rw[Int.toNat_natCast]
  have hm:∀e,firstE (lineErr b) 0 b.lines=some (i,e)->manyEnd b=(errQ b i (b.lines.getD i zLine) (someTo b.lines i)).2:=fun e he=>by unfold manyEnd;rw[he]
  generalize hq:errQ b i (b.lines.getD i zLine) (someTo b.lines i)=Q at*
  obtain⟨Q1,Q2⟩:=Q;simp only at e1 e2 hm;subst e1;generalize hZ:lineErr b i (b.lines.getD i zLine)=Z at*
  by_cases g:Z=0
  ·have e3:=e2 g;subst g;rw[<-e3];refine WP.once ?_;simp only[T68,Tr.sure,SS,hi',z5,hZ,ex,hq];repeat' with_reducible first|intro _|apply aI
   all_goals first|exact(k69 _)|(simp[hr,firstR,Go,Ends',v68,-List.getD_eq_getElem?_getD, *];done)
  ·have key:firstE (lineErr b) 0 b.lines=some (i,Z)->V.tuple [iI (i:Int),iI Z]=V.tuple [iI (firstR (lineErr b) b.lines).1,iI (firstR (lineErr b) b.lines).2]/\[Blk.gone,.cells [iI Q2]]=[Blk.gone,.cells [iI (manyEnd b)]]:=fun he=>by
    rw[firstR_some he,hm _ he];exact⟨rfl,rfl⟩
   refine WP.once ?_;simp only[T68,Tr.sure,SS,hi',z5,hZ,ex,hq,g];repeat' with_reducible first|intro _|apply aI
   all_goals first|exact(k69 _)|exact(Or.inr key)
 ·have hR:=firstR_none hI;have hm:manyEnd b=someTo b.lines b.lines.length:=by unfold manyEnd;rw[hI]
  refine WP.step ?_;simp only[T68,Go,Ends',v68,Tr.sure,SS,Int.lt_irrefl];repeat' with_reducible first|intro _|apply aI
  all_goals simp[hR,hm,hh68,Go,Ends',v68,-List.getD_eq_getElem?_getD, *]
inductive P16
 |e
inductive R16
 |r0 (r0:Int) (r1:Int) (r2:Int)
def T16(b:Book):P16->Tr P16 R16
 |.e=>let c1:=firstR (bodyAt b.bodies) b.bodies;let c2:=firstR (headAt b.heads) b.heads;let c3:=firstR (lineErr b) b.lines;let c4:=((cC b):List V);(.br (decide ((b.bodies.length:Int)>(5:Int))) (.out (.r0 1 0 3)) (.call 57 [tBody.lst b.bodies,fG 58 [.cref 3 fun q=>c4.getD q uU]] (.tuple [iI (c1.1),iI (c1.2)]) true true (.br (c1.2 !=(0:Int)) (.out (.r0 1 (c1.1) (c1.2))) (.br ((b.heads.length:Int) !=(b.bodies.length:Int)) (.out (.r0 2 0 3)) (.call 65 [tstr.lst b.heads,fG 66 [.cref 3 fun q=>c4.getD q uU]] (.tuple [iI (c2.1),iI (c2.2)]) true true (.br (c2.2 !=(0:Int)) (.out (.r0 2 (c2.1) (c2.2))) (.br (decide ((b.lines.length:Int)>(8:Int))) (.out (.r0 3 0 3)) (.wait 5 (.frz 0 (underL 0 (cC b)) (.hcall 68 [tLine.lst b.lines,fG 69 [.cref 3 fun q=>c4.getD q uU,.ref 1 0 0]] (.tuple [iI (c3.1),iI (c3.2)]) [.gone,.cells [iI 0]] [.gone,.cells [iI (manyEnd b)]] true (.br (c3.2 !=(0:Int)) (.out (.r0 3 (c3.1) (c3.2))) (.out (.r0 0 0 0)))))))))))))
noncomputable def g16(b:Book):P16->List Item × St
 |.e=>bd Tryz.f16 [.agg (cC b)] 57
def n16:R16->Exit × St
 |.r0 r0 r1 r2=>(.ret,⟨mk 58 [(2,iI r0),(3,iI r1),(4,iI r2)],[],[]⟩)
def v16:R16->V
 |.r0 r0 r1 r2=>.tuple [iI r0,iI r1,iI r2]
theorem s16(b:Book):Sm 0 (g16 b) (T16 b) (n16)
 |.e=>⟨400,by kernel_rfl⟩
theorem q16:∀r,bodyQ Tryz.prog Tryz.f16 (·=v16 r) (n16 r).1 (n16 r).2
 |.r0 r0 r1 r2=>bq (.tuple [iI r0,iI r1,iI r2]) (by kernel_rfl)
theorem w16(b:Book){post:V->Prop}(h:WQ (T16 b) v16 post .e):PC 16 [.agg (cC b)] post:=
 PCalls.wq Tryz.func16 (s16 b) q16 h
theorem firstR_zero{τ:Type}{of:Nat->τ->Int}{l:List τ}(h:(firstR of l).2=0):firstE of 0 l=none:=by
 unfold firstR at h
 cases hf:firstE of 0 l with
 |none=>rfl
 |some p=>obtain⟨i,e⟩:=p;rw[hf]at h;exact absurd h (firstE_ne hf)
theorem firstR_ne{τ:Type}{of:Nat->τ->Int}{l:List τ}(h:¬(firstR of l).2=0):∃i,firstE of 0 l=some (i,(firstR of l).2)/\(firstR of l).1=(i:Int):=by
 unfold firstR at h⊢
 cases hf:firstE of 0 l with
 |none=>rw[hf]at h;exact absurd rfl h
 |some p=>obtain⟨i,e⟩:=p;exact⟨i,rfl,rfl⟩
theorem c16(b:Book):PC 16 [.agg (tBook.cells b)] (·=.tuple [iI (bookCheck b).1,iI (bookCheck b).2.1,iI (bookCheck b).2.2]):=by
 by_cases h1:(5:Int)<b.bodies.length
 ·have e:bookCheck b=(1,0,3):=if_pos h1;rw[e];refine w16 _ (WP.step ?_);simp only[T16,Go,Ends',v16,Tr.sure,SS,h1];repeat' with_reducible first|intro _|apply aI
 have hb:b.bodies.length<=5:=by omega
 have k57:=c57 b hb;by_cases h2:(firstR (bodyAt b.bodies) b.bodies).2=0
 ·have f2:=firstR_zero h2;rw[h2]at k57;by_cases h3:b.heads.length=b.bodies.length
  ·have k65:=c65 b (by omega);have h3':((b.heads.length:Int) !=(b.bodies.length:Int))=false:=by simp[h3]
   by_cases h4:(firstR (headAt b.heads) b.heads).2=0
   ·have f4:=firstR_zero h4;rw[h4]at k65;by_cases h5:(8:Int)<b.lines.length
    ·have e:bookCheck b=(3,0,3):=by unfold bookCheck;rw[if_neg h1,f2];simp only;rw[if_neg (fun q=>q h3),f4];simp only;rw[if_pos h5]
     rw[e];refine w16 _ (WP.step ?_);simp only[T16,Go,Ends',v16,Tr.sure,SS,h1,h2,h3',h4,h5];repeat' with_reducible first|intro _|apply aI
     all_goals first|exact k57|exact k65
    ·have k68:=c68 b hb (by omega);by_cases h6:(firstR (lineErr b) b.lines).2=0
     ·have f6:=firstR_zero h6;rw[h6]at k68;have e:bookCheck b=(0,0,0):=by unfold bookCheck;rw[if_neg h1,f2];simp only;rw[if_neg (fun q=>q h3),f4];simp only;rw[if_neg h5,f6]
      rw[e];refine w16 _ (WP.step ?_);simp only[T16,Go,Ends',v16,Tr.sure,SS,h1,h2,h3',h4,h5,h6];repeat' with_reducible first|intro _|apply aI
      all_goals first|exact k57|exact k65|exact k68|exact(show underL 0 (cC b)=true from rfl)
     ·obtain⟨i,f6,f7⟩:=firstR_ne h6;have e:bookCheck b=(3,(i:Int),(firstR (lineErr b) b.lines).2):=by unfold bookCheck;rw[if_neg h1,f2];simp only;rw[if_neg (fun q=>q h3),f4];simp only;rw[if_neg h5,f6]
      rw[e];refine w16 _ (WP.step ?_);simp only[T16,Go,Ends',v16,Tr.sure,SS,h1,h2,h3',h4,h5,h6];repeat' with_reducible first|intro _|apply aI
      all_goals first|exact k57|exact k65|exact k68|exact(show underL 0 (cC b)=true from rfl)|(simp[h2,h4,h6,f7,Go,Ends',v16,-List.getD_eq_getElem?_getD, *];done)
   ·obtain⟨i,f4,f7⟩:=firstR_ne h4;have e:bookCheck b=(2,(i:Int),(firstR (headAt b.heads) b.heads).2):=by unfold bookCheck;rw[if_neg h1,f2];simp only;rw[if_neg (fun q=>q h3),f4]
    rw[e];refine w16 _ (WP.step ?_);simp only[T16,Go,Ends',v16,Tr.sure,SS,h1,h2,h3',h4];repeat' with_reducible first|intro _|apply aI
    all_goals first|exact k57|exact k65|(simp[h2,h4,f7,Go,Ends',v16,-List.getD_eq_getElem?_getD, *];done)
  ·have h3':((b.heads.length:Int) !=(b.bodies.length:Int))=true:=by simp;omega
   have e:bookCheck b=(2,0,3):=by unfold bookCheck;rw[if_neg h1,f2];simp only;rw[if_pos h3]
   rw[e];refine w16 _ (WP.step ?_);simp only[T16,Go,Ends',v16,Tr.sure,SS,h1,h2,h3'];repeat' with_reducible first|intro _|apply aI
   all_goals exact k57
 ·obtain⟨i,f4,f7⟩:=firstR_ne h2;have e:bookCheck b=(1,(i:Int),(firstR (bodyAt b.bodies) b.bodies).2):=by unfold bookCheck;rw[if_neg h1,f4]
  rw[e];refine w16 _ (WP.step ?_);simp only[T16,Go,Ends',v16,Tr.sure,SS,h1,h2];repeat' with_reducible first|intro _|apply aI
  all_goals first|exact k57|(simp[h2,f7,Go,Ends',v16,-List.getD_eq_getElem?_getD, *];done)
end
noncomputable section
def compI(x y:Int):Int:=if x<y then-1 else if y<x then 1 else 0
def cmpP(p q:Pair):Int:=if compI p.a q.a≠0 then compI p.a q.a else compI p.b q.b
inductive P142
 |e
inductive R142
 |r0 (r0:Bool)
def T142(x:Int):P142->Tr P142 R142
 |.e=>(.out (.r0 (x !=x)))
noncomputable def g142(x:Int):P142->List Item × St
 |.e=>bd Tryz.f142 [iI x] 5
def n142:R142->Exit × St
 |.r0 r0=>(.ret,⟨mk 6 [(2,.bool r0)],[],[]⟩)
def v142:R142->V
 |.r0 r0=>.bool r0
theorem s142(x:Int):Sm 0 (g142 x) (T142 x) (n142)
 |.e=>⟨400,by kernel_rfl⟩
theorem q142:∀r,bodyQ Tryz.prog Tryz.f142 (·=v142 r) (n142 r).1 (n142 r).2
 |.r0 r0=>bq (.bool r0) (by kernel_rfl)
theorem w142(x:Int){post:V->Prop}(h:WQ (T142 x) v142 post .e):PC 142 [iI x] post:=
 PCalls.wq Tryz.func142 (s142 x) q142 h
theorem c142(x:Int):PC 142 [iI x] (·=.bool false):=by
 refine w142 _ (WP.step ?_);simp only[T142,Go,Ends',v142,Tr.sure,SS];repeat' with_reducible first|intro _|apply aI
 all_goals simp[Go,Ends',v142,-List.getD_eq_getElem?_getD, *]
inductive P120
 |e
inductive R120
 |r0 (r0:Int)
def T120(x:Int)(y:Int):P120->Tr P120 R120
 |.e=>(.call 142 [iI x] (.bool false) true true (.call 142 [iI y] (.bool false) true true (.lit false (.lit false (.br (decide (x<y)) (.out (.r0 (-1))) (.br (decide (x>y)) (.out (.r0 1)) (.out (.r0 0))))))))
noncomputable def g120(x:Int)(y:Int):P120->List Item × St
 |.e=>bd Tryz.f120 [iI x,iI y] 18
def n120:R120->Exit × St
 |.r0 r0=>(.ret,⟨mk 20 [(4,iI r0)],[],[]⟩)
def v120:R120->V
 |.r0 r0=>iI r0
theorem s120(x:Int)(y:Int):Sm 0 (g120 x y) (T120 x y) (n120)
 |.e=>⟨400,by kernel_rfl⟩
theorem q120:∀r,bodyQ Tryz.prog Tryz.f120 (·=v120 r) (n120 r).1 (n120 r).2
 |.r0 r0=>bq (iI r0) (by kernel_rfl)
theorem w120(x:Int)(y:Int){post:V->Prop}(h:WQ (T120 x y) v120 post .e):PC 120 [iI x,iI y] post:=
 PCalls.wq Tryz.func120 (s120 x y) q120 h
theorem c120(x y:Int):PC 120 [iI x,iI y] (·=iI (compI x y)):=by
 have k:=c142;refine w120 _ _ (WP.step ?_);simp only[T120,Go,Ends',v120,Tr.sure,SS];repeat' with_reducible first|intro _|apply aI
 all_goals first|exact(k _)|(simp[compI,Go,Ends',v120,-List.getD_eq_getElem?_getD, *];done)
inductive P89
 |e
 |l0 (x0_11:Int)
inductive R89
 |r0 (r0:Int)
def T89(l:List Int)(m:List Int):P89->Tr P89 R89
 |.e=>(.go (.l0 0))
 |.l0 x0_11=>let c1:=compI (l.getD (x0_11).toNat tint.zero) (m.getD (x0_11).toNat tint.zero);let c2:=(m.length:Int);let c3:=(l.length:Int);(.br (decide (x0_11<c3)) (.need (decide (0<=x0_11)&&decide (x0_11<c3)) (.br (decide (x0_11≥c2)) (.out (.r0 1)) (.need (decide (0<=x0_11)&&decide (x0_11<c2)) (.call 120 [iI (l.getD (x0_11).toNat tint.zero),iI (m.getD (x0_11).toNat tint.zero)] (iI c1) true true (.br (c1 !=(0:Int)) (.out (.r0 c1)) (.need (inR .i64 (x0_11+(1:Int))) (.go (.l0 (x0_11+(1:Int)))))))))) (.br (decide (c3<c2)) (.out (.r0 (-1))) (.out (.r0 0))))
noncomputable def g89(l:List Int)(m:List Int):P89->List Item × St
 |.e=>bd Tryz.f89 [tint.lst l,tint.lst m] 34
 |.l0 x0_11=>(cutOf Tryz.f89 0,⟨mk 36 [(0,tint.lst l),(1,tint.lst m),(9,tint.lst l),(10,iI (l.length:Int)),(11,iI x0_11)],[],[]⟩)
def n89:R89->Exit × St
 |.r0 r0=>(.ret,⟨mk 36 [(4,iI r0)],[],[]⟩)
def v89:R89->V
 |.r0 r0=>iI r0
theorem s89(l:List Int)(m:List Int):Sm 0 (g89 l m) (T89 l m) (n89)
 |.e=>⟨400,by kernel_rfl⟩
 |.l0 _=>⟨400,by kernel_rfl⟩
theorem q89:∀r,bodyQ Tryz.prog Tryz.f89 (·=v89 r) (n89 r).1 (n89 r).2
 |.r0 r0=>bq (iI r0) (by kernel_rfl)
theorem w89(l:List Int)(m:List Int){post:V->Prop}(h:WQ (T89 l m) v89 post .e):PC 89 [tint.lst l,tint.lst m] post:=
 PCalls.wq Tryz.func89 (s89 l m) q89 h
theorem c89(a b c d:Int):PC 89 [tint.lst [a,b],tint.lst [c,d]] (·=iI (cmpP ⟨a,b⟩ ⟨c,d⟩)):=by
 have k1:=c120 a c;have k2:=c120 b d;have e0:∀x y:Int,[x,y].getD (Int.toNat 0) tint.zero=x:=fun _ _=>rfl;have e1:∀x y:Int,[x,y].getD ((0:Int)+1).toNat tint.zero=y:=fun _ _=>rfl;have l0:¬(0:Int)≥(([c,d]:List Int).length:Int):=by simp
 have l1:¬(0:Int)+1≥(([c,d]:List Int).length:Int):=by simp
 have f0:(0:Int)<(([a,b]:List Int).length:Int):=by simp
 have f1:(0:Int)+1<(([a,b]:List Int).length:Int):=by simp
 have f2:¬(0:Int)+1+1<(([a,b]:List Int).length:Int):=by simp
 have g0:(0:Int)<(([c,d]:List Int).length:Int):=by simp
 have g1:(0:Int)+1<(([c,d]:List Int).length:Int):=by simp
 have r0:inR .i64 ((0:Int)+1)=true:=by decide
 have r1:inR .i64 ((0:Int)+1+1)=true:=by decide
 have n0:(0:Int)<=0+1:=by decide
 have h2:WP Tryz.prog ⟨none,0⟩ (T89 [a,b] [c,d]) (Ends' fun r=>v89 r=iI 0) (.l0 (0+1+1)):=by
  refine WP.step ?_;simp only[T89,Go,Ends',v89,Tr.sure,SS,f2];repeat' with_reducible first|intro _|apply aI
  all_goals simp_all [Go,Ends',v89,-List.getD_eq_getElem?_getD]
 have h1:WP Tryz.prog ⟨none,0⟩ (T89 [a,b] [c,d]) (Ends' fun r=>v89 r=iI (compI b d)) (.l0 (0+1)):=by
  by_cases q:compI b d=0
  ·rw[q]at k2⊢;have ht:T89 [a,b] [c,d] (.l0 (0+1))=T89 [a,b] [c,d] (.l0 (0+1)):=rfl;refine WP.step ?_;simp only[T89,Go,Ends',v89,Tr.sure,SS,f1,l1,e1,q,g1,n0];repeat' with_reducible first|intro _|apply aI
   all_goals first|exact k2|exact h2|exact r1
  ·refine WP.step ?_;simp only[T89,Go,Ends',v89,Tr.sure,SS,f1,l1,e1,q,g1,n0];repeat' with_reducible first|intro _|apply aI
   all_goals exact k2
 unfold cmpP;by_cases q:compI a c=0
 ·rw[if_neg (fun z=>z q)];rw[q]at k1
  have h0:WP Tryz.prog ⟨none,0⟩ (T89 [a,b] [c,d]) (Ends' fun r=>v89 r=iI (compI b d)) (.l0 0):=by
   refine WP.step ?_;simp only[T89,Go,Ends',v89,Tr.sure,SS,f0,l0,e0,q,g0];repeat' with_reducible first|intro _|apply aI
   all_goals first|exact k1|exact h1|exact r0|(simp[q,Go,Ends',v89,-List.getD_eq_getElem?_getD, *];done)
  refine w89 _ _ (WP.step ?_);simp only[T89,Go,Ends',v89,Tr.sure,SS];repeat' with_reducible first|intro _|apply aI
  all_goals exact h0
 ·rw[if_pos q]
  have h0:WP Tryz.prog ⟨none,0⟩ (T89 [a,b] [c,d]) (Ends' fun r=>v89 r=iI (compI a c)) (.l0 0):=by
   refine WP.step ?_;simp only[T89,Go,Ends',v89,Tr.sure,SS,f0,l0,e0,q,g0];repeat' with_reducible first|intro _|apply aI
   all_goals first|exact k1|(simp[q,Go,Ends',v89,-List.getD_eq_getElem?_getD, *];done)
  refine w89 _ _ (WP.step ?_);simp only[T89,Go,Ends',v89,Tr.sure,SS];repeat' with_reducible first|intro _|apply aI
  all_goals exact h0
inductive P118
 |e
inductive R118
 |r0 (r0:Int)
def T118(p:Pair)(q:Pair):P118->Tr P118 R118
 |.e=>let c1:=cmpP (⟨p.a,p.b⟩:Pair) (⟨q.a,q.b⟩:Pair);(.call 89 [.list 1 2 (litC 1 2 [iI p.a,iI p.b]),.list 1 2 (litC 1 2 [iI q.a,iI q.b])] (iI c1) ((decide (2<=2))&&((decide (2<=2))&&true)) true (.out (.r0 c1)))
noncomputable def g118(p:Pair)(q:Pair):P118->List Item × St
 |.e=>bd Tryz.f118 [.agg [iI p.a,iI p.b],.agg [iI q.a,iI q.b]] 14
def n118:R118->Exit × St
 |.r0 r0=>(.ret,⟨mk 16 [(4,iI r0)],[],[]⟩)
def v118:R118->V
 |.r0 r0=>iI r0
theorem s118(p:Pair)(q:Pair):Sm 0 (g118 p q) (T118 p q) (n118)
 |.e=>⟨400,by kernel_rfl⟩
theorem q118:∀r,bodyQ Tryz.prog Tryz.f118 (·=v118 r) (n118 r).1 (n118 r).2
 |.r0 r0=>bq (iI r0) (by kernel_rfl)
theorem w118(p:Pair)(q:Pair){post:V->Prop}(h:WQ (T118 p q) v118 post .e):PC 118 [.agg [iI p.a,iI p.b],.agg [iI q.a,iI q.b]] post:=
 PCalls.wq Tryz.func118 (s118 p q) q118 h
theorem c118(p q:Pair):PC 118 [.agg (tPair.cells p),.agg (tPair.cells q)] (·=iI (cmpP p q)):=by
 have k:PC 89 [.list 1 2 (litC 1 2 [iI p.a,iI p.b]),.list 1 2 (litC 1 2 [iI q.a,iI q.b])] (·=iI (cmpP p q)):=
  PCalls.arg (pre:=[]) (PCalls.arg (pre:=[tint.lst [p.a,p.b]]) (c89 p.a p.b q.a q.b) (VLe.lit tint [q.a,q.b] rfl rfl (fun _=>rfl))) (VLe.lit tint [p.a,p.b] rfl rfl (fun _=>rfl))
 refine w118 _ _ (WP.step ?_);simp only[T118,Go,Ends',v118,Tr.sure,SS];repeat' with_reducible first|intro _|apply aI
 all_goals first|exact k|(simp[Go,Ends',v118,-List.getD_eq_getElem?_getD, *];done)
theorem cmpP_lt(p q:Pair):cmpP p q<0↔beforeR p q=true:=by
 obtain⟨a,b⟩:=p;obtain⟨c,d⟩:=q;simp only[cmpP,compI,beforeR,Bool.or_eq_true,Bool.and_eq_true,decide_eq_true_eq];rcases Int.lt_trichotomy a c with h|h|h<;>rcases Int.lt_trichotomy b d with h'|h'|h'<;>simp[h,h',Int.lt_asymm,Int.ne_of_gt,Int.ne_of_lt,Int.lt_irrefl]<;>omega
def sift:Nat->List Pair->List Pair
 |0,l=>l
 |j+1,l=>if beforeR (l.getD (j+1) zPair) (l.getD j zPair)=true then sift j ((l.set (j+1) (l.getD j zPair)).set j (l.getD (j+1) zPair))else l
theorem sift_len:∀(j:Nat) (l:List Pair),(sift j l).length=l.length
 |0,l=>rfl
 |j+1,l=>by
  unfold sift;split
  ·rw[sift_len];simp
  ·rfl
def isortN(l:List Pair)(i:Nat):List Pair:=natF (fun i s=>sift i s) l i
theorem isortN_len(l:List Pair):∀i,(isortN l i).length=l.length
 |0=>rfl
 |i+1=>by
  have e:isortN l (i+1)=sift i (isortN l i):=rfl;rw[e,sift_len,isortN_len l i]
theorem tel_set2{τ:Type}(E:Ty τ)(l:List τ)(i k:Nat)(x y:τ){n w:Nat}(vs us:List V)(hv:vs=E.cells x)(hw:(E.cells x).length=w)(hu:us=E.cells y)(hw2:(E.cells y).length=w)(hn:n=l.length):∀r j,r<n->j<w->
  VLe ((fun r' j=>if r'=k/\0<=j/\j<0+us.length then us.getD (j-0) uU else(fun r' j=>if r'=i/\0<=j/\j<0+vs.length then vs.getD (j-0) uU else rowsOf E l r' j) r' j) r j) (rowsOf E ((l.set i x).set k y) r j):=fun r j hr hj=>by
 subst hv;subst hu;subst hn;by_cases h:r=k
 ·subst h;simp only[Nat.zero_le,Nat.zero_add,true_and,hw2,hj,if_true,Nat.sub_zero,rowsOf,gE];rw[List.getElem?_set_self (by simpa using hr)];exact VLe.refl _
 ·have:=tel_set E l i x (n:=l.length) (w:=w) _ rfl hw rfl r j hr hj;have e:rowsOf E ((l.set i x).set k y) r j=rowsOf E (l.set i x) r j:=by simp only[rowsOf,gE,sN (Ne.symm h)]
  rw[e];simp only[h,false_and,if_false];exact this
theorem tel_pair2(l:List Pair)(i k:Nat)(x y:Pair){n:Nat}(hn:n=l.length)(r j:Nat)(hr:r<n)(hj:j<2):
  VLe (if r=k/\0<=j/\j<0+([iI y.a,iI y.b]:List V).length then([iI y.a,iI y.b]:List V).getD (j-0) uU else if r=i/\0<=j/\j<0+([iI x.a,iI x.b]:List V).length then([iI x.a,iI x.b]:List V).getD (j-0) uU else rowsOf tPair l r j)
   (rowsOf tPair ((l.set i x).set k y) r j):=tel_set2 tPair l i k x y (n:=n) (w:=2) _ _ rfl rfl rfl rfl hn r j hr hj
def o149_6:Array Oper:=(regOf 6 (Tryz.f149.body.getD .skip)).getD #[]
@[reducible] def st149_6 (l:List Pair) (n:Nat) (io:Int) (q:Int) (c:Nat->Bool):St:=⟨[.row 0 n,iI 0,iI (n:Int),fF 118,uU,uU,uU,uU,iI io,iI q,uU,uU,uU,uU,uU,uU,uU,uU,uU,uU,uU,uU,uU,uU,uU,uU,uU,uU,uU,uU,uU,uU,uU,uU,uU,uU,uU,(bif c 0 then .row 0 n else(uU)),(bif c 1 then iI q else(uU)),(bif c 2 then .row 0 n else(uU)),(bif c 3 then iI q else(uU)),(bif c 4 then iI (q-(1:Int))else(uU)),(bif c 5 then .row 0 n else(uU)),(bif c 6 then iI q else(uU)),(bif c 7 then iI (q-(1:Int))else(uU)),(bif c 8 then .ref 0 (((q-(1:Int))).toNat) 0 else(uU)),(bif c 9 then .agg [iI ((l.getD ((q-(1:Int))).toNat tPair.zero).a),iI ((l.getD ((q-(1:Int))).toNat tPair.zero).b)]else(uU)),(bif c 10 then .row 0 n else(uU)),(bif c 11 then iI q else(uU)),(bif c 12 then .ref 0 ((q).toNat) 0 else(uU)),(bif c 13 then .agg [iI ((l.getD (q).toNat tPair.zero).a),iI ((l.getD (q).toNat tPair.zero).b)]else(uU)),(bif c 14 then .ref 0 ((q).toNat) 0 else(uU)),uU],[(bif c 15 then .rows 95 2 n (fun r' j=>if r'=(q).toNat/\0<=j/\j<0+([iI ((l.getD ((q-(1:Int))).toNat tPair.zero).a),iI ((l.getD ((q-(1:Int))).toNat tPair.zero).b)]:List V).length then([iI ((l.getD ((q-(1:Int))).toNat tPair.zero).a),iI ((l.getD ((q-(1:Int))).toNat tPair.zero).b)]:List V).getD (j-0) uU else(rowsOf tPair l) r' j)else(.rows 95 2 n (rowsOf tPair l)))],[]⟩
def t149_6:Tab:=[([],[1,2,3,4,5,6,7,8,9,10,11,12,13]),([],[0,2,3,4,5,6,7,8,9,10,11,12,13]),([],[0,1,3,4,5,6,7,8,9,10,11,12,13,14,15]),([],[0,1,2,5,6,7,8,9,10,11,12,13,14,15]),([3],[0,1,2,5,6,7,8,9,10,11,12,13,14,15]),([],[0,1,2,3,4,6,7,10,11,12,13]),([],[0,1,2,3,4,5,10,11,12,13]),([6],[0,1,2,3,4,5,10,11,12,13]),([5,6,7],[0,1,2,3,4,10,11,12,13]),([5,6,7,8],[0,1,2,3,4,10,11,12,13]),([],[0,1,2,3,4,5,6,7,8,9,11]),([],[0,1,2,3,4,5,6,7,8,9,10]),([10,11],[0,1,2,3,4,5,6,7,8,9]),([10,11,12],[0,1,2,3,4,5,6,7,8,9]),([0,1,5,6,7,8,9,10,11,12,13],[2,3,4]),([0,1,5,6,7,8,9,10,11,12,13,14],[2,3,4])]
theorem ov149_6(l:List Pair)(n:Nat)(io:Int)(q:Int)(h1:0<=q-1)(h2:q<(n:Int))(h3:inR .i64 (q-1)=true):AWP Tryz.prog ⟨none,1⟩ (regionOf Tryz.f149 6) ⟨[.row 0 n,iI 0,iI (n:Int),fF 118,uU,uU,uU,uU,iI io,iI q,uU,uU,uU,uU,uU,uU,uU,uU,uU,uU,uU,uU,uU,uU,uU,uU,uU,uU,uU,uU,uU,uU,uU,uU,uU,uU,uU,uU,uU,uU,uU,uU,uU,uU,uU,uU,uU,uU,uU,uU,uU,uU,uU],[.rows 95 2 n (rowsOf tPair l)],[]⟩ (fun e T=>e=.normal/\T=⟨[.row 0 n,iI 0,iI (n:Int),fF 118,uU,uU,uU,uU,iI io,iI q,uU,uU,uU,uU,uU,uU,uU,uU,uU,uU,uU,uU,uU,uU,uU,uU,uU,uU,uU,uU,uU,uU,uU,uU,uU,uU,uU,.row 0 n,iI q,.row 0 n,iI q,iI (q-(1:Int)),.row 0 n,iI q,iI (q-(1:Int)),.ref 0 (((q-(1:Int))).toNat) 0,.agg [iI ((l.getD ((q-(1:Int))).toNat tPair.zero).a),iI ((l.getD ((q-(1:Int))).toNat tPair.zero).b)],.row 0 n,iI q,.ref 0 ((q).toNat) 0,.agg [iI ((l.getD (q).toNat tPair.zero).a),iI ((l.getD (q).toNat tPair.zero).b)],.ref 0 ((q).toNat) 0,.ref 0 (((q-(1:Int))).toNat) 0],[.rows 95 2 n (fun r' j=>if r'=((q-(1:Int))).toNat/\0<=j/\j<0+([iI ((l.getD (q).toNat tPair.zero).a),iI ((l.getD (q).toNat tPair.zero).b)]:List V).length then([iI ((l.getD (q).toNat tPair.zero).a),iI ((l.getD (q).toNat tPair.zero).b)]:List V).getD (j-0) uU else(fun r' j=>if r'=(q).toNat/\0<=j/\j<0+([iI ((l.getD ((q-(1:Int))).toNat tPair.zero).a),iI ((l.getD ((q-(1:Int))).toNat tPair.zero).b)]:List V).length then([iI ((l.getD ((q-(1:Int))).toNat tPair.zero).a),iI ((l.getD ((q-(1:Int))).toNat tPair.zero).b)]:List V).getD (j-0) uU else(rowsOf tPair l) r' j) r' j)],[]⟩):=by
 refine AWP.region_bits (ops:=o149_6) 16 0 t149_6 mx (st149_6 l n io q) (fun z_i z_h c=> ?_) ?_
 ·rcases show z_i=0\/z_i=1\/z_i=2\/z_i=3\/z_i=4\/z_i=5\/z_i=6\/z_i=7\/z_i=8\/z_i=9\/z_i=10\/z_i=11\/z_i=12\/z_i=13\/z_i=14\/z_i=15 by omega with rfl|rfl|rfl|rfl|rfl|rfl|rfl|rfl|rfl|rfl|rfl|rfl|rfl|rfl|rfl|rfl
  ·exact AStep.rd true (.row 0 n) rfl
  ·exact AStep.rd true (iI q) rfl
  ·exact AStep.rd true (.row 0 n) rfl
  ·exact AStep.rd true (iI q) rfl
  ·refine AStep.rd (inR .i64 (q-(1:Int))) (iI (q-(1:Int))) ?_;first|assumption|rfl|(simp[*];done)|(simp;omega)|(simp only[Bool.and_eq_true,decide_eq_true_eq];omega)
  ·exact AStep.rd true (.row 0 n) rfl
  ·exact AStep.rd true (iI q) rfl
  ·refine AStep.rd (inR .i64 (q-(1:Int))) (iI (q-(1:Int))) ?_;first|assumption|rfl|(simp[*];done)|(simp;omega)|(simp only[Bool.and_eq_true,decide_eq_true_eq];omega)
  ·refine AStep.rd (((decide (0<=(q-(1:Int)))&&decide ((q-(1:Int))<(n:Int)))&&decide (n<=n))) (.ref 0 (((q-(1:Int))).toNat) 0) ?_;first|assumption|rfl|(simp[*];done)|(simp;omega)|(simp only[Bool.and_eq_true,decide_eq_true_eq];omega)
  ·refine AStep.rd ((decide (((q-(1:Int))).toNat<n)&&decide (0+2<=2))) (.agg [iI ((l.getD ((q-(1:Int))).toNat tPair.zero).a),iI ((l.getD ((q-(1:Int))).toNat tPair.zero).b)]) ?_;first|assumption|rfl|(simp[*];done)|(simp;omega)|(simp only[Bool.and_eq_true,decide_eq_true_eq];omega)
  ·exact AStep.rd true (.row 0 n) rfl
  ·exact AStep.rd true (iI q) rfl
  ·refine AStep.rd (((decide (0<=q)&&decide (q<(n:Int)))&&decide (n<=n))) (.ref 0 ((q).toNat) 0) ?_;first|assumption|rfl|(simp[*];done)|(simp;omega)|(simp only[Bool.and_eq_true,decide_eq_true_eq];omega)
  ·refine AStep.rd ((decide ((q).toNat<n)&&decide (0+2<=2))) (.agg [iI ((l.getD (q).toNat tPair.zero).a),iI ((l.getD (q).toNat tPair.zero).b)]) ?_;first|assumption|rfl|(simp[*];done)|(simp;omega)|(simp only[Bool.and_eq_true,decide_eq_true_eq];omega)
  ·refine AStep.rd (((decide (0<=q)&&decide (q<(n:Int)))&&decide (n<=n))) (.ref 0 ((q).toNat) 0) ?_;first|assumption|rfl|(simp[*];done)|(simp;omega)|(simp only[Bool.and_eq_true,decide_eq_true_eq];omega)
  ·refine AStep.tree (g:=(.need ((decide ((q).toNat<n)&&decide (0+([iI ((l.getD ((q-(1:Int))).toNat tPair.zero).a),iI ((l.getD ((q-(1:Int))).toNat tPair.zero).b)]:List V).length<=2))&&underL 0 ([iI ((l.getD ((q-(1:Int))).toNat tPair.zero).a),iI ((l.getD ((q-(1:Int))).toNat tPair.zero).b)]:List V)) (.done .normal (st149_6 l n io q (mkb t149_6 15 true c))))) (by kernel_rfl) ?_;simp only[DT.holds];repeat' (first|assumption|exact rfl|(with_reducible refine And.intro ?_ ?_))
   all_goals first|(simp[*];done)|(simp only[Bool.and_eq_true,decide_eq_true_eq];refine⟨⟨by omega,by simp⟩,rfl⟩)
 ·refine AOps.tree (g:=(.need ((decide (0<=(q-(1:Int)))&&decide ((q-(1:Int))<(n:Int)))&&decide (n<=n)) (.need ((decide (((q-(1:Int))).toNat<n)&&decide (0+([iI ((l.getD (q).toNat tPair.zero).a),iI ((l.getD (q).toNat tPair.zero).b)]:List V).length<=2))&&underL 0 ([iI ((l.getD (q).toNat tPair.zero).a),iI ((l.getD (q).toNat tPair.zero).b)]:List V)) (.done .normal ⟨[.row 0 n,iI 0,iI (n:Int),fF 118,uU,uU,uU,uU,iI io,iI q,uU,uU,uU,uU,uU,uU,uU,uU,uU,uU,uU,uU,uU,uU,uU,uU,uU,uU,uU,uU,uU,uU,uU,uU,uU,uU,uU,.row 0 n,iI q,.row 0 n,iI q,iI (q-(1:Int)),.row 0 n,iI q,iI (q-(1:Int)),.ref 0 (((q-(1:Int))).toNat) 0,.agg [iI ((l.getD ((q-(1:Int))).toNat tPair.zero).a),iI ((l.getD ((q-(1:Int))).toNat tPair.zero).b)],.row 0 n,iI q,.ref 0 ((q).toNat) 0,.agg [iI ((l.getD (q).toNat tPair.zero).a),iI ((l.getD (q).toNat tPair.zero).b)],.ref 0 ((q).toNat) 0,.ref 0 (((q-(1:Int))).toNat) 0],[.rows 95 2 n (fun r' j=>if r'=((q-(1:Int))).toNat/\0<=j/\j<0+([iI ((l.getD (q).toNat tPair.zero).a),iI ((l.getD (q).toNat tPair.zero).b)]:List V).length then([iI ((l.getD (q).toNat tPair.zero).a),iI ((l.getD (q).toNat tPair.zero).b)]:List V).getD (j-0) uU else(fun r' j=>if r'=(q).toNat/\0<=j/\j<0+([iI ((l.getD ((q-(1:Int))).toNat tPair.zero).a),iI ((l.getD ((q-(1:Int))).toNat tPair.zero).b)]:List V).length then([iI ((l.getD ((q-(1:Int))).toNat tPair.zero).a),iI ((l.getD ((q-(1:Int))).toNat tPair.zero).b)]:List V).getD (j-0) uU else(rowsOf tPair l) r' j) r' j)],[]⟩)))) (by kernel_rfl) ?_
  simp only[DT.holds];repeat' (first|exact rfl|refine And.intro ?_ ?_)
  all_goals first|(simp;done)|(simp;omega)|(simp only[Bool.and_eq_true,decide_eq_true_eq];refine⟨⟨by omega,by simp⟩,rfl⟩)
inductive P149
 |e
 |l0 (x0_8:Int) (a0_0:List Pair)
 |l1 (x0_8:Int) (x1_9:Int) (a1_0:List Pair)
inductive R149
 |r0 (r0:List Pair)
def T149(n:Nat)(l:List Pair):P149->Tr P149 R149
 |.e=>(.need (inR .i64 ((0:Int)+(1:Int))) (.go (.l0 ((0:Int)+(1:Int)) l)))
 |.l0 x0_8 a0_0=>(.br (decide (x0_8<(n:Int))) (.go (.l1 x0_8 x0_8 a0_0)) (.out (.r0 a0_0)))
 |.l1 x0_8 x1_9 a1_0=>let c2:=a1_0.getD (x1_9).toNat tPair.zero;let c3:=x1_9-(1:Int);let c1:=a1_0.getD (c3).toNat tPair.zero;let c4:List V:=[iI (c2.a),iI (c2.b)];let c5:List V:=[iI (c1.a),iI (c1.b)];let c6:Tr P149 R149:=.need (inR .i64 (x0_8+(1:Int))) (.go (.l0 (x0_8+(1:Int)) a1_0));let c7:=decide (x1_9>(0:Int));let c8:=(a1_0.set ((x1_9).toNat) c1).set ((c3).toNat) c2;let c9:=rowsOf tPair a1_0;let c10:=(c5:List V);let c11:=(c4:List V);(.br c7 (.front [(14,118,[.agg c4,.agg c5],iI (cmpP c2 c1))] [(3,true)] (((c7==true)&&(((decide (0<=x1_9)&&decide (x1_9<(n:Int)))&&decide (n<=n))&&((decide ((x1_9).toNat<n)&&decide (0+2<=2))&&((inR .i64 c3)&&(((decide (0<=c3)&&decide (c3<(n:Int)))&&decide (n<=n))&&((decide ((c3).toNat<n)&&decide (0+2<=2))&&true))))))&&true) true (.br (decide ((cmpP c2 c1)<(0:Int))) (.wait 3 (.drop ⟨[.nil,.nil,.nil,.nil,uU,uU,uU,uU,.nil,.nil,uU,uU,uU,uU,uU,uU,uU,uU,uU,uU,uU,uU,uU,uU,uU,uU,uU,uU,uU,uU,uU,uU,uU,uU,uU,uU,uU,uU,uU,uU,uU,uU,uU,uU,uU,uU,uU,uU,uU,uU,uU,uU,uU],[.void],[]⟩ (.over (regionOf Tryz.f149 6) ⟨[.row 0 n,iI 0,iI (n:Int),fF 118,uU,uU,uU,uU,iI x0_8,iI x1_9,uU,uU,uU,uU,uU,uU,uU,uU,uU,uU,uU,uU,uU,uU,uU,uU,uU,uU,uU,uU,uU,uU,uU,uU,uU,uU,uU,uU,uU,uU,uU,uU,uU,uU,uU,uU,uU,uU,uU,uU,uU,uU,uU],[.rows 95 2 n c9],[]⟩ .normal ⟨[.row 0 n,iI 0,iI (n:Int),fF 118,uU,uU,uU,uU,iI x0_8,iI x1_9,uU,uU,uU,uU,uU,uU,uU,uU,uU,uU,uU,uU,uU,uU,uU,uU,uU,uU,uU,uU,uU,uU,uU,uU,uU,uU,uU,.row 0 n,iI x1_9,.row 0 n,iI x1_9,iI c3,.row 0 n,iI x1_9,iI c3,.ref 0 ((c3).toNat) 0,.agg c5,.row 0 n,iI x1_9,.ref 0 ((x1_9).toNat) 0,.agg c4,.ref 0 ((x1_9).toNat) 0,.ref 0 ((c3).toNat) 0],[.rows 95 2 n (fun r' j=>if r'=(c3).toNat/\0<=j/\j<0+c11.length then c11.getD (j-0) uU else(fun r' j=>if r'=(x1_9).toNat/\0<=j/\j<0+c10.length then c10.getD (j-0) uU else c9 r' j) r' j)],[]⟩ true (.telb 0 2 n (fun r' j=>if r'=(c3).toNat/\0<=j/\j<0+c11.length then c11.getD (j-0) uU else(fun r' j=>if r'=(x1_9).toNat/\0<=j/\j<0+c10.length then c10.getD (j-0) uU else c9 r' j) r' j) (rowsOf tPair c8) (.need (inR .i64 c3) (.go (.l1 x0_8 c3 c8))))))) c6)) (.front [] [(3,false)] (((c7==false)&&true)&&true) true (.lit false c6)))
noncomputable def g149(n:Nat)(l:List Pair):P149->List Item × St
 |.e=>([.code (Tryz.f149.body.getD .skip)],⟨[.row 0 n,iI 0,iI (n:Int),fF 118]++List.replicate 49 uU,[.rows 95 2 n (rowsOf tPair l)],[]⟩)
 |.l0 x0_8 a0_0=>(cutOf Tryz.f149 0,⟨mk 53 [(0,.row 0 n),(1,iI 0),(2,iI (n:Int)),(3,fF 118),(8,iI x0_8)],[.rows 95 2 n (rowsOf tPair a0_0)],[]⟩)
 |.l1 x0_8 x1_9 a1_0=>(cutOf Tryz.f149 1,⟨mk 53 [(0,.row 0 n),(1,iI 0),(2,iI (n:Int)),(3,fF 118),(8,iI x0_8),(9,iI x1_9)],[.rows 95 2 n (rowsOf tPair a1_0)],[]⟩)
def n149(n:Nat)(l:List Pair):R149->Exit × St
 |.r0 r0=>(.normal,⟨mk 53 [],[.rows 95 2 n (rowsOf tPair r0)],[]⟩)
theorem s149(n:Nat)(l:List Pair):Sm 1 (g149 n l) (T149 n l) (n149 n l)
 |.e=>⟨400,by kernel_rfl⟩
 |.l0 _ _=>⟨400,by kernel_rfl⟩
 |.l1 _ _ _=>⟨400,by kernel_rfl⟩
def hh149(n:Nat)(l:List Pair):R149->List Blk
 |.r0 r0=>[.rows 95 2 n (rowsOf tPair r0)]
def v149(n:Nat)(l:List Pair):R149->V
 |.r0 r0=>.tuple []
theorem q149(n:Nat)(l:List Pair):∀r,((n149 n l r).1=.normal\/(n149 n l r).1=.ret)/\(n149 n l r).2.d=[]/\(n149 n l r).2.h=hh149 n l r/\resultV Tryz.prog Tryz.f149 (n149 n l r).2=some (v149 n l r)
 |.r0 r0=>⟨.inl rfl,rfl,rfl,by kernel_rfl⟩
theorem w149(n:Nat)(l:List Pair){V0:V}{h':List Blk}(h:WP Tryz.prog ⟨none,1⟩ (T149 n l) (Ends' fun r=>v149 n l r=V0/\hh149 n l r=h') .e):HCalls Tryz.prog 149 [.row 0 n,iI 0,iI (n:Int),fF 118] V0 [.rows 95 2 n (rowsOf tPair l)] h':=
 HCalls.wp mx Tryz.func149 (by kernel_rfl) (by kernel_rfl) (T149 n l) (g149 n l) (n149 n l) .e rfl (s149 n l) h fun r hr=>by rw[<-hr.1,<-hr.2];exact q149 n l r
theorem w149_in(l0:List Pair)(n i:Nat)(φ:P149⊕R149->Prop)(hn:n<=1000):∀(j:Nat) (l:List Pair),l.length=n->j<n->WP Tryz.prog ⟨none,1⟩ (T149 n l0) φ (.l0 ((i:Int)+1) (sift j l))->i<n->WP Tryz.prog ⟨none,1⟩ (T149 n l0) φ (.l1 (i:Int) (j:Int) l)
 |0,l,hl,hj,hend,hi=>by
  have hr:inR .i64 ((i:Int)+1)=true:=inR64 (by omega) (by omega);refine WP.step ?_;have h0:¬((0:Nat):Int)>0:=by omega
  simp only[T149,Tr.sure,h0,decide_false,Bool.false_eq_true,false_imp_iff,true_and,true_imp_iff,hr,Go];exact⟨rfl,fun c hc=>by simp at hc,hend⟩
 |j+1,l,hl,hj,hend,hi=>by
  have hr:inR .i64 ((i:Int)+1)=true:=inR64 (by omega) (by omega);have hr2:inR .i64 (((j+1:Nat):Int)-1)=true:=inR64 (by omega) (by omega);have e1:(((j+1:Nat):Int)).toNat=j+1:=Int.toNat_natCast _;have e2:((j+1:Nat):Int)-1=(j:Int):=by omega
  have e3:((j:Int)).toNat=j:=Int.toNat_natCast _;have q1:((j+1:Nat):Int)>0:=by omega
  have q2:((j+1:Nat):Int)<(n:Int):=by omega
  have q3:(0:Int)<=((j+1:Nat):Int):=by omega
  have q4:(j:Int)<(n:Int):=by omega
  have q5:(0:Int)<=(j:Int):=by omega
  have q6:j+1<n:=hj;have q7:j<n:=by omega
  have k118:=c118 (l.getD (j+1) zPair) (l.getD j zPair);have kov:=ov149_6 l n (i:Int) ((j+1:Nat):Int) (by omega) (by omega) hr2;have hset:((l.set (j+1) (l.getD j zPair)).set j (l.getD (j+1) zPair)).length=n:=by simpa using hl
  have hln:=hl.symm;have hc:=cmpP_lt (l.getD (j+1) zPair) (l.getD j zPair);rw[e2]at hr2;simp only[e1,e2,e3,z8]at kov;unfold sift at hend;by_cases hb:beforeR (l.getD (j+1) zPair) (l.getD j zPair)=true
  ·rw[if_pos hb]at hend;have ih:=w149_in l0 n i φ hn j _ hset q7 hend hi;have hc':cmpP (l.getD (j+1) zPair) (l.getD j zPair)<0:=hc.2 hb;refine WP.step ?_;simp only[T149,Go,Ends',v149,Tr.sure,SS,e1,e2,e3,q1,q2,z8,hc'];repeat' with_reducible first|intro _|apply aI
   all_goals first|exact(by with_reducible assumption)|exact(by omega)|exact k118|exact(by with_reducible exact tel_pair2 _ _ _ _ _ hln _ _ ‹_› ‹_›)
  ·rw[if_neg hb]at hend;have hc':¬cmpP (l.getD (j+1) zPair) (l.getD j zPair)<0:=fun h=>hb (hc.1 h);refine WP.step ?_;simp only[T149,Go,Ends',v149,Tr.sure,SS,e1,e2,e3,q1,q2,z8,hc'];repeat' with_reducible first|intro _|apply aI
   all_goals first|exact(by with_reducible assumption)|exact(by omega)|exact k118
theorem c149(n:Nat)(l:List Pair)(hl:l.length=n)(h0:0<n)(hn:n<=1000):HCalls Tryz.prog 149 [.row 0 n,iI 0,iI (n:Int),fF 118] (.tuple []) [.rows 95 2 n (rowsOf tPair l)] [.rows 95 2 n (rowsOf tPair (isortN l n))]:=by
 have r0:inR .i64 ((0:Int)+1)=true:=by decide
 have hmain:WP Tryz.prog ⟨none,1⟩ (T149 n l) (Ends' fun r=>v149 n l r=.tuple []/\hh149 n l r=[.rows 95 2 n (rowsOf tPair (isortN l n))]) (.l0 (0+1) l):=by
  refine WP.count (fun k=>.l0 (0+1+(k:Int)) (isortN l (k+1))) (by simp;rfl) (n-1) (fun _=>True) trivial (fun k hk _=> ?_) fun _=> ?_
  ·have hk':(0:Int)+1+(k:Int)<n:=by omega
   have e:(0:Int)+1+(k:Int)=((k+1:Nat):Int):=by omega
   have e2:(0:Int)+1+((k+1:Nat):Int)=((k+1:Nat):Int)+1:=by omega
   have es:isortN l (k+1+1)=sift (k+1) (isortN l (k+1)):=rfl;have hw:=w149_in l n (k+1) (fun x=>(x=.inl (.l0 (((k+1:Nat):Int)+1) (isortN l (k+1+1)))/\True)\/Go Tryz.prog ⟨none,1⟩ (T149 n l) (Ends' fun r=>v149 n l r=.tuple []/\hh149 n l r=[.rows 95 2 n (rowsOf tPair (isortN l n))]) x) hn (k+1) (isortN l (k+1)) (by rw[isortN_len,hl]) (by omega) (by rw[es];exact WP.stop (.inl ⟨rfl,trivial⟩)) (by omega)
   rw[e]at hk'⊢;rw[e2];refine WP.step ?_;simp only[T149,Tr.sure,hk',decide_true,true_imp_iff,Bool.true_eq_false,false_imp_iff,and_true,Go]
   exact hw.mono fun x hx=>by
    rcases hx with⟨h,_⟩|h
    ·exact .inl h
    ·exact .inr h
  ·have e:(0:Int)+1+((n-1:Nat):Int)=n:=by omega
   have e2:n-1+1=n:=by omega
   rw[e,e2];refine WP.step ?_;simp only[T149,Tr.sure,Int.lt_irrefl,decide_false,Bool.false_eq_true,false_imp_iff,true_and,true_imp_iff];exact⟨rfl,rfl⟩
 refine w149 n l (WP.step ?_);simp only[T149,Tr.sure];exact⟨r0,fun _=>hmain⟩
inductive P141
 |e
 |l0
inductive R141
 |r0 (r0:List Pair)
def T141(n:Nat)(l:List Pair)(lim:Int):P141->Tr P141 R141
 |.e=>(.go (.l0))
 |.l0=>(.need (inR .i64 ((n:Int)-(0:Int))) (.br (decide (((n:Int)-(0:Int))<=(12:Int))) (.hcall 149 [.row 0 n,iI 0,iI (n:Int),fF 118] (.tuple []) [.rows 95 2 n (rowsOf tPair l)] [.rows 95 2 n (rowsOf tPair (isortN l n))] true (.out (.r0 (isortN l n)))) (.wait 3 .never)))
noncomputable def g141(n:Nat)(l:List Pair)(lim:Int):P141->List Item × St
 |.e=>([.code (Tryz.f141.body.getD .skip)],⟨[.row 0 n,iI 0,iI (n:Int),iI lim,fF 118]++List.replicate 143 uU,[.rows 95 2 n (rowsOf tPair l)],[]⟩)
 |.l0=>(cutOf Tryz.f141 0,⟨mk 148 [(0,.row 0 n),(1,iI 0),(2,iI (n:Int)),(3,iI lim),(4,fF 118),(10,.bool true),(11,.bool true)],[.rows 95 2 n (rowsOf tPair l)],[]⟩)
def n141(n:Nat)(l:List Pair):R141->Exit × St
 |.r0 r0=>(.ret,⟨mk 148 [],[.rows 95 2 n (rowsOf tPair r0)],[]⟩)
theorem s141(n:Nat)(l:List Pair)(lim:Int):Sm 1 (g141 n l lim) (T141 n l lim) (n141 n l)
 |.e=>⟨400,by kernel_rfl⟩
 |.l0=>⟨400,by kernel_rfl⟩
def hh141(n:Nat)(l:List Pair):R141->List Blk
 |.r0 r0=>[.rows 95 2 n (rowsOf tPair r0)]
def v141(n:Nat)(l:List Pair):R141->V
 |.r0 r0=>.tuple []
theorem q141(n:Nat)(l:List Pair):∀r,((n141 n l r).1=.normal\/(n141 n l r).1=.ret)/\(n141 n l r).2.d=[]/\(n141 n l r).2.h=hh141 n l r/\resultV Tryz.prog Tryz.f141 (n141 n l r).2=some (v141 n l r)
 |.r0 r0=>⟨.inr rfl,rfl,rfl,by kernel_rfl⟩
theorem w141(n:Nat)(l:List Pair)(lim:Int){V0:V}{h':List Blk}(h:WP Tryz.prog ⟨none,1⟩ (T141 n l lim) (Ends' fun r=>v141 n l r=V0/\hh141 n l r=h') .e):HCalls Tryz.prog 141 [.row 0 n,iI 0,iI (n:Int),iI lim,fF 118] V0 [.rows 95 2 n (rowsOf tPair l)] h':=
 HCalls.wp mx Tryz.func141 (by kernel_rfl) (by kernel_rfl) (T141 n l lim) (g141 n l lim) (n141 n l) .e rfl (s141 n l lim) h fun r hr=>by rw[<-hr.1,<-hr.2];exact q141 n l r
theorem c141(n:Nat)(l:List Pair)(lim:Int)(hl:l.length=n)(h0:0<n)(hn:n<=12):HCalls Tryz.prog 141 [.row 0 n,iI 0,iI (n:Int),iI lim,fF 118] (.tuple []) [.rows 95 2 n (rowsOf tPair l)] [.rows 95 2 n (rowsOf tPair (isortN l n))]:=by
 have k:=c149 n l hl h0 (by omega);have hr:inR .i64 ((n:Int)-0)=true:=inR64 (by omega) (by omega);have hle:(n:Int)-0<=12:=by omega
 have hmain:WP Tryz.prog ⟨none,1⟩ (T141 n l lim) (Ends' fun r=>v141 n l r=.tuple []/\hh141 n l r=[.rows 95 2 n (rowsOf tPair (isortN l n))]) .l0:=by
  refine WP.step ?_;simp only[T141,Tr.sure,hle,decide_true,true_imp_iff,Bool.true_eq_false,false_imp_iff,and_true];exact⟨hr,fun _=>⟨k,rfl,rfl⟩⟩
 refine w141 n l lim (WP.step ?_);simp only[T141,Tr.sure];exact hmain
end
end Go.Proofs.YtemgodefhcbleaaGreat
