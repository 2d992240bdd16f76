/-
  Part of the proof of the Claim laws. Conditions: those that stand in each theorem.
-/
import Derived.Test.YtdamoemndifpmaaGreatB12
set_option linter.unusedSimpArgs false
set_option linter.unusedVariables false
set_option maxRecDepth 100000
namespace Go.Proofs.YtdamoemndifpmaaGreat
open Ab Go
noncomputable section
def lastM(c:Case):Nat->Cast:=(keysTo c (leavesH c.shop 0 fun _=>zCast).length).2
theorem stopK_all:∀n k,stopK (fun _=>true) k n=k+n
 |0,_=>rfl
 |n+1,k=>by
  show(bif true then stopK (fun _=>true) (k+1) n else k)=_;rw[cond_true,stopK_all n (k+1)];omega
theorem TL97_other(x:Case)(j:Nat)(h3:j≠3)(h4:j≠4)(h5:j≠5)(h16:j≠16):(TL97 x).getD j uU=uU:=by
 rcases Nat.lt_or_ge j 62 with hj|hj
 ·rcases Nat.lt_or_ge j 6 with q|q
  ·rcases show j=0\/j=1\/j=2 by omega with e|e|e<;>subst e<;>rfl
  ·rcases Nat.lt_or_ge j 16 with q2|q2
   ·obtain⟨d,hd⟩:∃d,j=6+d:=⟨j-6,by omega⟩
    subst hd;rcases show d=0\/d=1\/d=2\/d=3\/d=4\/d=5\/d=6\/d=7\/d=8\/d=9 by omega with e|e|e|e|e|e|e|e|e|e<;>subst e<;>rfl
   ·have:(TL97 x).getD j uU=(List.replicate 45 V.undef).getD (j-17) uU:=by
     show(_++List.replicate 45 V.undef).getD j uU=_;rw[getD_append_right (by show 17<=j;omega)];rfl
    rw[this,gE,List.getElem?_replicate];split<;>rfl
 ·rw[gE,List.getElem?_eq_none (show(TL97 x).length<=j from hj)];rfl
set_option maxHeartbeats 1000000 in
theorem range97(x:Case)(h:OkCase x)(t:List V)(ht:t.length=62)(h3:t.getD 3 uU=.ref 2 0 0)(h4:t.getD 4 uU=.ref 4 0 0)(h5:t.getD 5 uU=.ref 5 0 0)(h16:t.getD 16 uU=fG 139 [.ref 6 0 0]):
  AWP Tryz.prog ⟨none,0⟩ (rangeOf Tryz.f97) ⟨t,[.cells (tCase.cells x),.cells (cellsC x .nils),.cells [.ref 1 0 0],.obj (mobj []),.cells [.map 3],.rows 130 2 4 (rowsFn tCast fun _=>zCast),.cells [.ref 1 0 0]],[]⟩
   (fun e T=>e=.normal/\T=⟨t,[.cells (tCase.cells x),.cells (cellsC x .nils),.cells [.ref 1 0 0],.obj (mobj (metM x)),.cells [.map 3],.rows 130 2 4 (rowsFn tCast (lastM x)),.cells [.ref 1 0 0],.obj (.deferred (some []))],[7]⟩):=by
 have e:rangeOf Tryz.f97=.rangeFunc (.tmp 16) #[17] (asgOf (rangeOf Tryz.f97)) (bdyOf (rangeOf Tryz.f97)):=by kernel_rfl
 have hlen:(leavesH x.shop 0 fun _=>zCast).length<=4096:=Nat.le_trans (leaves_len h.shop _ _ _) (by
  have:=h.shop.nh
  rcases show x.shop.heads.length=0\/x.shop.heads.length=1\/x.shop.heads.length=2\/x.shop.heads.length=3\/x.shop.heads.length=4 by omega with e|e|e|e|e<;>rw[e]<;>decide)
 have hcourt:∀hh:List Blk,hh[1]? =some (.cells (cellsC x .nils))->Snap hh (.ref 1 0 0) (courtN x):=fun hh hi=>.ref (n:=30) hi (Nat.le_refl _) fun j hj=>by
  rw[Nat.zero_add];refine .imm ?_;rcases Nat.lt_or_ge j 30 with q|q
  ·exact(List.all_eq_true.1 (show(List.range 30).all (fun j=>((cellsC x .nils).getD j uU).imm)=true from rfl)) j (List.mem_range.2 q)
  ·omega
 rw[e]
 refine AWP.rangeF (go:=fun _=>true) (fs:=[true,true,true,false,false,false,true]) (T:=TL97 x) (H:=fun k=>H97 (keysTo x k)) (jx:=.ret) (jc:=.ret) (f:=139) (ys:=ysA (truthsA x.shop)) (caps:=[rR (courtN x)])
  rfl rfl rfl (by rw[ht];rfl) (fun j=> ?_) rfl rfl (PCalls.enters Tryz.func139 (c:=Tryz.f139.body.getD .skip) (by kernel_rfl) (by kernel_rfl)) ((c139 x [] h).vle (VLe.cref fun j hj=> ?_)) rfl (fun _=>rfl) (fun _=>rfl) rfl rfl (fun lid k us hk _=> ?_) (fun i b hi=> ?_) ?_
 ·by_cases e3:j=3
  ·subst e3;right;rw[h3]
   exact .ref (n:=1) rfl (Nat.le_refl _) fun j hj=>by
    have:j=0:=by omega
    subst this;exact hcourt _ rfl
  by_cases e4:j=4
  ·subst e4;left;rw[h4];rfl
  by_cases e5:j=5
  ·subst e5;left;rw[h5];rfl
  by_cases e16:j=16
  ·subst e16;right;rw[h16];refine .func rfl rfl (fun j hj=>absurd hj (Nat.not_lt_zero j)) fun j hj=> ?_;have:j=0:=by have:j<1:=hj;omega
   subst this
   exact .ref (n:=1) rfl (Nat.le_refl _) fun j hj=>by
    have:j=0:=by omega
    subst this;exact hcourt _ rfl
  right;rw[TL97_other x j e3 e4 e5 e16];exact .undef _
 ·have:j=0:=by omega
  subst this;exact courtN_le x
 ·obtain⟨f,hf,hy⟩:∃f,(leavesH x.shop 0 fun _=>zCast)[k]? =some f/\yA f=.tuple us:=by
   have hk':(ysA (truthsA x.shop))[k]? =some (.tuple us):=hk;unfold ysA truthsA at hk';rw[List.getElem?_map]at hk'
   cases hf:(leavesH x.shop 0 fun _=>zCast)[k]? with
   |none=>rw[hf]at hk';cases hk'
   |some f=>rw[hf]at hk';exact⟨f,rfl,Option.some.inj hk'⟩
  obtain rfl:us=[.arr 2 4 (rowsFn tCast f)]:=by unfold yA at hy;cases hy;rfl
  refine⟨rfl,?_⟩;have hkl:=(List.getElem?_eq_some_iff.1 hf).1;have:=round97 x h lid (keysTo x k) f (leaf_num h hf) (fun s=>by have:=keysTo_le h k s;omega);rw[<-keysTo_succ x hf]at this;exact this
 ·have hi':i<7:=(List.getElem?_eq_some_iff.1 hi).1;rcases show i=0\/i=1\/i=2\/i=3\/i=4\/i=5\/i=6 by omega with e|e|e|e|e|e|e<;>subst e<;>cases hi
  ·trivial
  ·trivial
  ·trivial
  ·trivial
  ·rfl
  ·intro r j _ hj;rcases show j=0\/j=1 by omega with e|e<;>subst e<;>rfl
  ·trivial
 ·refine⟨by cases(stopK (fun _=>true) 0 (ysA (truthsA x.shop)).length)<;>rfl,?_⟩;rw[stopK_all,Nat.zero_add];have:(ysA (truthsA x.shop)).length=(leavesH x.shop 0 fun _=>zCast).length:=by simp[ysA,truthsA]
  rw[this];rfl
theorem PCalls.weakV{P:Program}{f:FuncId}{args:List V}{v v':V}(h:PCalls P f args (·=v))(hv:VLe v v'):PCalls P f args (·=v'):=
 ⟨h.1,fun G w xs hk hl hr=>(h.2 G w xs hk hl hr).mono fun _ _ ⟨u,x,G',h1,h2,h3,h4,h5,h6,h7,h8⟩=>⟨v',x,G',h1,h2,h3,h4,h5,h6,hv _ _ _ (by rw[<-h8];exact h7),rfl⟩⟩
theorem c122a:PC 122 [] (·=.agg kindCells):=PCalls.weakV c122 (VLe.arrAgg rfl fun j hj=>by rw[Nat.div_add_mod' j 4])
inductive P94_l
 |e
inductive R94_l
 |r0 (r0:Int) (r1:List Mould) (r2:List Head) (r3:List Int) (r4:List Claim) (r5:Int) (r6:List Mould) (r7:List Head) (r8:List Int) (r9:List Claim) (r10:List (Int × Int)) (r11:Nat->Cast)
def T94_l(x:Case):P94_l->Tr P94_l R94_l
 |.e=>(.out (.r0 x.shop.features x.shop.moulds x.shop.heads x.owners x.claims x.shop.features x.shop.moulds x.shop.heads x.owners x.claims ([]) (fun _=>zCast)))
noncomputable def g94_l(x:Case):P94_l->List Item × St
 |.e=>([.code (Tryz.f94.body.getD .skip)],⟨[.ref 1 0 0]++List.replicate 3 uU,[.cells (cC x),.cells [iI x.shop.features,tMould.lst x.shop.moulds,tHead.lst x.shop.heads,tint.lst x.owners,tClaim.lst x.claims,fG 170 [rR (fF 159)],fF 171,fF 172,fF 173,fG 162 [rR (fF 159)],fF 163,fF 160,fG 164 [rR (fF 174)],fG 162 [rR (fF 159)],fF 163,fF 160,fG 164 [rR (fF 175)],fG 162 [rR (fF 159)],fF 163,fF 160,fG 164 [rR (fF 176)],fF 166,fF 167,fF 168,fG 169 [rR (fF 177)],fF 166,fF 167,fF 168,fG 169 [rR (fF 178)],.nils],.cells [.ref 1 0 0],.obj (mobj []),.cells [.map 3],.rows 130 2 4 (rowsFn tCast (fun _=>zCast))],[]⟩)
def n94_l(x:Case):R94_l->Exit × St
 |.r0 r0 r1 r2 r3 r4 r5 r6 r7 r8 r9 r10 r11=>(.ret,⟨mk 4 [(2,fG 139 [.ref 6 0 0])],[.cells [iI r0,tMould.lst r1,tHead.lst r2,tint.lst r3,tClaim.lst r4],.cells [iI r5,tMould.lst r6,tHead.lst r7,tint.lst r8,tClaim.lst r9,fG 170 [rR (fF 159)],fF 171,fF 172,fF 173,fG 162 [rR (fF 159)],fF 163,fF 160,fG 164 [rR (fF 174)],fG 162 [rR (fF 159)],fF 163,fF 160,fG 164 [rR (fF 175)],fG 162 [rR (fF 159)],fF 163,fF 160,fG 164 [rR (fF 176)],fF 166,fF 167,fF 168,fG 169 [rR (fF 177)],fF 166,fF 167,fF 168,fG 169 [rR (fF 178)],.nils],.cells [.ref 1 0 0],.obj (mobj r10),.cells [.map 3],.rows 130 2 4 (rowsFn tCast r11),.cells [.ref 1 0 0]],[]⟩)
theorem s94_l(x:Case):Sm 6 (g94_l x) (T94_l x) (n94_l x)
 |.e=>⟨400,by kernel_rfl⟩
def hh94_l(x:Case):R94_l->List Blk
 |.r0 r0 r1 r2 r3 r4 r5 r6 r7 r8 r9 r10 r11=>[.cells [iI r0,tMould.lst r1,tHead.lst r2,tint.lst r3,tClaim.lst r4],.cells [iI r5,tMould.lst r6,tHead.lst r7,tint.lst r8,tClaim.lst r9,fG 170 [rR (fF 159)],fF 171,fF 172,fF 173,fG 162 [rR (fF 159)],fF 163,fF 160,fG 164 [rR (fF 174)],fG 162 [rR (fF 159)],fF 163,fF 160,fG 164 [rR (fF 175)],fG 162 [rR (fF 159)],fF 163,fF 160,fG 164 [rR (fF 176)],fF 166,fF 167,fF 168,fG 169 [rR (fF 177)],fF 166,fF 167,fF 168,fG 169 [rR (fF 178)],.nils],.cells [.ref 1 0 0],.obj (mobj r10),.cells [.map 3],.rows 130 2 4 (rowsFn tCast r11),.cells [.ref 1 0 0]]
def v94_l(x:Case):R94_l->V
 |.r0 r0 r1 r2 r3 r4 r5 r6 r7 r8 r9 r10 r11=>fG 139 [.ref 6 0 0]
theorem q94_l(x:Case):∀r,((n94_l x r).1=.normal\/(n94_l x r).1=.ret)/\(n94_l x r).2.d=[]/\(n94_l x r).2.h=hh94_l x r/\resultV Tryz.prog Tryz.f94 (n94_l x r).2=some (v94_l x r)
 |.r0 r0 r1 r2 r3 r4 r5 r6 r7 r8 r9 r10 r11=>⟨.inr rfl,rfl,rfl,by kernel_rfl⟩
theorem w94_l(x:Case){V0:V}{h':List Blk}(h:WP Tryz.prog ⟨none,6⟩ (T94_l x) (Ends' fun r=>v94_l x r=V0/\hh94_l x r=h') .e):HCalls Tryz.prog 94 [.ref 1 0 0] V0 [.cells (cC x),.cells [iI x.shop.features,tMould.lst x.shop.moulds,tHead.lst x.shop.heads,tint.lst x.owners,tClaim.lst x.claims,fG 170 [rR (fF 159)],fF 171,fF 172,fF 173,fG 162 [rR (fF 159)],fF 163,fF 160,fG 164 [rR (fF 174)],fG 162 [rR (fF 159)],fF 163,fF 160,fG 164 [rR (fF 175)],fG 162 [rR (fF 159)],fF 163,fF 160,fG 164 [rR (fF 176)],fF 166,fF 167,fF 168,fG 169 [rR (fF 177)],fF 166,fF 167,fF 168,fG 169 [rR (fF 178)],.nils],.cells [.ref 1 0 0],.obj (mobj []),.cells [.map 3],.rows 130 2 4 (rowsFn tCast (fun _=>zCast))] h':=
 HCalls.wp mx Tryz.func94 (by kernel_rfl) (by kernel_rfl) (T94_l x) (g94_l x) (n94_l x) .e rfl (s94_l x) h fun r hr=>by rw[<-hr.1,<-hr.2];exact q94_l x r
inductive P97
 |e
 |l1
 |l101 (i101_8:Array Nat) (a101_9:List Int)
inductive R97
 |r0 (r0_0:Int) (r0_1:List Mould) (r0_2:List Head) (r0_3:List Int) (r0_4:List Claim)
 |r1 (r0_0:Int) (r0_1:List Mould) (r0_2:List Head) (r0_3:List Int) (r0_4:List Claim) (r0_29:List Int)
def T97(x:Case):P97->Tr P97 R97
 |.e=>let c1:List V:=[iI x.shop.features,tMould.lst x.shop.moulds,tHead.lst x.shop.heads,tint.lst x.owners,tClaim.lst x.claims,fG 170 [rR (fF 159)],fF 171,fF 172,fF 173,fG 162 [rR (fF 159)],fF 163,fF 160,fG 164 [rR (fF 174)],fG 162 [rR (fF 159)],fF 163,fF 160,fG 164 [rR (fF 175)],fG 162 [rR (fF 159)],fF 163,fF 160,fG 164 [rR (fF 176)],fF 166,fF 167,fF 168,fG 169 [rR (fF 177)],fF 166,fF 167,fF 168,fG 169 [rR (fF 178)],.nils];let c2:List V:=[fG 170 [rR (fF 159)],fF 171,fF 172,fF 173,fG 162 [rR (fF 159)],fF 163,fF 160,fG 164 [rR (fF 174)],fG 162 [rR (fF 159)],fF 163,fF 160,fG 164 [rR (fF 175)],fG 162 [rR (fF 159)],fF 163,fF 160,fG 164 [rR (fF 176)],fF 166,fF 167,fF 168,fG 169 [rR (fF 177)],fF 166,fF 167,fF 168,fG 169 [rR (fF 178)]];let c3:List V:=[.agg (cC x),.ref 0 0 0,.nil,.ref 2 0 0,.ref 4 0 0,.ref 5 0 0,uU,uU,uU,uU,.agg (cC x),.agg c2,.agg c1,.ref 1 0 0,.map 3,.ref 1 0 0,fG 139 [.ref 6 0 0],uU,uU,uU,uU,uU,uU,uU,uU,uU,uU,uU,uU,uU,uU,uU,uU,uU,uU,uU,uU,uU,uU,uU,uU,uU,uU,uU,uU,uU,uU,uU,uU,uU,uU,uU,uU,uU,uU,uU,uU,uU,uU,uU,uU,uU];let c5:List V:=[.ref 1 0 0];let c4:List Blk:=[.cells (cC x),.cells c1,.cells c5,.obj (mobj (metM x)),.cells [.map 3],.rows 130 2 4 (rowsFn tCast (lastM x)),.cells c5,.obj (.deferred (some []))];(.front [(1,122,[],.agg c2)] [] true true (.sem (opAt Tryz.f97 2 0) [] [.cells (cC x),.cells c1,.cells c5] (.map 3) [.cells (cC x),.cells c1,.cells c5,.obj (mobj [])] true (.wait 2 (.telb 5 2 4 (fun _ j=>([iI 0,iI 0]:List V).getD j uU) (rowsFn tCast (fun _=>tCast.zero)) (.hcall 94 c5 (fG 139 [.ref 6 0 0]) [.cells (cC x),.cells c1,.cells c5,.obj (mobj []),.cells [.map 3],.rows 130 2 4 (rowsFn tCast (fun _=>tCast.zero))] [.cells (cC x),.cells c1,.cells c5,.obj (mobj []),.cells [.map 3],.rows 130 2 4 (rowsFn tCast (fun _=>tCast.zero)),.cells c5] true (.wait 1 (.over (rangeOf Tryz.f97) ⟨c3,[.cells (cC x),.cells c1,.cells c5,.obj (mobj []),.cells [.map 3],.rows 130 2 4 (rowsFn tCast (fun _=>tCast.zero)),.cells c5],[]⟩ .normal ⟨c3,c4,[7]⟩ true (.sem (opAt Tryz.f97 13 1) [(.tmp 40,.map 3)] c4 (.ref 8 0 0) [.cells (cC x),.cells c1,.cells c5,.obj (mobj (metM x)),.cells [.map 3],.rows 130 2 4 (rowsFn tCast (lastM x)),.cells c5,.obj (.deferred (some [])),.iter (.map 3) ((metM x).length) (#[])] true (.go (.l1))))))))))
 |.l1=>let c1:List V:=[iI x.shop.features,tMould.lst x.shop.moulds,tHead.lst x.shop.heads,tint.lst x.owners,tClaim.lst x.claims,fG 170 [rR (fF 159)],fF 171,fF 172,fF 173,fG 162 [rR (fF 159)],fF 163,fF 160,fG 164 [rR (fF 174)],fG 162 [rR (fF 159)],fF 163,fF 160,fG 164 [rR (fF 175)],fG 162 [rR (fF 159)],fF 163,fF 160,fG 164 [rR (fF 176)],fF 166,fF 167,fF 168,fG 169 [rR (fF 177)],fF 166,fF 167,fF 168,fG 169 [rR (fF 178)],.nils];let c3:=leftM (metM x).length (#[]);let c4:=(metM x).length;let c5:=mobj (metM x);let c2:List Blk:=[.gone,.cells c1,.cells [.ref 1 0 0],.obj c5,.gone,.gone,.gone,.obj (.deferred (some [])),.iter (.map 3) c4 (#[])];(.wait 1 (.cas (decide (leftM (metM x).length (#[])≠ [])) (.semn (opAt Tryz.f97 14 0) [(.tmp 41,.ref 8 0 0)] c2 (c3.length) (fun j=>.tuple [.bool true,iI (((metM x).getD (c3.getD j 0) (0,0)).1),iI (((metM x).getD (c3.getD j 0) (0,0)).2)]) (fun j=>[.gone,.cells c1,.cells [.ref 1 0 0],.obj c5,.gone,.gone,.gone,.obj (.deferred (some [])),.iter (.map 3) c4 ((#[]).push (c3.getD j 0))]) true (fun j=>(.lit true (.sem (opAt Tryz.f97 15 0) [(.tmp 41,.ref 8 0 0)] [.gone,.cells c1,.cells [.ref 1 0 0],.obj c5,.gone,.gone,.gone,.obj (.deferred (some [])),.iter (.map 3) c4 ((#[]).push (c3.getD j 0))] (.tuple [iI (((metM x).getD (c3.getD j 0) (0,0)).1),iI (((metM x).getD (c3.getD j 0) (0,0)).2)]) [.gone,.cells c1,.cells [.ref 1 0 0],.obj c5,.gone,.gone,.gone,.obj (.deferred (some [])),.iter (.map 3) c4 ((#[]).push (c3.getD j 0))] true (.front [] [] (((decide (1<=4294967296)&&(List.range 1).all fun r=>(List.range 1).all fun j=>((litC 1 1 [iI (((metM x).getD (c3.getD j 0) (0,0)).1)]) r j).scalar)&&true)&&true) true (.wait 1 (.telb 9 1 1 (litC 1 1 [iI (((metM x).getD (c3.getD j 0) (0,0)).1)]) (rowsRev tint ([((metM x).getD (c3.getD j 0) (0,0)).1])) (.go (.l101 ((#[]).push (c3.getD j 0)) ([((metM x).getD (c3.getD j 0) (0,0)).1])))))))))) (.sem (opAt Tryz.f97 14 0) [(.tmp 41,.ref 8 0 0)] c2 (.tuple [.bool false]) c2 true (.lit false (.hcall 145 [.nils] (.tuple []) c2 c2 true (.out (.r0 x.shop.features x.shop.moulds x.shop.heads x.owners x.claims)))))))
 |.l101 i101_8 a101_9=>let c2:=leftM (metM x).length i101_8;let c4:List V:=[rR (fF 159)];let c1:List V:=[iI x.shop.features,tMould.lst x.shop.moulds,tHead.lst x.shop.heads,tint.lst x.owners,tClaim.lst x.claims,.func (.func 170) [] c4,fF 171,fF 172,fF 173,.func (.func 162) [] c4,fF 163,fF 160,fG 164 [rR (fF 174)],.func (.func 162) [] c4,fF 163,fF 160,fG 164 [rR (fF 175)],.func (.func 162) [] c4,fF 163,fF 160,fG 164 [rR (fF 176)],fF 166,fF 167,fF 168,fG 169 [rR (fF 177)],fF 166,fF 167,fF 168,fG 169 [rR (fF 178)],.row 9 a101_9.length];let c5:=sortZ a101_9.reverse;let c6:=(metM x).length;let c7:=mobj (metM x);let c8:=rowsRev tint a101_9;let c9:=(decide (a101_9.length<=a101_9.length))&&true;let c10:List V:=[.ref 1 0 0];let c3:List Blk:=[.gone,.cells c1,.cells c10,.obj c7,.gone,.gone,.gone,.obj (.deferred (some [])),.iter (.map 3) c6 i101_8,.rows 3 1 a101_9.length c8];let c11:=a101_9.length+1;let c12:=rowsOf tint c5;(.wait 1 (.cas (decide (leftM (metM x).length i101_8≠ [])) (.semn (opAt Tryz.f97 14 0) [(.tmp 41,.ref 8 0 0)] c3 (c2.length) (fun j=>.tuple [.bool true,iI (((metM x).getD (c2.getD j 0) (0,0)).1),iI (((metM x).getD (c2.getD j 0) (0,0)).2)]) (fun j=>[.gone,.cells c1,.cells c10,.obj c7,.gone,.gone,.gone,.obj (.deferred (some [])),.iter (.map 3) c6 (i101_8.push (c2.getD j 0)),.rows 3 1 a101_9.length c8]) true (fun j=>(.lit true (.sem (opAt Tryz.f97 15 0) [(.tmp 41,.ref 8 0 0)] [.gone,.cells c1,.cells c10,.obj c7,.gone,.gone,.gone,.obj (.deferred (some [])),.iter (.map 3) c6 (i101_8.push (c2.getD j 0)),.rows 3 1 a101_9.length c8] (.tuple [iI (((metM x).getD (c2.getD j 0) (0,0)).1),iI (((metM x).getD (c2.getD j 0) (0,0)).2)]) [.gone,.cells c1,.cells c10,.obj c7,.gone,.gone,.gone,.obj (.deferred (some [])),.iter (.map 3) c6 (i101_8.push (c2.getD j 0)),.rows 3 1 a101_9.length c8] true (.over (regionOf Tryz.f97 16) ⟨[uU,uU,uU,.ref 2 0 0,uU,uU,uU,uU,uU,iI (((metM x).getD (c2.getD j 0) (0,0)).1),uU,uU,uU,uU,uU,uU,uU,uU,uU,uU,uU,uU,uU,uU,uU,uU,uU,uU,uU,uU,uU,uU,uU,uU,uU,uU,uU,uU,uU,uU,uU,.ref 8 0 0,.tuple [.bool true,iI (((metM x).getD (c2.getD j 0) (0,0)).1),iI (((metM x).getD (c2.getD j 0) (0,0)).2)],.bool true,.tuple [iI (((metM x).getD (c2.getD j 0) (0,0)).1),iI (((metM x).getD (c2.getD j 0) (0,0)).2)],iI (((metM x).getD (c2.getD j 0) (0,0)).1),uU,uU,uU,uU,uU,uU,uU,uU,uU,uU,uU,uU,uU,uU,uU,uU],[.gone,.cells c1,.cells c10,.obj c7,.gone,.gone,.gone,.obj (.deferred (some [])),.iter (.map 3) c6 (i101_8.push (c2.getD j 0)),.rows 3 1 a101_9.length c8],[7]⟩ .normal ⟨[uU,uU,uU,.ref 2 0 0,uU,uU,uU,uU,uU,iI (((metM x).getD (c2.getD j 0) (0,0)).1),uU,uU,uU,uU,uU,uU,uU,uU,uU,uU,uU,uU,uU,uU,uU,uU,uU,uU,uU,uU,uU,uU,uU,uU,uU,uU,uU,uU,uU,uU,uU,.ref 8 0 0,.tuple [.bool true,iI (((metM x).getD (c2.getD j 0) (0,0)).1),iI (((metM x).getD (c2.getD j 0) (0,0)).2)],.bool true,.tuple [iI (((metM x).getD (c2.getD j 0) (0,0)).1),iI (((metM x).getD (c2.getD j 0) (0,0)).2)],iI (((metM x).getD (c2.getD j 0) (0,0)).1),.ref 1 0 0,.ref 1 0 0,.ref 1 0 0,.ref 1 0 29,uU,iI (((metM x).getD (c2.getD j 0) (0,0)).1),.row 10 1,.row 9 c11,.ref 1 0 0,.ref 1 0 29,uU,uU,uU,uU,uU,uU],[.gone,.cells [iI x.shop.features,tMould.lst x.shop.moulds,tHead.lst x.shop.heads,tint.lst x.owners,tClaim.lst x.claims,.func (.func 170) [] c4,fF 171,fF 172,fF 173,.func (.func 162) [] c4,fF 163,fF 160,fG 164 [rR (fF 174)],.func (.func 162) [] c4,fF 163,fF 160,fG 164 [rR (fF 175)],.func (.func 162) [] c4,fF 163,fF 160,fG 164 [rR (fF 176)],fF 166,fF 167,fF 168,fG 169 [rR (fF 177)],fF 166,fF 167,fF 168,fG 169 [rR (fF 178)],.row 9 c11],.cells c10,.obj c7,.gone,.gone,.gone,.obj (.deferred (some [])),.iter (.map 3) c6 (i101_8.push (c2.getD j 0)),.rows 3 1 c11 (rowsRev tint (((metM x).getD (c2.getD j 0) (0,0)).1::a101_9)),.rows 3 1 1 (litC 1 1 [iI (((metM x).getD (c2.getD j 0) (0,0)).1)])],[7]⟩ true (.wait 1 (.telb 10 1 1 (litC 1 1 [iI (((metM x).getD (c2.getD j 0) (0,0)).1)]) (rowsRev tint ([((metM x).getD (c2.getD j 0) (0,0)).1])) (.go (.l101 (i101_8.push (c2.getD j 0)) (((metM x).getD (c2.getD j 0) (0,0)).1::a101_9)))))))))) (.sem (opAt Tryz.f97 14 0) [(.tmp 41,.ref 8 0 0)] c3 (.tuple [.bool false]) c3 true (.lit false (.hcall 145 [.row 9 a101_9.length] (.tuple []) c3 [.gone,.cells c1,.cells c10,.obj c7,.gone,.gone,.gone,.obj (.deferred (some [])),.iter (.map 3) c6 i101_8,.rows 3 1 a101_9.length c12] true (.wait 2 (.frz 9 (c9&&(c9&&true)) (.vle 59 (.list 1 a101_9.length c12) (tint.lst c5) (.telc 1 [iI x.shop.features,tMould.lst x.shop.moulds,tHead.lst x.shop.heads,tint.lst x.owners,tClaim.lst x.claims,.func (.func 170) [] c4,fF 171,fF 172,fF 173,.func (.func 162) [] c4,fF 163,fF 160,fG 164 [rR (fF 174)],.func (.func 162) [] c4,fF 163,fF 160,fG 164 [rR (fF 175)],.func (.func 162) [] c4,fF 163,fF 160,fG 164 [rR (fF 176)],fF 166,fF 167,fF 168,fG 169 [rR (fF 177)],fF 166,fF 167,fF 168,fG 169 [rR (fF 178)],.list 1 a101_9.length c12] [iI x.shop.features,tMould.lst x.shop.moulds,tHead.lst x.shop.heads,tint.lst x.owners,tClaim.lst x.claims,.func (.func 170) [] c4,fF 171,fF 172,fF 173,.func (.func 162) [] c4,fF 163,fF 160,fG 164 [rR (fF 174)],.func (.func 162) [] c4,fF 163,fF 160,fG 164 [rR (fF 175)],.func (.func 162) [] c4,fF 163,fF 160,fG 164 [rR (fF 176)],fF 166,fF 167,fF 168,fG 169 [rR (fF 177)],fF 166,fF 167,fF 168,fG 169 [rR (fF 178)],tint.lst c5] (.out (.r1 x.shop.features x.shop.moulds x.shop.heads x.owners x.claims c5)))))))))))
noncomputable def g97(x:Case):P97->List Item × St
 |.e=>bd Tryz.f97 [.agg (cC x)] 61
 |.l1=>(cutOf Tryz.f97 0,⟨mk 62 [(3,.ref 2 0 0),(41,.ref 8 0 0)],[.gone,.cells [iI x.shop.features,tMould.lst x.shop.moulds,tHead.lst x.shop.heads,tint.lst x.owners,tClaim.lst x.claims,fG 170 [rR (fF 159)],fF 171,fF 172,fF 173,fG 162 [rR (fF 159)],fF 163,fF 160,fG 164 [rR (fF 174)],fG 162 [rR (fF 159)],fF 163,fF 160,fG 164 [rR (fF 175)],fG 162 [rR (fF 159)],fF 163,fF 160,fG 164 [rR (fF 176)],fF 166,fF 167,fF 168,fG 169 [rR (fF 177)],fF 166,fF 167,fF 168,fG 169 [rR (fF 178)],.nils],.cells [.ref 1 0 0],.obj (mobj (metM x)),.gone,.gone,.gone,.obj (.deferred (some [])),.iter (.map 3) ((metM x).length) (#[])],[7]⟩)
 |.l101 i101_8 a101_9=>(cutOf Tryz.f97 0,⟨mk 62 [(3,.ref 2 0 0),(41,.ref 8 0 0)],[.gone,.cells [iI x.shop.features,tMould.lst x.shop.moulds,tHead.lst x.shop.heads,tint.lst x.owners,tClaim.lst x.claims,fG 170 [rR (fF 159)],fF 171,fF 172,fF 173,fG 162 [rR (fF 159)],fF 163,fF 160,fG 164 [rR (fF 174)],fG 162 [rR (fF 159)],fF 163,fF 160,fG 164 [rR (fF 175)],fG 162 [rR (fF 159)],fF 163,fF 160,fG 164 [rR (fF 176)],fF 166,fF 167,fF 168,fG 169 [rR (fF 177)],fF 166,fF 167,fF 168,fG 169 [rR (fF 178)],.row 9 a101_9.length],.cells [.ref 1 0 0],.obj (mobj (metM x)),.gone,.gone,.gone,.obj (.deferred (some [])),.iter (.map 3) ((metM x).length) i101_8,.rows 3 1 a101_9.length (rowsRev tint a101_9)],[7]⟩)
def n97:R97->Exit × St
 |.r0 r0_0 r0_1 r0_2 r0_3 r0_4=>(.ret,⟨mk 62 [(2,.ref 1 0 0)],[.gone,.cells [iI r0_0,tMould.lst r0_1,tHead.lst r0_2,tint.lst r0_3,tClaim.lst r0_4,fG 170 [rR (fF 159)],fF 171,fF 172,fF 173,fG 162 [rR (fF 159)],fF 163,fF 160,fG 164 [rR (fF 174)],fG 162 [rR (fF 159)],fF 163,fF 160,fG 164 [rR (fF 175)],fG 162 [rR (fF 159)],fF 163,fF 160,fG 164 [rR (fF 176)],fF 166,fF 167,fF 168,fG 169 [rR (fF 177)],fF 166,fF 167,fF 168,fG 169 [rR (fF 178)],.nils],.gone,.gone,.gone,.gone,.gone,.obj (.deferred (some []))],[7]⟩)
 |.r1 r0_0 r0_1 r0_2 r0_3 r0_4 r0_29=>(.ret,⟨mk 62 [(2,.ref 1 0 0)],[.gone,.cells [iI r0_0,tMould.lst r0_1,tHead.lst r0_2,tint.lst r0_3,tClaim.lst r0_4,fG 170 [rR (fF 159)],fF 171,fF 172,fF 173,fG 162 [rR (fF 159)],fF 163,fF 160,fG 164 [rR (fF 174)],fG 162 [rR (fF 159)],fF 163,fF 160,fG 164 [rR (fF 175)],fG 162 [rR (fF 159)],fF 163,fF 160,fG 164 [rR (fF 176)],fF 166,fF 167,fF 168,fG 169 [rR (fF 177)],fF 166,fF 167,fF 168,fG 169 [rR (fF 178)],tint.lst r0_29],.gone,.gone,.gone,.gone,.gone,.obj (.deferred (some []))],[7]⟩)
def v97:R97->V
 |.r0 r0_0 r0_1 r0_2 r0_3 r0_4=>.cref 30 fun q=>([iI r0_0,tMould.lst r0_1,tHead.lst r0_2,tint.lst r0_3,tClaim.lst r0_4,fG 170 [rR (fF 159)],fF 171,fF 172,fF 173,fG 162 [rR (fF 159)],fF 163,fF 160,fG 164 [rR (fF 174)],fG 162 [rR (fF 159)],fF 163,fF 160,fG 164 [rR (fF 175)],fG 162 [rR (fF 159)],fF 163,fF 160,fG 164 [rR (fF 176)],fF 166,fF 167,fF 168,fG 169 [rR (fF 177)],fF 166,fF 167,fF 168,fG 169 [rR (fF 178)],.nils]:List V).getD q uU
 |.r1 r0_0 r0_1 r0_2 r0_3 r0_4 r0_29=>.cref 30 fun q=>([iI r0_0,tMould.lst r0_1,tHead.lst r0_2,tint.lst r0_3,tClaim.lst r0_4,fG 170 [rR (fF 159)],fF 171,fF 172,fF 173,fG 162 [rR (fF 159)],fF 163,fF 160,fG 164 [rR (fF 174)],fG 162 [rR (fF 159)],fF 163,fF 160,fG 164 [rR (fF 175)],fG 162 [rR (fF 159)],fF 163,fF 160,fG 164 [rR (fF 176)],fF 166,fF 167,fF 168,fG 169 [rR (fF 177)],fF 166,fF 167,fF 168,fG 169 [rR (fF 178)],tint.lst r0_29]:List V).getD q uU
theorem s97(x:Case):Sm 0 (g97 x) (T97 x) (n97)
 |.e=>⟨400,by kernel_rfl⟩
 |.l1=>⟨400,by kernel_rfl⟩
 |.l101 _ _=>⟨400,by kernel_rfl⟩
theorem q97:∀r,bodyQ Tryz.prog Tryz.f97 (·=v97 r) (n97 r).1 (n97 r).2
 |.r0 r0_0 r0_1 r0_2 r0_3 r0_4=>⟨.inr rfl,by simp[n97],(.ref 1 0 0),(.cref 30 fun q=>([iI r0_0,tMould.lst r0_1,tHead.lst r0_2,tint.lst r0_3,tClaim.lst r0_4,fG 170 [rR (fF 159)],fF 171,fF 172,fF 173,fG 162 [rR (fF 159)],fF 163,fF 160,fG 164 [rR (fF 174)],fG 162 [rR (fF 159)],fF 163,fF 160,fG 164 [rR (fF 175)],fG 162 [rR (fF 159)],fF 163,fF 160,fG 164 [rR (fF 176)],fF 166,fF 167,fF 168,fG 169 [rR (fF 177)],fF 166,fF 167,fF 168,fG 169 [rR (fF 178)],.nils]:List V).getD q uU),by kernel_rfl,(.weak (.ref (n:=30) rfl (Nat.le_refl _) (by intro j hj;match j,hj with|0,_=>exact .imm rfl|1,_=>exact .imm rfl|2,_=>exact .imm rfl|3,_=>exact .imm rfl|4,_=>exact .imm rfl|5,_=>exact .imm rfl|6,_=>exact .imm rfl|7,_=>exact .imm rfl|8,_=>exact .imm rfl|9,_=>exact .imm rfl|10,_=>exact .imm rfl|11,_=>exact .imm rfl|12,_=>exact .imm rfl|13,_=>exact .imm rfl|14,_=>exact .imm rfl|15,_=>exact .imm rfl|16,_=>exact .imm rfl|17,_=>exact .imm rfl|18,_=>exact .imm rfl|19,_=>exact .imm rfl|20,_=>exact .imm rfl|21,_=>exact .imm rfl|22,_=>exact .imm rfl|23,_=>exact .imm rfl|24,_=>exact .imm rfl|25,_=>exact .imm rfl|26,_=>exact .imm rfl|27,_=>exact .imm rfl|28,_=>exact .imm rfl|29,_=>exact .imm rfl|j_+30,hj_=>exact absurd hj_ (Nat.not_lt.2 (Nat.le_add_left 30 j_)))) (VLe.refl _)),rfl⟩
 |.r1 r0_0 r0_1 r0_2 r0_3 r0_4 r0_29=>⟨.inr rfl,by simp[n97],(.ref 1 0 0),(.cref 30 fun q=>([iI r0_0,tMould.lst r0_1,tHead.lst r0_2,tint.lst r0_3,tClaim.lst r0_4,fG 170 [rR (fF 159)],fF 171,fF 172,fF 173,fG 162 [rR (fF 159)],fF 163,fF 160,fG 164 [rR (fF 174)],fG 162 [rR (fF 159)],fF 163,fF 160,fG 164 [rR (fF 175)],fG 162 [rR (fF 159)],fF 163,fF 160,fG 164 [rR (fF 176)],fF 166,fF 167,fF 168,fG 169 [rR (fF 177)],fF 166,fF 167,fF 168,fG 169 [rR (fF 178)],tint.lst r0_29]:List V).getD q uU),by kernel_rfl,(.weak (.ref (n:=30) rfl (Nat.le_refl _) (by intro j hj;match j,hj with|0,_=>exact .imm rfl|1,_=>exact .imm rfl|2,_=>exact .imm rfl|3,_=>exact .imm rfl|4,_=>exact .imm rfl|5,_=>exact .imm rfl|6,_=>exact .imm rfl|7,_=>exact .imm rfl|8,_=>exact .imm rfl|9,_=>exact .imm rfl|10,_=>exact .imm rfl|11,_=>exact .imm rfl|12,_=>exact .imm rfl|13,_=>exact .imm rfl|14,_=>exact .imm rfl|15,_=>exact .imm rfl|16,_=>exact .imm rfl|17,_=>exact .imm rfl|18,_=>exact .imm rfl|19,_=>exact .imm rfl|20,_=>exact .imm rfl|21,_=>exact .imm rfl|22,_=>exact .imm rfl|23,_=>exact .imm rfl|24,_=>exact .imm rfl|25,_=>exact .imm rfl|26,_=>exact .imm rfl|27,_=>exact .imm rfl|28,_=>exact .imm rfl|29,_=>exact .imm rfl|j_+30,hj_=>exact absurd hj_ (Nat.not_lt.2 (Nat.le_add_left 30 j_)))) (VLe.refl _)),rfl⟩
theorem w97(x:Case){post:V->Prop}(h:WQ (T97 x) v97 post .e):PC 97 [.agg (cC x)] post:=
 PCalls.wq Tryz.func97 (s97 x) q97 h
end
noncomputable section
theorem nodup_len{α:Type}[DecidableEq α]:∀ {l r:List α},l.Nodup->(∀x∈l,x∈r)->l.length<=r.length
 |[],_,_,_=>Nat.zero_le _
 |a::l,r,hn,hs=>by
  have ha:=hs a (List.mem_cons_self ..);have h1:=List.nodup_cons.1 hn;have:=nodup_len (l:=l) (r:=r.erase a) h1.2 fun x hx=>(List.mem_erase_of_ne (fun(e:x=a)=>h1.1 (e▸hx))).2 (hs x (List.mem_cons_of_mem _ hx));rw[List.length_erase_of_mem ha]at this;have:=List.length_pos_of_mem ha;rw[List.length_cons];omega
theorem nodup_lenN{n:Nat}{l:List Nat}(hn:l.Nodup)(hs:∀x∈l,x<n):l.length<=n:=by
 have:=nodup_len (r:=List.range n) hn fun x hx=>List.mem_range.2 (hs x hx);rwa[List.length_range]at this
def keyAt(M:List (Int × Int))(i:Nat):Int:=(M.getD i (0,0)).1
def Walk(M:List (Int × Int))(p:Array Nat × List Int):Prop:=p.1.toList.Nodup/\(∀i∈p.1.toList,i<M.length)/\p.2=(p.1.toList.map (keyAt M)).reverse
theorem Walk.nil(M:List (Int × Int)):Walk M (#[],[]):=⟨List.nodup_nil,fun _ h=>absurd h List.not_mem_nil,rfl⟩
theorem left_mem'{n:Nat}{seen:Array Nat}{j:Nat}(h:j<(leftM n seen).length):(leftM n seen).getD j 0<n/\(leftM n seen).getD j 0∉seen.toList:=by
 have:(leftM n seen).getD j 0∈leftM n seen:=by rw[gE,List.getElem?_eq_getElem h];exact List.getElem_mem h
 have:=List.mem_filter.1 this;refine⟨List.mem_range.1 this.1,fun hm=> ?_⟩;have h2:=this.2;rw[Array.contains_iff_mem.2 (Array.mem_toList_iff.1 hm)]at h2;cases h2
theorem Walk.push{M:List (Int × Int)}{seen:Array Nat}{acc:List Int}(h:Walk M (seen,acc)){j:Nat}(hj:j<(leftM M.length seen).length):Walk M (seen.push ((leftM M.length seen).getD j 0),keyAt M ((leftM M.length seen).getD j 0)::acc):=by
 obtain⟨h1,h2,h3⟩:=h;obtain⟨g1,g2⟩:=left_mem' hj;refine⟨?_,?_,?_⟩
 ·simp only[Array.toList_push];rw[List.nodup_append];exact⟨h1,by simp,fun a ha b hb=>by rw[List.mem_singleton]at hb;subst hb;exact fun e=>g2 (e▸ha)⟩
 ·simp only[Array.toList_push,List.mem_append,List.mem_singleton];rintro i (hi|rfl)
  ·exact h2 i hi
  ·exact g1
 ·simp only at h3;simp only[Array.toList_push,List.map_append,List.reverse_append,h3];rfl
theorem Walk.size{M:List (Int × Int)}{p:Array Nat × List Int}(h:Walk M p):p.1.size<=M.length:=by
 have:=nodup_lenN h.1 h.2.1;simpa using this
theorem keyAt_mem{M:List (Int × Int)}{i:Nat}(h:i<M.length):keyAt M i∈keysL M:=by
 unfold keyAt keysL;rw[gE,List.getElem?_eq_getElem h];exact List.mem_map.2 ⟨_,List.getElem_mem h,rfl⟩
theorem keyAt_inj{M:List (Int × Int)}(hn:(keysL M).Nodup){i j:Nat}(hi:i<M.length)(hj:j<M.length)(e:keyAt M i=keyAt M j):i=j:=by
 have a:∀ {i},i<M.length->(keysL M)[i]? =some (keyAt M i):=fun {i} h=>by
  unfold keyAt keysL;rw[List.getElem?_map,gE,List.getElem?_eq_getElem h];rfl
 have hi':i<(keysL M).length:=by unfold keysL;rw[List.length_map];exact hi
 have hj':j<(keysL M).length:=by unfold keysL;rw[List.length_map];exact hj
 have g:(keysL M)[i]=(keysL M)[j]:=by
  have h1:=a hi;have h2:=a hj;rw[List.getElem?_eq_getElem hi']at h1;rw[List.getElem?_eq_getElem hj']at h2;rw[Option.some.inj h1,Option.some.inj h2,e]
 have hp:=List.pairwise_iff_getElem.1 hn;rcases Nat.lt_trichotomy i j with q|q|q
 ·exact absurd g (hp i j hi' hj' q)
 ·exact q
 ·exact absurd g.symm (hp j i hj' hi' q)
theorem Walk.mem{M:List (Int × Int)}{p:Array Nat × List Int}(h:Walk M p):∀x∈p.2,x∈keysL M:=fun x hx=>by
 rw[h.2.2,List.mem_reverse,List.mem_map]at hx;obtain⟨i,hi,rfl⟩:=hx;exact keyAt_mem (h.2.1 i hi)
theorem nodup_rev{α:Type}{l:List α}(h:l.Nodup):l.reverse.Nodup:=List.pairwise_reverse.2 (h.imp fun h e=>h e.symm)
theorem Walk.nodup{M:List (Int × Int)}(hn:(keysL M).Nodup){p:Array Nat × List Int}(h:Walk M p):p.2.Nodup:=by
 rw[h.2.2];refine nodup_rev ?_;rw[List.Nodup,List.pairwise_map];have h1:=h.1;have:p.1.toList.Pairwise fun a b=>a<M.length/\b<M.length/\a≠b:=List.Pairwise.imp_of_mem (fun ha hb hab=>⟨h.2.1 _ ha,h.2.1 _ hb,hab⟩) h1;exact this.imp fun⟨a,b,c⟩ e=>c (keyAt_inj hn a b e)
theorem Walk.done{M:List (Int × Int)}{p:Array Nat × List Int}(h:Walk M p)(h0:leftM M.length p.1=[]):∀x,x∈p.2↔x∈keysL M:=fun x=>by
 refine⟨h.mem x,fun hx=> ?_⟩;rw[h.2.2,List.mem_reverse];obtain⟨e,he,rfl⟩:=List.mem_map.1 hx;obtain⟨i,hi,rfl⟩:=List.getElem_of_mem he;refine List.mem_map.2 ⟨i,?_,by unfold keyAt;rw[gE,List.getElem?_eq_getElem hi];rfl⟩;have:=List.filter_eq_nil_iff.1 h0 i (List.mem_range.2 hi);rw[Bool.not_eq_true',Bool.not_eq_false,Array.contains_iff_mem]at this;exact Array.mem_toList_iff.2 this
theorem Walk.len{x:Case}(h:OkCase x){p:Array Nat × List Int}(hw:Walk (metM x) p):p.2.length<=32:=by
 have hk:=metM_keys h;exact Nat.le_trans (nodup_len (hw.nodup hk.1) fun y hy=>(hk.2 y).1 (hw.mem y hy)) (caseSets_le x)
theorem Walk.sorted{x:Case}(h:OkCase x){p:Array Nat × List Int}(hw:Walk (metM x) p)(h0:leftM (metM x).length p.1=[]):sortZ p.2.reverse=caseSets x:=by
 have hk:=metM_keys h;exact sorted_keys h (nodup_rev (hw.nodup hk.1)) fun y=>by rw[List.mem_reverse];exact hw.done h0 y
theorem sem_make97(h:List Blk):SemOK Tryz.prog (opAt Tryz.f97 2 0) [] h (.map h.length) (h++ [.obj (mobj [])]):=by
 have e:opAt Tryz.f97 2 0=.makeMap 188 none:=by kernel_rfl
 rw[e];exact sem_makeMap 188
theorem sem_range97(h:List Blk)(M:List (Int × Int))(hq:h[3]? =some (.obj (mobj M))):SemOK Tryz.prog (opAt Tryz.f97 13 1) [(.tmp 40,.map 3)] h (.ref h.length 0 0) (h++ [.iter (.map 3) M.length #[]]):=by
 have e:opAt Tryz.f97 13 1=.range 188 (.tmp 40):=by kernel_rfl
 rw[e];exact sem_range (kt:=3) (et:=3) (by kernel_rfl) hq
theorem sem_next97(h:List Blk)(M:List (Int × Int))(seen:Array Nat)(hq:h[3]? =some (.obj (mobj M)))(hi:h[8]? =some (.iter (.map 3) M.length seen))(h0:leftM M.length seen≠ []):
  SemAny Tryz.prog (opAt Tryz.f97 14 0) [(.tmp 41,.ref 8 0 0)] h (leftM M.length seen).length (fun j=>.tuple [.bool true,iI (M.getD ((leftM M.length seen).getD j 0) (0,0)).1,iI (M.getD ((leftM M.length seen).getD j 0) (0,0)).2])
   (fun j=>h.set 8 (.iter (.map 3) M.length (seen.push ((leftM M.length seen).getD j 0)))):=by
 have e:opAt Tryz.f97 14 0=.next (.tmp 41) false:=by kernel_rfl
 rw[e];exact sem_next1 hq hi h0
theorem sem_next97'(h:List Blk)(M:List (Int × Int))(seen:Array Nat)(hq:h[3]? =some (.obj (mobj M)))(hi:h[8]? =some (.iter (.map 3) M.length seen))(h0:leftM M.length seen=[]):
  SemOK Tryz.prog (opAt Tryz.f97 14 0) [(.tmp 41,.ref 8 0 0)] h (.tuple [.bool false]) h:=by
 have e:opAt Tryz.f97 14 0=.next (.tmp 41) false:=by kernel_rfl
 rw[e];exact sem_next0 hq hi h0
theorem sem_entry97(h:List Blk)(M:List (Int × Int))(seen:Array Nat)(j:Nat)(hq:h[3]? =some (.obj (mobj M)))(hi:h[8]? =some (.iter (.map 3) M.length (seen.push j)))(hj:j<M.length):
  SemOK Tryz.prog (opAt Tryz.f97 15 0) [(.tmp 41,.ref 8 0 0)] h (.tuple [iI (M.getD j (0,0)).1,iI (M.getD j (0,0)).2]) h:=by
 have e:opAt Tryz.f97 15 0=.entry (.tmp 41):=by kernel_rfl
 rw[e];exact sem_entry hq hi (by simp) hj
theorem c145n(h:List Blk):HCalls Tryz.prog 145 [.nils] (.tuple []) h h:=by
 refine⟨PCalls.enters Tryz.func145 (c:=Tryz.f145.body.getD .skip) (by kernel_rfl) (by kernel_rfl),fun β G K w xs r hl hr=> ?_⟩;obtain⟨v,rfl,hv⟩:=arg1 hl hr
 cases hv with
 |nils=>
  refine(Tryz.slices_Sort_int_none _ 0 w).mono ?_;rintro e' w' ⟨rfl,rfl⟩
  exact⟨_,β,G,K,rfl,Homes.le_refl _,G.ext_refl K,K.le_refl,r,.tuple rfl fun j hj=>absurd hj (Nat.not_lt_zero _)⟩
theorem telc_last(a:List V)(u v:V)(hv:VLe u v)(j:Nat):VLe ((a++ [u]).getD j uU) ((a++ [v]).getD j uU):=by
 rcases Nat.lt_or_ge j a.length with q|q
 ·rw[getD_append_left q,getD_append_left q];exact VLe.refl _
 ·rw[getD_append_right q,getD_append_right q]
  match j-a.length with
  |0=>exact hv
  |_+1=>exact VLe.refl _
theorem lit_rev1(k:Int){r j:Nat}(hr:r<1)(hj:j<1):VLe (litC 1 1 [iI k] r j) (rowsRev tint [k] r j):=by
 obtain rfl:r=0:=by omega
 obtain rfl:j=0:=by omega
 exact VLe.refl _
set_option maxHeartbeats 1000000 in
theorem c94l(x:Case):HCalls Tryz.prog 94 [.ref 1 0 0] (fG 139 [.ref 6 0 0]) [.cells (tCase.cells x),.cells (cellsC x .nils),.cells [.ref 1 0 0],.obj (mobj []),.cells [.map 3],.rows 130 2 4 (rowsFn tCast fun _=>zCast)]
  [.cells (tCase.cells x),.cells (cellsC x .nils),.cells [.ref 1 0 0],.obj (mobj []),.cells [.map 3],.rows 130 2 4 (rowsFn tCast fun _=>zCast),.cells [.ref 1 0 0]]:=by
 refine w94_l x (WP.step ?_);simp only[T94_l,Go,Ends',v94_l,Tr.sure,SS];repeat' with_reducible first|intro _|apply aI
 all_goals exact(Eq.refl _)
 all_goals rfl
set_option maxHeartbeats 4000000 in
theorem wl97(x:Case)(h:OkCase x){seen:Array Nat}{acc:List Int}(hw:Walk (metM x) (seen,acc)):WP Tryz.prog ⟨none,0⟩ (T97 x) (Ends' fun r=>v97 r=court x (caseSets x)) (.l101 seen acc):=by
 refine WP.while (T:=T97 x) (σ:=Array Nat × List Int) (fun p=>.l101 p.1 p.2) (fun p=>Walk (metM x) p) (fun p=>(metM x).length-p.1.size) (fun p hw=> ?_) (s:=(seen,acc)) hw;obtain⟨seen,acc⟩:=p;have hl:=hw.len h;have hk:acc.length+1<=4294967296:=by simp only at hl;omega
 by_cases hz:leftM (metM x).length seen=[]
 ·have hs:=hw.sorted h hz;simp only at hs;have hsl:acc.length=(sortZ acc.reverse).length:=by rw[sortZ_len,List.length_reverse]
  refine WP.once ?_;simp only[T97,Tr.sure,SS,hz];repeat' with_reducible first|intro _|apply aI
  all_goals first|exact(sem_next97' _ _ _ rfl rfl hz)|exact(c145r _ 9 acc rfl)|exact(VLe.same tint _ hsl)|(simp[hs,Go,Ends',v97,-List.getD_eq_getElem?_getD, *];done)|skip
  all_goals first
   |(exact telc_last (tCase.cells x++kindCells) _ _ (VLe.same tint _ hsl) _)
   |(refine .inr ?_;show v97 _=_;rw[hs];rfl)
 ·refine WP.once ?_;simp only[T97,Tr.sure,SS,hz];repeat' with_reducible first|intro _|apply aI
  all_goals first|exact(sem_next97 _ _ _ rfl rfl hz)|exact(over16 _ _ _ _ _ _ _ hk)|exact(sem_entry97 _ _ _ _ rfl rfl (left_mem' (by with_reducible assumption)).1)|exact(lit_rev1 _ (by with_reducible assumption) (by with_reducible assumption))|skip
  all_goals
   rename_i j hj;have hp:=hw.push hj;have hp2:=hp.size;refine .inl ⟨(_,_),rfl,hp,?_⟩;have hq:∀y,(seen.push y).size=seen.size+1:=fun y=>Array.size_push y;have hq2:seen.size<(seen.push ((leftM (metM x).length seen).getD j 0)).size:=by rw[hq];exact Nat.lt_succ_self _
   exact Nat.sub_lt_sub_left (Nat.lt_of_lt_of_le hq2 hp2) hq2
theorem scal1(k:Int):((List.range 1).all fun r=>(List.range 1).all fun j=>(litC 1 1 [iI k] r j).scalar)=true:=rfl
set_option maxHeartbeats 4000000 in
theorem c97(x:Case)(h:OkCase x):PC 97 [.agg (tCase.cells x)] (·=court x (caseSets x)):=by
 by_cases hz:leftM (metM x).length #[]=[]
 ·have hs:=(Walk.nil (metM x)).sorted h hz;simp only at hs;have h0:sortZ ([]:List Int).reverse=[]:=by unfold sortZ;rw[List.reverse_nil,List.mergeSort_nil]
  rw[<-hs,h0];refine PCalls.weakV (v:=courtN x) ?_ (courtN_le x)
  have hd:WP Tryz.prog ⟨none,0⟩ (T97 x) (Ends' fun r=>v97 r=courtN x) .l1:=by
   refine WP.step ?_;simp only[T97,Go,Ends',v97,Tr.sure,SS,hz];repeat' with_reducible first|intro _|apply aI
   all_goals first|exact(sem_next97' _ _ _ rfl rfl hz)|exact(c145n _)|exact(Eq.refl (courtN x))
  refine w97 x (WP.step ?_);simp only[T97,Go,Ends',v97,Tr.sure,SS];repeat' with_reducible first|intro _|apply aI
  all_goals first|exact c122a|exact(sem_make97 _)|exact(tel_zeroC _ _)|exact(c94l x)|exact(range97 x h _ rfl rfl rfl rfl rfl)|exact(sem_range97 _ _ rfl)|(simp_all [Go,Ends',v97,-List.getD_eq_getElem?_getD];done)
  all_goals first
   |exact hd
 ·have hd:WP Tryz.prog ⟨none,0⟩ (T97 x) (Ends' fun r=>v97 r=court x (caseSets x)) .l1:=by
   refine WP.step ?_;simp only[T97,Go,Ends',v97,Tr.sure,SS,hz];repeat' with_reducible first|intro _|apply aI
   all_goals first|exact(sem_next97 _ _ _ rfl rfl hz)|exact(sem_entry97 _ _ _ _ rfl rfl (left_mem' (by with_reducible assumption)).1)|exact(lit_rev1 _ (by with_reducible assumption) (by with_reducible assumption))|exact(scal1 _)|(simp[Go,Ends',v97,-List.getD_eq_getElem?_getD, *];done)|skip
   all_goals first
    |exact wl97 x h ((Walk.nil (metM x)).push (by with_reducible assumption))
  refine w97 x (WP.step ?_);simp only[T97,Go,Ends',v97,Tr.sure,SS];repeat' with_reducible first|intro _|apply aI
  all_goals first|exact c122a|exact(sem_make97 _)|exact(tel_zeroC _ _)|exact(c94l x)|exact(range97 x h _ rfl rfl rfl rfl rfl)|exact(sem_range97 _ _ rfl)|(simp_all [Go,Ends',v97,-List.getD_eq_getElem?_getD];done)
  all_goals first
   |exact hd
end
noncomputable section
def entP(x:Case)(e:Int):V:=if(truthsE x e).2=0 then court x (caseSets x)else .nil
inductive P63_f
 |e
inductive R63_f
 |r0 (r1:Int)
 |r1 (r0c:Case) (r0s:List Int) (r1:Int)
def T63_f(x:Case):P63_f->Tr P63_f R63_f
 |.e=>let c1:=caseCheck x;(.call 16 [.agg (cC x)] (.tuple [iI (c1.1),iI (c1.2.1),iI (c1.2.2)]) true true (.br (c1.2.2 !=(0:Int)) (.out (.r0 (c1.2.2))) (.call 64 [] (iI 0) true true (.br ((0:Int) !=(0:Int)) (.out (.r0 0)) (.call 97 [.agg (cC x)] (court x (caseSets x)) true true (.br ((((caseSets x).length):Int)==(0:Int)) (.out (.r0 8)) (.out (.r1 x (caseSets x) 0))))))))
noncomputable def g63_f(x:Case):P63_f->List Item × St
 |.e=>bd Tryz.f63 [.agg (cC x),fF 64] 32
def n63_f:R63_f->Exit × St
 |.r0 r1=>(.ret,⟨mk 34 [(4,.nil),(5,iI r1)],[],[]⟩)
 |.r1 r0c r0s r1=>(.ret,⟨mk 34 [(4,court r0c r0s),(5,iI r1)],[],[]⟩)
def v63_f:R63_f->V
 |.r0 r1=>.tuple [.nil,iI r1]
 |.r1 r0c r0s r1=>.tuple [court r0c r0s,iI r1]
theorem s63_f(x:Case):Sm 0 (g63_f x) (T63_f x) (n63_f)
 |.e=>⟨400,by kernel_rfl⟩
theorem q63_f:∀r,bodyQ Tryz.prog Tryz.f63 (·=v63_f r) (n63_f r).1 (n63_f r).2
 |.r0 r1=>bq (.tuple [.nil,iI r1]) (by kernel_rfl)
 |.r1 r0c r0s r1=>bq (.tuple [court r0c r0s,iI r1]) (by kernel_rfl)
theorem w63_f(x:Case){post:V->Prop}(h:WQ (T63_f x) v63_f post .e):PC 63 [.agg (cC x),fF 64] post:=
 PCalls.wq Tryz.func63 (s63_f x) q63_f h
inductive P63_i
 |e
inductive R63_i
 |r0 (r1:Int)
 |r1 (r0c:Case) (r0s:List Int) (r1:Int)
def T63_i(n:Int)(x:Case):P63_i->Tr P63_i R63_i
 |.e=>let c1:=indexErr n (x.claims.length:Int);let c2:=caseCheck x;(.call 16 [.agg (cC x)] (.tuple [iI (c2.1),iI (c2.2.1),iI (c2.2.2)]) true true (.br (c2.2.2 !=(0:Int)) (.out (.r0 (c2.2.2))) (.call 132 [rR (iI (x.claims.length:Int)),rR (iI n)] (iI c1) true true (.br (c1 !=(0:Int)) (.out (.r0 c1)) (.call 97 [.agg (cC x)] (court x (caseSets x)) true true (.br ((((caseSets x).length):Int)==(0:Int)) (.out (.r0 8)) (.out (.r1 x (caseSets x) 0))))))))
noncomputable def g63_i(n:Int)(x:Case):P63_i->List Item × St
 |.e=>bd Tryz.f63 [.agg (cC x),fG 132 [rR (iI (x.claims.length:Int)),rR (iI n)]] 32
def n63_i:R63_i->Exit × St
 |.r0 r1=>(.ret,⟨mk 34 [(4,.nil),(5,iI r1)],[],[]⟩)
 |.r1 r0c r0s r1=>(.ret,⟨mk 34 [(4,court r0c r0s),(5,iI r1)],[],[]⟩)
def v63_i:R63_i->V
 |.r0 r1=>.tuple [.nil,iI r1]
 |.r1 r0c r0s r1=>.tuple [court r0c r0s,iI r1]
theorem s63_i(n:Int)(x:Case):Sm 0 (g63_i n x) (T63_i n x) (n63_i)
 |.e=>⟨400,by kernel_rfl⟩
theorem q63_i:∀r,bodyQ Tryz.prog Tryz.f63 (·=v63_i r) (n63_i r).1 (n63_i r).2
 |.r0 r1=>bq (.tuple [.nil,iI r1]) (by kernel_rfl)
 |.r1 r0c r0s r1=>bq (.tuple [court r0c r0s,iI r1]) (by kernel_rfl)
theorem w63_i(n:Int)(x:Case){post:V->Prop}(h:WQ (T63_i n x) v63_i post .e):PC 63 [.agg (cC x),fG 132 [rR (iI (x.claims.length:Int)),rR (iI n)]] post:=
 PCalls.wq Tryz.func63 (s63_i n x) q63_i h
inductive P63_l
 |e
inductive R63_l
 |r0 (r1:Int)
 |r1 (r0c:Case) (r0s:List Int) (r1:Int)
def T63_l(l:List Int)(x:Case):P63_l->Tr P63_l R63_l
 |.e=>let c1:=listErr (x.claims.length:Int) l;let c2:=caseCheck x;(.call 16 [.agg (cC x)] (.tuple [iI (c2.1),iI (c2.2.1),iI (c2.2.2)]) true true (.br (c2.2.2 !=(0:Int)) (.out (.r0 (c2.2.2))) (.call 134 [rR (iI (x.claims.length:Int)),rR (tint.lst l)] (iI c1) true true (.br (c1 !=(0:Int)) (.out (.r0 c1)) (.call 97 [.agg (cC x)] (court x (caseSets x)) true true (.br ((((caseSets x).length):Int)==(0:Int)) (.out (.r0 8)) (.out (.r1 x (caseSets x) 0))))))))
noncomputable def g63_l(l:List Int)(x:Case):P63_l->List Item × St
 |.e=>bd Tryz.f63 [.agg (cC x),fG 134 [rR (iI (x.claims.length:Int)),rR (tint.lst l)]] 32
def n63_l:R63_l->Exit × St
 |.r0 r1=>(.ret,⟨mk 34 [(4,.nil),(5,iI r1)],[],[]⟩)
 |.r1 r0c r0s r1=>(.ret,⟨mk 34 [(4,court r0c r0s),(5,iI r1)],[],[]⟩)
def v63_l:R63_l->V
 |.r0 r1=>.tuple [.nil,iI r1]
 |.r1 r0c r0s r1=>.tuple [court r0c r0s,iI r1]
theorem s63_l(l:List Int)(x:Case):Sm 0 (g63_l l x) (T63_l l x) (n63_l)
 |.e=>⟨400,by kernel_rfl⟩
theorem q63_l:∀r,bodyQ Tryz.prog Tryz.f63 (·=v63_l r) (n63_l r).1 (n63_l r).2
 |.r0 r1=>bq (.tuple [.nil,iI r1]) (by kernel_rfl)
 |.r1 r0c r0s r1=>bq (.tuple [court r0c r0s,iI r1]) (by kernel_rfl)
theorem w63_l(l:List Int)(x:Case){post:V->Prop}(h:WQ (T63_l l x) v63_l post .e):PC 63 [.agg (cC x),fG 134 [rR (iI (x.claims.length:Int)),rR (tint.lst l)]] post:=
 PCalls.wq Tryz.func63 (s63_l l x) q63_l h
theorem many_le{x:Case}(h:OkCase x):x.claims.length<=maxn:=by have:=h.five;unfold maxn;omega
theorem c63f(x:Case):PC 63 [.agg (tCase.cells x),fF 64] (·=.tuple [entP x 0,iI (truthsE x 0).2]):=by
 have hw:∀v,(caseCheck x).2.2=0->v=court x (caseSets x)->PC 97 [.agg (tCase.cells x)] (·=v):=fun v h e=>e▸c97 x (okCase h);refine w63_f x (WP.step ?_);simp only[T63_f,Go,Ends',v63_f,Tr.sure,SS];repeat' with_reducible first|intro _|apply aI
 all_goals first|exact(c16 x)|exact c64|exact(hw _ (by with_reducible assumption) rfl)|(simp[entP,truthsE,Go,Ends',v63_f,-List.getD_eq_getElem?_getD, *];done)
theorem c63i(x:Case)(n:Int):PC 63 [.agg (tCase.cells x),fG 132 [rR (iI (x.claims.length:Int)),rR (iI n)]] (·=.tuple [entP x (indexErr n x.claims.length),iI (truthsE x (indexErr n x.claims.length)).2]):=by
 have hw:∀v,(caseCheck x).2.2=0->v=court x (caseSets x)->PC 97 [.agg (tCase.cells x)] (·=v):=fun v h e=>e▸c97 x (okCase h);have hm:(caseCheck x).2.2=0->x.claims.length<=maxn:=fun h=>many_le (okCase h);refine w63_i n x (WP.step ?_);simp only[T63_i,Go,Ends',v63_i,Tr.sure,SS];repeat' with_reducible first|intro _|apply aI
 all_goals first|exact(c16 x)|exact(c132 _ n (hm (by with_reducible assumption)))|exact(hw _ (by with_reducible assumption) rfl)|(simp[entP,truthsE,Go,Ends',v63_i,-List.getD_eq_getElem?_getD, *];done)
theorem c63l(x:Case)(l:List Int):PC 63 [.agg (tCase.cells x),fG 134 [rR (iI (x.claims.length:Int)),rR (tint.lst l)]] (·=.tuple [entP x (listErr x.claims.length l),iI (truthsE x (listErr x.claims.length l)).2]):=by
 have hw:∀v,(caseCheck x).2.2=0->v=court x (caseSets x)->PC 97 [.agg (tCase.cells x)] (·=v):=fun v h e=>e▸c97 x (okCase h);have hm:(caseCheck x).2.2=0->x.claims.length<=maxn:=fun h=>many_le (okCase h);refine w63_l l x (WP.step ?_);simp only[T63_l,Go,Ends',v63_l,Tr.sure,SS];repeat' with_reducible first|intro _|apply aI
 all_goals first|exact(c16 x)|exact(c134 _ l (hm (by with_reducible assumption)))|exact(hw _ (by with_reducible assumption) rfl)|(simp[entP,truthsE,Go,Ends',v63_l,-List.getD_eq_getElem?_getD, *];done)
end
noncomputable section
theorem entP_le{x:Case}{e:Int}(h:(truthsE x e).2=0):VLe (entP x e) (court x (caseSets x)):=by
 unfold entP;rw[if_pos h];exact VLe.refl _
inductive P18
 |e
inductive R18
 |r0 (r1:Int)
 |r1 (r0:List Int) (r1:Int)
def T18(x:Case):P18->Tr P18 R18
 |.e=>let c2:=caseSets x;let c1:=((c2.length):Int);let c3:V:=.tuple [entP x 0,iI ((truthsE x 0).2)];let c4:V:=.list 1 ((c1).toNat) (rowsOf tint c2);let c5:=decide ((c1).toNat<=(c2).length);let c6:=rowsOf tint (List.replicate ((c1).toNat) 0);(.call 63 [.agg (cC x),fF 64] c3 true true (.br ((truthsE x 0).2 !=(0:Int)) (.out (.r0 ((truthsE x 0).2))) (.wait 2 (.vle 4 (entP x 0) (court x c2) (.vle 7 c3 uU (.vle 9 c3 uU (.vle 10 (entP x 0) uU (.need ((decide (0<=c1)&&decide (c1=c1))&&decide (c1<=4294967296)) (.telb 1 1 ((c1).toNat) (fun _ j=>([iI 0]:List V).getD j uU) c6 (.sem (opAt Tryz.f18 5 5) [(.tmp 21,.row 1 ((c1).toNat)),(.tmp 25,tint.lst c2)] [.cells (cC x),.rows 3 1 ((c1).toNat) c6] (iI ((c2).length:Int)) [.cells (cC x),.rows 3 1 ((c2).length) (rowsOf tint c2)] true (.wait 1 (.frz 1 (c5&&(c5&&(c5&&true))) (.vle 6 c4 (tint.lst c2) (.vle 20 c4 (tint.lst c2) (.vle 21 c4 (tint.lst c2) (.out (.r1 c2 0)))))))))))))))))
noncomputable def g18(x:Case):P18->List Item × St
 |.e=>bd Tryz.f18 [.agg (cC x)] 27
def n18:R18->Exit × St
 |.r0 r1=>(.ret,⟨mk 28 [(2,.nils),(3,iI r1)],[],[]⟩)
 |.r1 r0 r1=>(.ret,⟨mk 28 [(2,tint.lst r0),(3,iI r1)],[],[]⟩)
def v18:R18->V
 |.r0 r1=>.tuple [tint.lst ([]:List Int),iI r1]
 |.r1 r0 r1=>.tuple [tint.lst r0,iI r1]
theorem s18(x:Case):Sm 0 (g18 x) (T18 x) (n18)
 |.e=>⟨400,by kernel_rfl⟩
theorem q18:∀r,bodyQ Tryz.prog Tryz.f18 (·=v18 r) (n18 r).1 (n18 r).2
 |.r0 r1=>⟨.inr rfl,by simp[n18],(.tuple [.nils,iI r1]),(.tuple [tint.lst ([]:List Int),iI r1]),by kernel_rfl,(.tuple rfl fun j hj=>match j,hj with|0,_=>.weak (.imm rfl) VLe.nils|1,_=>.imm rfl),rfl⟩
 |.r1 r0 r1=>bq (.tuple [tint.lst r0,iI r1]) (by kernel_rfl)
theorem w18(x:Case){post:V->Prop}(h:WQ (T18 x) v18 post .e):PC 18 [.agg (cC x)] post:=
 PCalls.wq Tryz.func18 (s18 x) q18 h
inductive P21
 |e
inductive R21
 |r0 (r0:Int) (r1:Int)
def T21(x:Case)(n:Int):P21->Tr P21 R21
 |.e=>let c1:=indexErr n (x.claims.length:Int);let c2:=(truthsE x c1).2;let c3:List V:=[rR (iI (x.claims.length:Int)),rR (iI n)];let c4:=caseSets x;let c5:V:=.tuple [entP x c1,iI c2];(.front [(5,66,[iI n,iI (x.claims.length:Int)],.func (.func 132) [] c3),(6,63,[.agg (cC x),.func (.func 132) [] c3],.tuple [entP x c1,iI c2])] [] true true (.br ((truthsE x c1).2 !=(0:Int)) (.out (.r0 0 c2)) (.wait 2 (.vle 6 (entP x c1) (court x c4) (.vle 8 c5 uU (.vle 15 c5 uU (.vle 16 (entP x c1) uU (.call 67 [tint.lst c4,iI n] (iI (settled c4 n)) true true (.out (.r0 (settled c4 n) 0))))))))))
noncomputable def g21(x:Case)(n:Int):P21->List Item × St
 |.e=>bd Tryz.f21 [.agg (cC x),iI n] 25
def n21:R21->Exit × St
 |.r0 r0 r1=>(.ret,⟨mk 27 [(4,iI r0),(5,iI r1)],[],[]⟩)
def v21:R21->V
 |.r0 r0 r1=>.tuple [iI r0,iI r1]
theorem s21(x:Case)(n:Int):Sm 0 (g21 x n) (T21 x n) (n21)
 |.e=>⟨400,by kernel_rfl⟩
theorem q21:∀r,bodyQ Tryz.prog Tryz.f21 (·=v21 r) (n21 r).1 (n21 r).2
 |.r0 r0 r1=>bq (.tuple [iI r0,iI r1]) (by kernel_rfl)
theorem w21(x:Case)(n:Int){post:V->Prop}(h:WQ (T21 x n) v21 post .e):PC 21 [.agg (cC x),iI n] post:=
 PCalls.wq Tryz.func21 (s21 x n) q21 h
inductive P24
 |e
inductive R24
 |r0 (r0:Bool) (r1:Int)
def T24(x:Case)(l:List Int):P24->Tr P24 R24
 |.e=>let c1:=listErr (x.claims.length:Int) l;let c2:List V:=[rR (iI (x.claims.length:Int)),rR (tint.lst l)];let c3:=(truthsE x c1).2;let c4:=caseSets x;let c5:V:=.tuple [entP x c1,iI c3];(.front [(5,70,[tint.lst l,iI (x.claims.length:Int)],.func (.func 134) [] c2),(6,63,[.agg (cC x),.func (.func 134) [] c2],.tuple [entP x c1,iI c3])] [] true true (.br ((truthsE x c1).2 !=(0:Int)) (.out (.r0 false c3)) (.wait 2 (.vle 6 (entP x c1) (court x c4) (.vle 8 c5 uU (.vle 15 c5 uU (.vle 16 (entP x c1) uU (.call 72 [tint.lst l] (iI (setZ l)) true true (.call 71 [court x c4,iI (setZ l)] (.bool (c4.any fun s=>bitsOf .and .i64 s (setZ l)==(setZ l))) true true (.out (.r0 (c4.any fun s=>bitsOf .and .i64 s (setZ l)==(setZ l)) 0)))))))))))
noncomputable def g24(x:Case)(l:List Int):P24->List Item × St
 |.e=>bd Tryz.f24 [.agg (cC x),tint.lst l] 23
def n24:R24->Exit × St
 |.r0 r0 r1=>(.ret,⟨mk 25 [(4,.bool r0),(5,iI r1)],[],[]⟩)
def v24:R24->V
 |.r0 r0 r1=>.tuple [.bool r0,iI r1]
theorem s24(x:Case)(l:List Int):Sm 0 (g24 x l) (T24 x l) (n24)
 |.e=>⟨400,by kernel_rfl⟩
theorem q24:∀r,bodyQ Tryz.prog Tryz.f24 (·=v24 r) (n24 r).1 (n24 r).2
 |.r0 r0 r1=>bq (.tuple [.bool r0,iI r1]) (by kernel_rfl)
theorem w24(x:Case)(l:List Int){post:V->Prop}(h:WQ (T24 x l) v24 post .e):PC 24 [.agg (cC x),tint.lst l] post:=
 PCalls.wq Tryz.func24 (s24 x l) q24 h
theorem setsOk{x:Case}:∀y∈caseSets x,0<=y/\y<32:=fun _ h=>caseSets_in h
theorem okOf{x:Case}{e:Int}(h:(truthsE x e).2=0):OkCase x/\e=0:=by
 unfold truthsE at h;split at h
 ·rename_i h1;exact absurd h h1
 split at h
 ·rename_i h1;exact absurd h h1
 rename_i h1 h2;exact⟨okCase (Decidable.not_not.1 h1),Decidable.not_not.1 h2⟩
theorem indexOk{n m:Int}(h:indexErr n m=0):0<=n/\n<=m-1:=by
 unfold indexErr at h;split at h
 ·rename_i h1;exact(within_iff).1 h1
 ·cases h
theorem listOk{m:Int}{l:List Int}(h:listErr m l=0):∀n∈l,0<=n/\n<=m-1:=by
 unfold listErr at h;split at h
 ·cases h
 ·rename_i h1;intro n hn;rw[List.any_eq_true]at h1;by_cases q:within n 0 (m-1)=true
  ·exact(within_iff).1 q
  ·exact absurd ⟨n,hn,by simp[q]⟩ h1
theorem can_any{l:List Int}{s:List Int}(hl:∀n∈l,0<=n/\n<5)(hs:∀x∈s,0<=x/\x<32):(s.any fun y=>bitsOf .and .i64 y (setZ l)==setZ l)=can s l:=by
 unfold can;rw[Bool.eq_iff_iff,List.any_eq_true,List.any_eq_true];constructor
 ·rintro⟨y,h1,h2⟩;exact⟨y,h1,by rw[<-and_set hl (hs y h1)];exact h2⟩
 ·rintro⟨y,h1,h2⟩;exact⟨y,h1,by rw[and_set hl (hs y h1)];exact h2⟩
theorem sem_copy18(h:List Blk)(l:List Int)(i:Nat)(c0:Nat->Nat->V)(hi:h[i]? =some (.rows 3 1 l.length c0)):SemOK Tryz.prog (opAt Tryz.f18 5 5) [(.tmp 21,.row i l.length),(.tmp 25,tint.lst l)] h (iI l.length) (h.set i (.rows 3 1 l.length (rowsOf tint l))):=by
 have e:opAt Tryz.f18 5 5=.call {callee:=.builtin .copy,args:= #[.tmp 21,.tmp 25],argTypes:= #[26,26]}:=by kernel_rfl
 rw[e];exact sem_copy (e:=3) (by kernel_rfl) (by kernel_rfl) hi fun r hr=>rfl
theorem zero_rows{n r j:Nat}(hr:r<n)(hj:j<1):VLe (([iI 0]:List V).getD j uU) (rowsOf tint (List.replicate n 0) r j):=by
 obtain rfl:j=0:=by omega
 have:(List.replicate n (0:Int)).getD r tint.zero=0:=by rw[gE,List.getElem?_replicate,if_pos hr];rfl
 unfold rowsOf;rw[this];exact VLe.refl _
theorem c18(x:Case):PC 18 [.agg (tCase.cells x)] (·=.tuple [tint.lst (if(truthsE x 0).2≠0 then[]else caseSets x),iI (truthsE x 0).2]):=by
 have hl:((caseSets x).length:Int)<=4294967296:=by have:=caseSets_le x;omega
 refine w18 x (WP.step ?_);simp only[T18,Go,Ends',v18,Tr.sure,SS];repeat' with_reducible first|intro _|apply aI
 all_goals first|exact(c63f x)|exact(VLe.undef _)|exact(entP_le (by with_reducible assumption))|exact(sem_copy18 _ _ _ _ rfl)|exact(zero_rows (by with_reducible assumption) (by with_reducible assumption))|exact(VLe.same tint _ rfl)|(simp[hl,Go,Ends',v18,-List.getD_eq_getElem?_getD, *];done)
theorem c21(x:Case)(n:Int):PC 21 [.agg (tCase.cells x),iI n] (·=.tuple [iI (holdsR x n).1,iI (holdsR x n).2]):=by
 have hn:(truthsE x (indexErr n x.claims.length)).2=0->0<=n/\n<=5:=fun h=>by
  have:=indexOk (okOf h).2;have:=(okOf h).1.five;omega
 refine w21 x n (WP.step ?_);simp only[T21,Go,Ends',v21,Tr.sure,SS];repeat' with_reducible first|intro _|apply aI
 all_goals first|exact(c66 _ _)|exact(c63i x n)|exact(VLe.undef _)|exact(entP_le (by with_reducible assumption))|exact(c67 _ _ setsOk (hn (by with_reducible assumption)))|(simp[holdsR,Go,Ends',v21,-List.getD_eq_getElem?_getD, *];done)
theorem c24(x:Case)(l:List Int):PC 24 [.agg (tCase.cells x),tint.lst l] (·=.tuple [.bool (togetherR x l).1,iI (togetherR x l).2]):=by
 have hn:(truthsE x (listErr x.claims.length l)).2=0->∀n∈l,0<=n/\n<5:=fun h n hm=>by
  have:=listOk (okOf h).2 n hm;have:=(okOf h).1.five;omega
 have hc:(truthsE x (listErr x.claims.length l)).2=0->((caseSets x).any fun y=>bitsOf .and .i64 y (setZ l)==setZ l)=can (caseSets x) l:=fun h=>can_any (hn h) setsOk;refine w24 x l (WP.step ?_);simp only[T24,Go,Ends',v24,Tr.sure,SS];repeat' with_reducible first|intro _|apply aI
 all_goals first|exact(c70 _ _)|exact(c63l x l)|exact(VLe.undef _)|exact(entP_le (by with_reducible assumption))|exact(c72 l (hn (by with_reducible assumption)))|exact(c71 _ _ _)|(simp[togetherR,hc,Go,Ends',v24,-List.getD_eq_getElem?_getD, *];done)
end
noncomputable section
inductive P82
 |e
 |l0 (x0_11:Int) (a0_0:List (List Int))
inductive R82
 |r0 (r0:List (List Int))
def T82(l:List Int)(c:Case):P82->Tr P82 R82
 |.e=>(.wait 2 (.own 2 26 1 (.need (decide (0<=(c.claims.length:Int))&&inR .i64 ((1:Int)*2^(min ((c.claims.length:Int)).toNat 64))) (.go (.l0 0 ([]))))))
 |.l0 x0_11 a0_0=>let c1:=x0_11+(1:Int);(.br (decide (x0_11<((1:Int)*2^(min ((c.claims.length:Int)).toNat 64)))) (.call 71 [court c l,iI x0_11] (.bool (l.any fun s=>bitsOf .and .i64 s x0_11==x0_11)) true true (.br (l.any fun s=>bitsOf .and .i64 s x0_11==x0_11) (.call 83 [iI x0_11] (tint.lst (listZ x0_11)) true true (.need ((decide (a0_0.length=a0_0.length)&&decide (a0_0.length+1<=4294967296))&&decide (1<=1)) (.scal (fun _=>true) (.need (inR .i64 c1) (.go (.l0 c1 ((listZ x0_11)::a0_0))))))) (.need (inR .i64 c1) (.go (.l0 c1 a0_0))))) (.out (.r0 a0_0)))
noncomputable def g82(l:List Int)(c:Case):P82->List Item × St
 |.e=>bd Tryz.f82 [court c l] 23
 |.l0 x0_11 a0_0=>(cutOf Tryz.f82 0,⟨mk 24 [(0,court c l),(2,.row 0 a0_0.length),(10,iI ((1:Int)*2^(min ((c.claims.length:Int)).toNat 64))),(11,iI x0_11)],[.rows 26 1 a0_0.length (rowsRev (tlist tint) a0_0)],[]⟩)
def n82:R82->Exit × St
 |.r0 r0=>(.ret,⟨mk 24 [(2,.row 0 r0.length)],[.rows 26 1 r0.length (rowsRev (tlist tint) r0)],[]⟩)
def v82:R82->V
 |.r0 r0=>(tlist tint).lst r0.reverse
theorem s82(l:List Int)(c:Case):Sm 0 (g82 l c) (T82 l c) (n82)
 |.e=>⟨400,by kernel_rfl⟩
 |.l0 _ _=>⟨400,by kernel_rfl⟩
theorem q82:∀r,bodyQ Tryz.prog Tryz.f82 (·=v82 r) (n82 r).1 (n82 r).2
 |.r0 r0=>⟨.inr rfl,by simp[n82],(.row 0 r0.length),((tlist tint).lst r0.reverse),by kernel_rfl,(.weak (.row rfl (Nat.le_refl _)) (VLe.rev (tlist tint) r0)),rfl⟩
theorem w82(l:List Int)(c:Case){post:V->Prop}(h:WQ (T82 l c) v82 post .e):PC 82 [court c l] post:=
 PCalls.wq Tryz.func82 (s82 l c) q82 h
theorem two_k{k:Nat}(h:k<=5):(1:Int)*2^(min (k:Int).toNat 64)=((2^k:Nat):Int)/\2^k<=32:=by
 rcases show k=0\/k=1\/k=2\/k=3\/k=4\/k=5 by omega with e|e|e|e|e|e<;>subst e<;>exact⟨by decide,by decide⟩
def someP(l:List Int)(n:Nat):Bool:=l.any fun s=>bitsOf .and .i64 s (n:Int)==(n:Int)
def someL(c:Case)(l:List Int):List (List Int):=(filtI (someP l) (2^c.claims.length)).map listZ
theorem c82(c:Case)(l:List Int)(h:OkCase c):PC 82 [court c l] (·=(tlist tint).lst (someL c l)):=by
 obtain⟨hN,hN2⟩:=two_k h.five;unfold someL;generalize 2^c.claims.length=N at*
 have hNr:inR .i64 (N:Int)=true:=inR64 (by omega) (by omega);refine w82 l c (WP.step ?_);simp only[T82,Go,Ends',v82,Tr.sure,SS];repeat' with_reducible first|intro _|apply aI
 all_goals first|(simp_all [hN,hNr,Go,Ends',v82,-List.getD_eq_getElem?_getD];done)|skip
 refine WP.run (fun(i:Nat)=>.l0 i ((filtI (someP l) i).map listZ).reverse) rfl N (fun i hi=> ?_) ?_
 ·have hr:inR .i64 ((i:Int)+1)=true:=inR64 (by omega) (by omega);have hi':(i:Int)<N:=by omega
  have hle:(filtI (someP l) i).reverse.length+1<=4294967296:=by rw[List.length_reverse];have:=filtI_len (someP l) i;omega
  have hn:=filtI_rev (someP l) i;have hs:0<=(i:Int)/\(i:Int)<32:=by omega
  rw[<-List.map_reverse,<-List.map_reverse];generalize(filtI (someP l) (i+1)).reverse=B at*
  generalize(filtI (someP l) i).reverse=A at*
  have hq:(A.map listZ).length=A.length:=List.length_map ..
  cases hz:someP l i with
  |true=>
   rw[hz]at hn;simp only[if_true]at hn;rw[hn,List.map_cons];unfold someP at hz;refine WP.once ?_;simp only[T82,Tr.sure,SS,hi'];repeat' with_reducible first|intro _|apply aI
   all_goals first|exact(c71 _ _ _)|exact(c83 _ hs)|(simp[hr,hle,hz,hN,hq,Go,Ends',v82,-List.getD_eq_getElem?_getD, *];done)|(simp_all [hr,hle,hz,hN,hq,Go,Ends',v82,-List.getD_eq_getElem?_getD];done)
  |false=>
   rw[hz]at hn;simp only[Bool.false_eq_true,if_false]at hn;rw[hn];unfold someP at hz;refine WP.once ?_;simp only[T82,Tr.sure,SS,hi'];repeat' with_reducible first|intro _|apply aI
   all_goals first|exact(c71 _ _ _)|exact(c83 _ hs)|(simp[hr,hle,hz,hN,hq,Go,Ends',v82,-List.getD_eq_getElem?_getD, *];done)|(simp_all [hr,hle,hz,hN,hq,Go,Ends',v82,-List.getD_eq_getElem?_getD];done)
 ·refine WP.step ?_;simp only[T82,Go,Ends',v82,Tr.sure,SS,Int.lt_irrefl,List.reverse_reverse];repeat' with_reducible first|intro _|apply aI
  all_goals first|(simp[hN,Go,Ends',v82,-List.getD_eq_getElem?_getD, *];done)|(simp_all [hN,Go,Ends',v82,-List.getD_eq_getElem?_getD];done)
inductive P84_c
 |e
 |l0 (x0_4:List Int) (x0_9:Int)
inductive R84_c
 |r0 (r0:List Int)
def T84_c(g:Nat)(c:Case)(ks:List Int)(p:List Int->List Int->Bool)(s:List (List Int)):P84_c->Tr P84_c R84_c
 |.e=>(.wait 6 (.vle 4 .nils (tint.lst ([]:List Int)) (.go (.l0 ([]:List Int) 0))))
 |.l0 x0_4 x0_9=>let c1:=s.getD (x0_9).toNat (tlist tint).zero;let c2:=x0_9+(1:Int);let c3:Tr P84_c R84_c:=.need (inR .i64 c2) (.go (.l0 c1 c2));(.br (decide (x0_9<(s.length:Int))) (.need (decide (0<=x0_9)&&decide (x0_9<(s.length:Int))) (.br (x0_9==(0:Int)) (.lit true c3) (.call g [tint.lst c1,tint.lst x0_4,rR (court c ks)] (.bool (p c1 x0_4)) true true (.br (p c1 x0_4) c3 (.need (inR .i64 c2) (.go (.l0 x0_4 c2))))))) (.out (.r0 x0_4)))
noncomputable def g84_c(g:Nat)(c:Case)(ks:List Int)(p:List Int->List Int->Bool)(s:List (List Int)):P84_c->List Item × St
 |.e=>bd Tryz.f84 [(tlist tint).lst s,.func (.func g) [] [rR (court c ks)]] 23
 |.l0 x0_4 x0_9=>(cutOf Tryz.f84 0,⟨mk 25 [(1,.func (.func g) [] [rR (court c ks)]),(4,tint.lst x0_4),(7,(tlist tint).lst s),(8,iI (s.length:Int)),(9,iI x0_9)],[],[]⟩)
def n84_c:R84_c->Exit × St
 |.r0 r0=>(.ret,⟨mk 25 [(4,tint.lst r0)],[],[]⟩)
def v84_c:R84_c->V
 |.r0 r0=>tint.lst r0
theorem s84_c(g:Nat)(c:Case)(ks:List Int)(p:List Int->List Int->Bool)(s:List (List Int)):Sm 0 (g84_c g c ks p s) (T84_c g c ks p s) (n84_c)
 |.e=>⟨400,by kernel_rfl⟩
 |.l0 _ _=>⟨400,by kernel_rfl⟩
theorem q84_c:∀r,bodyQ Tryz.prog Tryz.f84 (·=v84_c r) (n84_c r).1 (n84_c r).2
 |.r0 r0=>bq (tint.lst r0) (by kernel_rfl)
theorem w84_c(g:Nat)(c:Case)(ks:List Int)(p:List Int->List Int->Bool)(s:List (List Int)){post:V->Prop}(h:WQ (T84_c g c ks p s) v84_c post .e):PC 84 [(tlist tint).lst s,.func (.func g) [] [rR (court c ks)]] post:=
 PCalls.wq Tryz.func84 (s84_c g c ks p s) q84_c h
theorem c84c{g:Nat}{c:Case}{ks:List Int}{p:List Int->List Int->Bool}{ok:List Int->Prop}(s:List (List Int))(hg:∀a b,ok a->ok b->PC g [tint.lst a,tint.lst b,rR (court c ks)] (·=.bool (p a b)))(hs:∀x∈s,ok x)(h0:ok []):
  PC 84 [(tlist tint).lst s,.func (.func g) [] [rR (court c ks)]] (·=tint.lst (bstOf p [] s)):=by
 refine PCalls.assume e84 0 (by simp) .list fun hl=> ?_;refine w84_c g c ks p s (WP.step ?_);simp only[T84_c,Go,Ends',v84_c,Tr.sure,SS];repeat' with_reducible first|intro _|apply aI
 all_goals first|exact VLe.nils|skip
 refine WP.run (fun i=>.l0 (bstOf p [] (s.take i)) (i:Int)) rfl s.length (fun i hi=> ?_) ?_
 ·have hr:=inRi hi hl;have hz:(tlist tint).zero=([]:List Int):=rfl;have hi':(i:Int)<s.length:=by omega
  have ht:=bst_take p [] s hi;have hb:=bst_in (p:=p) (d:=[]) (s.take i) (fun x hx=>hs x (List.mem_of_mem_take hx)) h0;have hx:=hs _ (getD_mem [] s i hi);rw[ht];by_cases hi0:i=0
  ·subst hi0;refine WP.once ?_;simp only[T84_c,Tr.sure,SS,hi',hi,hz];repeat' with_reducible first|intro _|apply aI
   all_goals first|(simp[hr,Go,Ends',v84_c,-List.getD_eq_getElem?_getD, *];done)|(simp_all [hr,Go,Ends',v84_c,-List.getD_eq_getElem?_getD];done)
  ·have hi1:¬(i:Int)=0:=by omega
   have hg1:=hg _ _ hx hb;generalize bstOf p [] (s.take i)=B at*
   refine WP.once ?_;simp only[T84_c,Tr.sure,SS,hi',hi,hz,hi1];repeat' with_reducible first|intro _|apply aI
   all_goals first|exact hg1|(simp[hr,hi0,Go,Ends',v84_c,-List.getD_eq_getElem?_getD, *];done)
 ·rw[List.take_length];refine WP.step ?_;simp only[T84_c,Go,Ends',v84_c,Tr.sure,SS,Int.lt_irrefl];repeat' with_reducible first|intro _|apply aI
def worthP(c:Case)(a b:List Int):Bool:=decide (worth c a>worth c b)||(decide (worth c a=worth c b)&&decide (cmpL a b<0))
inductive P87
 |e
inductive R87
 |r0 (r0:Bool)
def T87(c:Case)(ks:List Int)(u:List Int)(v:List Int):P87->Tr P87 R87
 |.e=>(.front [(2,88,[court c ks,tint.lst u],iI (worth c u))] [] true true (.call 88 [court c ks,tint.lst v] (iI (worth c v)) true true (.br (decide ((worth c u)>(worth c v))) (.lit true (.out (.r0 true))) (.br ((worth c u)==(worth c v)) (.call 86 [tint.lst u,tint.lst v] (iI (cmpL u v)) true true (.lit false (.out (.r0 (decide ((cmpL u v)<(0:Int))))))) (.lit false (.out (.r0 false)))))))
noncomputable def g87(c:Case)(ks:List Int)(u:List Int)(v:List Int):P87->List Item × St
 |.e=>bd Tryz.f87 [tint.lst u,tint.lst v,rR (court c ks)] 25
def n87:R87->Exit × St
 |.r0 r0=>(.ret,⟨mk 28 [(5,.bool r0)],[],[]⟩)
def v87:R87->V
 |.r0 r0=>.bool r0
theorem s87(c:Case)(ks:List Int)(u:List Int)(v:List Int):Sm 0 (g87 c ks u v) (T87 c ks u v) (n87)
 |.e=>⟨400,by kernel_rfl⟩
theorem q87:∀r,bodyQ Tryz.prog Tryz.f87 (·=v87 r) (n87 r).1 (n87 r).2
 |.r0 r0=>bq (.bool r0) (by kernel_rfl)
theorem w87(c:Case)(ks:List Int)(u:List Int)(v:List Int){post:V->Prop}(h:WQ (T87 c ks u v) v87 post .e):PC 87 [tint.lst u,tint.lst v,rR (court c ks)] post:=
 PCalls.wq Tryz.func87 (s87 c ks u v) q87 h
theorem c87(c:Case)(ks a b:List Int)(h:OkCase c)(ha:OkL c a)(hb:OkL c b):PC 87 [tint.lst a,tint.lst b,rR (court c ks)] (·=.bool (worthP c a b)):=by
 refine w87 c ks a b (WP.step ?_);simp only[T87,Go,Ends',v87,Tr.sure,SS];repeat' with_reducible first|intro _|apply aI
 all_goals first|exact(c88 _ _ _ h ha)|exact(c88 _ _ _ h hb)|exact(c86 _ _)|(simp[worthP,Go,Ends',v87,-List.getD_eq_getElem?_getD, *];done)
inductive P31
 |e
 |l0 (x0_20:Int) (a0_1:List (List Int))
inductive R31
 |r0 (r1:Int)
 |r1 (r0:List Int) (r1:Int)
def T31(x:Case):P31->Tr P31 R31
 |.e=>let c1:V:=.tuple [entP x 0,iI ((truthsE x 0).2)];(.call 63 [.agg (cC x),fF 64] c1 true true (.br ((truthsE x 0).2 !=(0:Int)) (.out (.r0 ((truthsE x 0).2))) (.wait 2 (.vle 4 (entP x 0) (court x (caseSets x)) (.vle 9 c1 uU (.vle 11 c1 uU (.vle 12 (entP x 0) uU (.wait 1 (.own 6 26 1 (.call 82 [court x (caseSets x)] ((tlist tint).lst (someL x (caseSets x))) true true (.go (.l0 0 ([])))))))))))))
 |.l0 x0_20 a0_1=>let c2:=(someL x (caseSets x)).getD (x0_20).toNat (tlist tint).zero;let c3:=(1:Int)*2^(min ((x.claims.length:Int)).toNat 64);let c1:=bitsOf .andNot .i64 (c3-(1:Int)) (setZ c2);let c4:=x0_20<(((someL x (caseSets x)).length):Int);let c5:=bstOf (fewer) [] a0_1.reverse;(.br (decide c4) (.need (decide (0<=x0_20)&&decide c4) (.front [(7,72,[tint.lst c2],iI (setZ c2)),(9,83,[iI c1],tint.lst (listZ c1))] [] (((decide (0<=(x.claims.length:Int))&&inR .i64 c3)&&((inR .i64 (c3-(1:Int)))&&true))&&true) true (.need ((decide (a0_1.length=a0_1.length)&&decide (a0_1.length+1<=4294967296))&&true) (.scal (fun _=>true) (.need (inR .i64 (x0_20+(1:Int))) (.go (.l0 (x0_20+(1:Int)) ((listZ c1)::a0_1)))))))) (.wait 2 (.frz 1 ((decide (a0_1.length<=a0_1.length))&&true) (.vle 6 (.list 1 a0_1.length (rowsRev (tlist tint) a0_1)) ((tlist tint).lst a0_1.reverse) (.call 84 [(tlist tint).lst a0_1.reverse,fF 85] (tint.lst c5) true true (.out (.r1 c5 0)))))))
noncomputable def g31(x:Case):P31->List Item × St
 |.e=>bd Tryz.f31 [.agg (cC x)] 38
 |.l0 x0_20 a0_1=>(cutOf Tryz.f31 0,⟨mk 39 [(1,.ref 0 0 0),(6,.row 1 a0_1.length),(18,(tlist tint).lst (someL x (caseSets x))),(19,iI (((someL x (caseSets x)).length):Int)),(20,iI x0_20)],[.cells (cC x),.rows 26 1 a0_1.length (rowsRev (tlist tint) a0_1)],[]⟩)
def n31:R31->Exit × St
 |.r0 r1=>(.ret,⟨mk 39 [(2,.nils),(3,iI r1)],[],[]⟩)
 |.r1 r0 r1=>(.ret,⟨mk 39 [(2,tint.lst r0),(3,iI r1)],[],[]⟩)
def v31:R31->V
 |.r0 r1=>.tuple [tint.lst ([]:List Int),iI r1]
 |.r1 r0 r1=>.tuple [tint.lst r0,iI r1]
theorem s31(x:Case):Sm 0 (g31 x) (T31 x) (n31)
 |.e=>⟨400,by kernel_rfl⟩
 |.l0 _ _=>⟨400,by kernel_rfl⟩
theorem q31:∀r,bodyQ Tryz.prog Tryz.f31 (·=v31 r) (n31 r).1 (n31 r).2
 |.r0 r1=>⟨.inr rfl,by simp[n31],(.tuple [.nils,iI r1]),(.tuple [tint.lst ([]:List Int),iI r1]),by kernel_rfl,(.tuple rfl fun j hj=>match j,hj with|0,_=>.weak (.imm rfl) VLe.nils|1,_=>.imm rfl),rfl⟩
 |.r1 r0 r1=>bq (.tuple [tint.lst r0,iI r1]) (by kernel_rfl)
theorem w31(x:Case){post:V->Prop}(h:WQ (T31 x) v31 post .e):PC 31 [.agg (cC x)] post:=
 PCalls.wq Tryz.func31 (s31 x) q31 h
inductive P33_e
 |e
inductive R33_e
 |r0 (r1:Int) (r2:Int)
def T33_e(x:Case):P33_e->Tr P33_e R33_e
 |.e=>(.call 63 [.agg (cC x),fF 64] (.tuple [.nil,iI ((truthsE x 0).2)]) true true (.br ((truthsE x 0).2 !=(0:Int)) (.out (.r0 0 ((truthsE x 0).2))) (.wait 2 .never)))
noncomputable def g33_e(x:Case):P33_e->List Item × St
 |.e=>bd Tryz.f33 [.agg (cC x)] 22
def n33_e:R33_e->Exit × St
 |.r0 r1 r2=>(.ret,⟨mk 23 [(2,.nils),(3,iI r1),(4,iI r2)],[],[]⟩)
def v33_e:R33_e->V
 |.r0 r1 r2=>.tuple [tint.lst ([]:List Int),iI r1,iI r2]
theorem s33_e(x:Case):Sm 0 (g33_e x) (T33_e x) (n33_e)
 |.e=>⟨400,by kernel_rfl⟩
theorem q33_e:∀r,bodyQ Tryz.prog Tryz.f33 (·=v33_e r) (n33_e r).1 (n33_e r).2
 |.r0 r1 r2=>⟨.inr rfl,by simp[n33_e],(.tuple [.nils,iI r1,iI r2]),(.tuple [tint.lst ([]:List Int),iI r1,iI r2]),by kernel_rfl,(.tuple rfl fun j hj=>match j,hj with|0,_=>.weak (.imm rfl) VLe.nils|1,_=>.imm rfl|2,_=>.imm rfl),rfl⟩
theorem w33_e(x:Case){post:V->Prop}(h:WQ (T33_e x) v33_e post .e):PC 33 [.agg (cC x)] post:=
 PCalls.wq Tryz.func33 (s33_e x) q33_e h
inductive P33_o
 |e
inductive R33_o
 |r0 (r1:Int) (r2:Int)
 |r1 (r0:List Int) (r1:Int) (r2:Int)
def T33_o(x:Case):P33_o->Tr P33_o R33_o
 |.e=>let c2:=caseSets x;let c1:=bstOf (worthP x) [] (someL x c2);(.call 63 [.agg (cC x),fF 64] (.tuple [court x c2,iI ((truthsE x 0).2)]) true true (.br ((truthsE x 0).2 !=(0:Int)) (.out (.r0 0 ((truthsE x 0).2))) (.wait 2 (.frz 1 (underL 0 [court x c2]) (.call 82 [court x c2] ((tlist tint).lst (someL x c2)) true true (.call 84 [(tlist tint).lst (someL x c2),fG 87 [rR (court x c2)]] (tint.lst c1) true true (.call 88 [court x c2,tint.lst c1] (iI (worth x c1)) true true (.out (.r1 c1 (worth x c1) 0)))))))))
noncomputable def g33_o(x:Case):P33_o->List Item × St
 |.e=>bd Tryz.f33 [.agg (cC x)] 22
def n33_o:R33_o->Exit × St
 |.r0 r1 r2=>(.ret,⟨mk 23 [(2,.nils),(3,iI r1),(4,iI r2)],[],[]⟩)
 |.r1 r0 r1 r2=>(.ret,⟨mk 23 [(2,tint.lst r0),(3,iI r1),(4,iI r2)],[],[]⟩)
def v33_o:R33_o->V
 |.r0 r1 r2=>.tuple [tint.lst ([]:List Int),iI r1,iI r2]
 |.r1 r0 r1 r2=>.tuple [tint.lst r0,iI r1,iI r2]
theorem s33_o(x:Case):Sm 0 (g33_o x) (T33_o x) (n33_o)
 |.e=>⟨400,by kernel_rfl⟩
theorem q33_o:∀r,bodyQ Tryz.prog Tryz.f33 (·=v33_o r) (n33_o r).1 (n33_o r).2
 |.r0 r1 r2=>⟨.inr rfl,by simp[n33_o],(.tuple [.nils,iI r1,iI r2]),(.tuple [tint.lst ([]:List Int),iI r1,iI r2]),by kernel_rfl,(.tuple rfl fun j hj=>match j,hj with|0,_=>.weak (.imm rfl) VLe.nils|1,_=>.imm rfl|2,_=>.imm rfl),rfl⟩
 |.r1 r0 r1 r2=>bq (.tuple [tint.lst r0,iI r1,iI r2]) (by kernel_rfl)
theorem w33_o(x:Case){post:V->Prop}(h:WQ (T33_o x) v33_o post .e):PC 33 [.agg (cC x)] post:=
 PCalls.wq Tryz.func33 (s33_o x) q33_o h
theorem c63e{x:Case}(h:(truthsE x 0).2≠0):PC 63 [.agg (tCase.cells x),fF 64] (·=.tuple [.nil,iI (truthsE x 0).2]):=by
 have:=c63f x;unfold entP at this;rwa[if_neg h]at this
theorem c63o{x:Case}(h:(truthsE x 0).2=0):PC 63 [.agg (tCase.cells x),fF 64] (·=.tuple [court x (caseSets x),iI (truthsE x 0).2]):=by
 have:=c63f x;unfold entP at this;rwa[if_pos h]at this
theorem listZ_in{n:Int}:∀i∈listZ n,0<=i/\i<5:=fun i hi=>by
 simp only[listZ,filtI,List.mem_map,List.mem_filter,List.mem_range]at hi;obtain⟨q,⟨h1,_⟩,rfl⟩:=hi;omega
end
structure Strict{τ:Type}(lt:τ->τ->Bool):Prop where
 irr:∀a,lt a a=false
 tr:∀a b c,lt a b=true->lt b c=true->lt a c=true
 tot:∀a b,a=b\/lt a b=true\/lt b a=true
theorem less_irr:∀a,less a a=false
 |[]=>rfl
 |x::a=>by simp[less,less_irr a]
theorem less_tr:∀a b c,less a b=true->less b c=true->less a c=true
 |[],[],_,h,_=>by simp[less]at h
 |[],_::_,[],_,h=>by simp[less]at h
 |[],_::_,_::_,_,_=>rfl
 |_::_,[],_,h,_=>by simp[less]at h
 |_::_,_::_,[],_,h=>by simp[less]at h
 |x::a,y::b,z::c,h1,h2=>by
  simp only[less]at h1 h2⊢;by_cases e1:x=y
  ·subst e1;rw[if_pos rfl]at h1;by_cases e2:x=z
   ·rw[if_pos e2]at h2⊢;exact less_tr a b c h1 h2
   ·rw[if_neg e2]at h2⊢;exact h2
  ·rw[if_neg e1]at h1;have h1:=of_decide_eq_true h1;by_cases e2:y=z
   ·subst e2;rw[if_neg e1];exact decide_eq_true h1
   ·rw[if_neg e2]at h2;have h2:=of_decide_eq_true h2;rw[if_neg (by omega)];exact decide_eq_true (by omega)
theorem less_tot:∀a b,a=b\/less a b=true\/less b a=true
 |[],[]=>.inl rfl
 |[],_::_=>.inr (.inl rfl)
 |_::_,[]=>.inr (.inr rfl)
 |x::a,y::b=>by
  simp only[less];by_cases e:x=y
  ·subst e;rcases less_tot a b with h|h|h
   ·exact .inl (by rw[h])
   ·exact .inr (.inl (by rw[if_pos rfl];exact h))
   ·exact .inr (.inr (by rw[if_pos rfl];exact h))
  ·rcases Int.lt_or_gt_of_ne e with h|h
   ·exact .inr (.inl (by rw[if_neg e];exact decide_eq_true h))
   ·exact .inr (.inr (by rw[if_neg (Ne.symm e)];exact decide_eq_true h))
theorem fewer_strict:Strict fewer where
 irr a:=by unfold fewer;rw[if_neg (by simp)];exact less_irr a
 tr a b c h1 h2:=by
  unfold fewer at*;by_cases e1:a.length=b.length
  ·rw[if_neg (by simp[e1])]at h1;by_cases e2:b.length=c.length
   ·rw[if_neg (by simp[e2])]at h2;rw[if_neg (by simp[e1,e2])];exact less_tr a b c h1 h2
   ·rw[if_pos e2]at h2;rw[if_pos (by omega)];have:=of_decide_eq_true h2;exact decide_eq_true (by omega)
  ·rw[if_pos e1]at h1;have h1:=of_decide_eq_true h1;by_cases e2:b.length=c.length
   ·rw[if_pos (by omega)];exact decide_eq_true (by omega)
   ·rw[if_pos e2]at h2;have h2:=of_decide_eq_true h2;rw[if_pos (by omega)];exact decide_eq_true (by omega)
 tot a b:=by
  unfold fewer;by_cases e:a.length=b.length
  ·rw[if_neg (by simp[e]),if_neg (by simp[e])];exact less_tot a b
  ·rw[if_pos e,if_pos (Ne.symm e)];rcases Nat.lt_or_gt_of_ne e with h|h
   ·exact .inr (.inl (decide_eq_true h))
   ·exact .inr (.inr (decide_eq_true h))
theorem worthP_eq(c:Case)(a b:List Int):worthP c a b=true↔worth c a>worth c b\/(worth c a=worth c b/\less a b=true):=by
 unfold worthP;rw[cmpL_less,Bool.or_eq_true,Bool.and_eq_true,decide_eq_true_iff,decide_eq_true_iff]
theorem worth_strict(c:Case):Strict (worthP c) where
 irr a:=by
  rw[Bool.eq_false_iff,ne_eq,worthP_eq,less_irr];rintro(h|⟨_,h⟩)
  ·omega
  ·cases h
 tr a b d h1 h2:=by
  rw[worthP_eq]at*;rcases h1 with h1|⟨h1,l1⟩<;>rcases h2 with h2|⟨h2,l2⟩
  ·exact .inl (by omega)
  ·exact .inl (by omega)
  ·exact .inl (by omega)
  ·exact .inr ⟨by omega,less_tr _ _ _ l1 l2⟩
 tot a b:=by
  rw[worthP_eq,worthP_eq];rcases Int.lt_trichotomy (worth c a) (worth c b)with h|h|h
  ·exact .inr (.inr (.inl h))
  ·rcases less_tot a b with e|e|e
   ·exact .inl e
   ·exact .inr (.inl (.inr ⟨h,e⟩))
   ·exact .inr (.inr (.inr ⟨h.symm,e⟩))
  ·exact .inr (.inl (.inl h))
theorem fold_best{τ:Type}{lt:τ->τ->Bool}(h:Strict lt):∀(l:List τ) (b:τ),(l.foldl (fun b y=>if lt y b=true then y else b) b=b\/l.foldl (fun b y=>if lt y b=true then y else b) b∈l)/\
  (b=l.foldl (fun b y=>if lt y b=true then y else b) b\/lt (l.foldl (fun b y=>if lt y b=true then y else b) b) b=true)/\
  ∀y∈l,y=l.foldl (fun b y=>if lt y b=true then y else b) b\/lt (l.foldl (fun b y=>if lt y b=true then y else b) b) y=true
 |[],b=>⟨.inl rfl,.inl rfl,fun _ h=>absurd h List.not_mem_nil⟩
 |x::l,b=>by
  rw[List.foldl_cons];obtain⟨h1,h2,h3⟩:=fold_best h l (if lt x b=true then x else b);generalize l.foldl (fun b y=>if lt y b=true then y else b) (if lt x b=true then x else b)=r at*
  by_cases e:lt x b=true
  ·rw[if_pos e]at h1 h2;refine⟨?_,?_,fun y hy=> ?_⟩
   ·rcases h1 with q|q
    ·exact .inr (q▸List.mem_cons_self ..)
    ·exact .inr (List.mem_cons_of_mem _ q)
   ·rcases h2 with q|q
    ·exact .inr (q▸e)
    ·exact .inr (h.tr _ _ _ q e)
   ·rcases List.mem_cons.1 hy with q|q
    ·subst q;exact h2
    ·exact h3 y q
  ·rw[if_neg e]at h1 h2;refine⟨?_,h2,fun y hy=> ?_⟩
   ·rcases h1 with q|q
    ·exact .inl q
    ·exact .inr (List.mem_cons_of_mem _ q)
   ·rcases List.mem_cons.1 hy with q|q
    ·subst q;rcases h.tot y b with z|z|z
     ·subst z;exact h2
     ·exact absurd z e
     ·rcases h2 with w|w
      ·exact .inr (w▸z)
      ·exact .inr (h.tr _ _ _ w z)
    ·exact h3 y q
theorem bst_best{τ:Type}{lt:τ->τ->Bool}(h:Strict lt){d:τ}{l:List τ}(hl:l≠ []):bstOf lt d l∈l/\∀y∈l,y=bstOf lt d l\/lt (bstOf lt d l) y=true:=by
 cases l with
 |nil=>exact absurd rfl hl
 |cons x l=>
  obtain⟨h1,h2,h3⟩:=fold_best h l x;refine⟨?_,fun y hy=> ?_⟩
  ·rcases h1 with q|q
   ·show l.foldl _ x∈_;rw[q];exact List.mem_cons_self ..
   ·exact List.mem_cons_of_mem _ q
  ·rcases List.mem_cons.1 hy with q|q
   ·subst q;exact h2
   ·exact h3 y q
theorem best_one{τ:Type}{lt:τ->τ->Bool}(h:Strict lt){l:List τ}{x y:τ}(hx:x∈l)(hy:y∈l)(h1:∀z∈l,z=x\/lt x z=true)(h2:∀z∈l,z=y\/lt y z=true):x=y:=by
 rcases h1 y hy with q|q
 ·exact q.symm
 ·rcases h2 x hx with z|z
  ·exact z
  ·have:=h.tr _ _ _ q z;rw[h.irr]at this;cases this
theorem find_min{τ:Type}{lt:τ->τ->Bool}{q:τ->Bool}:∀ {l:List τ} {x:τ},l.Pairwise (fun a b=>lt a b=true)->l.find? q=some x->q x=true/\x∈l/\∀y∈l,q y=true->y=x\/lt x y=true
 |[],_,_,h=>by cases h
 |a::l,x,hp,h=>by
  rw[List.find?_cons]at h;have hp:=List.pairwise_cons.1 hp;split at h
  ·rename_i hq;cases h
   exact⟨hq,List.mem_cons_self ..,fun y hy _=>by
    rcases List.mem_cons.1 hy with z|z
    ·exact .inl z
    ·exact .inr (hp.1 y z)⟩
  ·rename_i hq;obtain⟨h1,h2,h3⟩:=find_min hp.2 h
   exact⟨h1,List.mem_cons_of_mem _ h2,fun y hy hy2=>by
    rcases List.mem_cons.1 hy with z|z
    ·subst z;rw[hq]at hy2;cases hy2
    ·exact h3 y z hy2⟩
theorem set_list:∀n:Nat,n<32->setZ (listZ n)=n:=by decide+kernel
theorem list_in:∀n:Nat,n<32->∀i∈listZ n,0<=i/\i<5:=by decide+kernel
def compOf(k:Nat)(l:List Int):List Int:=listZ (bitsOf .andNot .i64 (((2^k:Nat):Int)-1) (setZ l))
theorem comp_list:∀k:Nat,k<6->∀n:Nat,n<2^k->compOf k (listZ n)=others k (listZ n)/\others k (others k (listZ n))=listZ n/\others k (listZ n)∈allP k (k+1):=by decide+kernel
theorem all_list:∀k:Nat,k<6->∀l∈allP k (k+1),others k (listZ ((setZ (others k l)).toNat:Int))=l/\(setZ (others k l)).toNat<2^k/\listZ ((setZ (others k l)).toNat:Int)=others k l:=by decide+kernel
theorem all_last:∀k:Nat,k<6->allP k (k+1)=allP k k++ [others k []]/\others k (others k [])=[]:=by decide+kernel
theorem all_asc:∀k:Nat,k<6->(allP k (k+1)).Pairwise fun a b=>fewer a b=true:=by decide+kernel
theorem allQ_list:∀k:Nat,k<6->(∀n:Nat,n<2^k->listZ n∈ []::allQ k k)/\∀l∈ []::allQ k k,listZ ((setZ l).toNat:Int)=l/\(setZ l).toNat<2^k:=by decide+kernel
theorem pow_le{k:Nat}(h:k<6):2^k<=32:=by
 rcases show k=0\/k=1\/k=2\/k=3\/k=4\/k=5 by omega with e|e|e|e|e|e<;>subst e<;>decide
theorem someP_can{sets:List Int}(hs:∀x∈sets,0<=x/\x<32){n:Nat}(hn:n<32):someP sets n=can sets (listZ n):=by
 have:=can_any (list_in n hn) hs;rw[set_list n hn]at this;exact this
theorem mem_someL{c:Case}{sets:List Int}(hs:∀x∈sets,0<=x/\x<32)(hk:c.claims.length<6){l:List Int}:l∈someL c sets↔∃n:Nat,n<2^c.claims.length/\can sets (listZ n)=true/\listZ n=l:=by
 unfold someL filtI;rw[List.map_map,List.mem_map];have hp:=pow_le hk;constructor
 ·rintro⟨n,h1,rfl⟩
  rw[List.mem_filter,List.mem_range]at h1;exact⟨n,h1.1,by rw[<-someP_can hs (by omega)];exact h1.2,rfl⟩
 ·rintro⟨n,h1,h2,rfl⟩
  exact⟨n,by rw[List.mem_filter,List.mem_range];exact⟨h1,by rw[someP_can hs (by omega)];exact h2⟩,rfl⟩
theorem can_nil{sets:List Int}(h:sets≠ []):can sets []=true:=by
 cases sets with
 |nil=>exact absurd rfl h
 |cons a l=>simp[can,allZ]
theorem sets_ne{x:Case}{e:Int}(h:(truthsE x e).2=0):caseSets x≠ []:=by
 unfold truthsE at h;split at h
 ·rename_i h1;exact absurd h h1
 split at h
 ·rename_i h1;exact absurd h h1
 split at h
 ·cases h
 ·rename_i h1;intro e;rw[e]at h1;exact h1 rfl
theorem fall_plain{x:Case}(h:(truthsE x 0).2=0):bstOf fewer [] ((someL x (caseSets x)).map (compOf x.claims.length))=(fallR x).1:=by
 have hk:x.claims.length<6:=by have:=(okOf h).1.five;omega
 have hne:=sets_ne h;have hs:∀y∈caseSets x,0<=y/\y<32:=setsOk;unfold fallR;rw[if_neg (by simp[h])];simp only;have hmem:=fun l=>mem_someL (c:=x) (l:=l) hs hk;generalize caseSets x=S at*
 generalize someL x S=L at*
 generalize x.claims.length=k at*
 have hL:∀l,l∈L.map (compOf k)↔l∈allP k (k+1)/\can S (others k l)=true:=fun l=>by
  rw[List.mem_map];constructor
  ·rintro⟨m,hm,rfl⟩
   obtain⟨n,h1,h2,rfl⟩:=(hmem m).1 hm;obtain⟨e1,e2,e3⟩:=comp_list k hk n h1;rw[e1];exact⟨e3,by rw[e2];exact h2⟩
  ·rintro⟨h1,h2⟩
   obtain⟨e1,e2,e3⟩:=all_list k hk l h1;exact⟨others k l,(hmem _).2 ⟨_,e2,by rw[e3];exact h2,e3⟩,by rw[<-e3,(comp_list k hk _ e2).1,e1]⟩
 obtain⟨a1,a2⟩:=all_last k hk;have hlast:others k []∈L.map (compOf k):=(hL _).2 ⟨by rw[a1];exact List.mem_append_right _ (List.mem_singleton.2 rfl),by rw[a2];exact can_nil hne⟩;have hb:=bst_best fewer_strict (d:=[]) (l:=L.map (compOf k)) fun e=>by rw[e]at hlast;cases hlast
 have hf:∃m,(allP k (k+1)).find? (fun l=>can S (others k l))=some m/\m=(match(allP k k).find? (fun l=>can S (others k l))with|some l=>l|none=>others k []):=by
  rw[a1,List.find?_append]
  cases(allP k k).find? (fun l=>can S (others k l))with
  |some l=>exact⟨l,rfl,rfl⟩
  |none=>exact⟨others k [],by simp[a2,can_nil hne],rfl⟩
 obtain⟨m,hm,hm2⟩:=hf;refine Eq.trans ?_ hm2;obtain⟨m1,m2,m3⟩:=find_min (lt:=fewer) (all_asc k hk) hm;exact best_one fewer_strict hb.1 ((hL m).2 ⟨m2,m1⟩) hb.2 fun z hz=>m3 z ((hL z).1 hz).1 ((hL z).1 hz).2
theorem better_fold(c:Case)(S:List Int):∀(l:List (List Int)) (b:List Int),l.foldl (better c S) b=(l.filter (can S)).foldl (fun b y=>if worthP c y b=true then y else b) b
 |[],_=>rfl
 |x::l,b=>by
  rw[List.foldl_cons,List.filter_cons,better_fold c S l]
  have e:∀q:Prop,(worth c x-worth c b>0\/(worth c x-worth c b=0/\less x b=true))↔worthP c x b=true:=fun _=>by
   rw[worthP_eq];constructor
   ·rintro(h|⟨h,h2⟩)
    ·exact .inl (by omega)
    ·exact .inr ⟨by omega,h2⟩
   ·rintro(h|⟨h,h2⟩)
    ·exact .inl (by omega)
    ·exact .inr ⟨by omega,h2⟩
  have e:=e True;unfold better;by_cases hc:can S x=true
  ·rw[if_pos hc,List.foldl_cons];congr 1
   by_cases hw:worthP c x b=true
   ·rw[if_pos ⟨hc,e.2 hw⟩,if_pos hw]
   ·rw[if_neg (fun h=>hw (e.1 h.2)),if_neg hw]
  ·rw[if_neg hc,if_neg fun h=>hc h.1]
theorem most_plain{x:Case}(h:(truthsE x 0).2=0):bstOf (worthP x) [] (someL x (caseSets x))=bestR x (caseSets x) x.claims.length:=by
 have hk:x.claims.length<6:=by have:=(okOf h).1.five;omega
 have hne:=sets_ne h;have hs:∀y∈caseSets x,0<=y/\y<32:=setsOk;have hmem:=fun l=>mem_someL (c:=x) (l:=l) hs hk;unfold bestR;rw[better_fold];generalize caseSets x=S at*
 generalize someL x S=L at*
 generalize x.claims.length=k at*
 obtain⟨q1,q2⟩:=allQ_list k hk;have hcn:=can_nil hne
 have hL:∀l,l∈L↔l∈ []::(allQ k k).filter (can S):=fun l=>by
  rw[hmem,List.mem_cons,List.mem_filter];constructor
  ·rintro⟨n,h1,h2,rfl⟩
   rcases List.mem_cons.1 (q1 n h1)with z|z
   ·exact .inl z
   ·exact .inr ⟨z,h2⟩
  ·rintro(rfl|⟨h1,h2⟩)
   ·obtain⟨e1,e2⟩:=q2 [] (List.mem_cons_self ..);exact⟨_,e2,by rw[e1];exact hcn,e1⟩
   ·obtain⟨e1,e2⟩:=q2 l (List.mem_cons_of_mem _ h1);exact⟨_,e2,by rw[e1];exact h2,e1⟩
 have h0:[]∈L:=(hL []).2 (List.mem_cons_self ..);have hb:=bst_best (worth_strict x) (d:=[]) (l:=L) fun e=>by rw[e]at h0;cases h0
 have hb2:=bst_best (worth_strict x) (d:=[]) (l:=[]::(allQ k k).filter (can S)) (by simp);exact best_one (worth_strict x) hb.1 ((hL _).2 hb2.1) hb.2 fun z hz=>hb2.2 z ((hL z).1 hz)
noncomputable section
theorem comp_in:∀k:Nat,k<6->∀n:Nat,n<32->0<=bitsOf .andNot .i64 (((2^k:Nat):Int)-1) (n:Int)/\bitsOf .andNot .i64 (((2^k:Nat):Int)-1) (n:Int)<32:=by decide+kernel
theorem in_small{N:Nat}(h:N<=32):inR .i64 (N:Int)=true:=inR64 (by omega) (by omega)
theorem in_small1{N:Nat}(h:N<=32):inR .i64 ((N:Int)-1)=true:=inR64 (by omega) (by omega)
theorem under_court(x:Case)(l:List Int):underL 0 [court x l]=true:=rfl
theorem c31(x:Case):PC 31 [.agg (tCase.cells x)] (·=.tuple [tint.lst (fallR x).1,iI (fallR x).2]):=by
 by_cases h:(truthsE x 0).2=0
 ·have hok:=(okOf h).1;have h5:=hok.five;have hk:x.claims.length<6:=by omega
  obtain⟨hN,hN2⟩:=two_k h5;rw[Int.toNat_natCast]at hN;have hf:fallR x=((fallR x).1,0):=by unfold fallR;rw[if_neg (by simp[h])]
  have hp:=fall_plain h;rw[hf,<-hp];clear hf hp
  have hmem:=fun l=>mem_someL (c:=x) (l:=l) (setsOk (x:=x)) hk;have hNr:=in_small hN2;have hNr1:=in_small1 hN2
  have hnum:∀l∈someL x (caseSets x),(∀n∈l,0<=n/\n<5)/\0<=bitsOf .andNot .i64 (((2^x.claims.length:Nat):Int)-1) (setZ l)/\bitsOf .andNot .i64 (((2^x.claims.length:Nat):Int)-1) (setZ l)<32:=fun l hl=>by
   obtain⟨n,h1,_,rfl⟩:=(hmem l).1 hl;refine⟨listZ_in,?_⟩;rw[set_list n (by omega)];exact comp_in _ hk n (by omega)
  have hlen:(someL x (caseSets x)).length<=32:=by unfold someL;rw[List.length_map];exact Nat.le_trans (filtI_len _ _) hN2
  have h82:=c82 x (caseSets x) hok;generalize hL:someL x (caseSets x)=L at*
  refine w31 x (WP.step ?_);simp only[T31,Go,Ends',v31,Tr.sure,SS,hL];repeat' with_reducible first|intro _|apply aI
  all_goals first|exact(c63f x)|exact(VLe.undef _)|exact(entP_le (by with_reducible assumption))|exact h82|(simp_all [Go,Ends',v31,-List.getD_eq_getElem?_getD];done)|skip
  refine WP.run (fun(i:Nat)=>.l0 i ((L.take i).map (compOf x.claims.length)).reverse) rfl L.length (fun i hi=> ?_) ?_
  ·have hr:inR .i64 ((i:Int)+1)=true:=inR64 (by omega) (by omega);have hi':(i:Int)<L.length:=by omega
   have hz:(tlist tint).zero=([]:List Int):=rfl;have hm:=hnum _ (getD_mem [] L i hi);have hle:((L.take i).map (compOf x.claims.length)).reverse.length+1<=4294967296:=by rw[List.length_reverse,List.length_map,List.length_take];omega
   have hn:((L.take (i+1)).map (compOf x.claims.length)).reverse=compOf x.claims.length (L.getD i [])::((L.take i).map (compOf x.claims.length)).reverse:=by
    rw[take_snoc [] L i hi,List.map_append,List.reverse_append];rfl
   have e:compOf x.claims.length (L.getD i [])=listZ (bitsOf .andNot .i64 (((2^x.claims.length:Nat):Int)-1) (setZ (L.getD i []))):=rfl;rw[hn,e];generalize((L.take i).map (compOf x.claims.length)).reverse=A at*
   refine WP.once ?_;simp only[T31,Tr.sure,SS,hi',hi,hz,hL,hN];repeat' with_reducible first|intro _|apply aI
   all_goals first|exact(c72 _ hm.1)|exact(c83 _ hm.2)|(simp[hr,hle,hNr,hNr1,Go,Ends',v31,-List.getD_eq_getElem?_getD, *];done)|(simp_all [hr,hle,hNr,hNr1,Go,Ends',v31,-List.getD_eq_getElem?_getD];done)
  ·rw[List.take_length];have h84:=c84 (p:=fewer) (ok:=fun _=>True) (L.map (compOf x.claims.length)) (fun a b _ _=>c85 a b) (fun _ _=>trivial) trivial;refine WP.step ?_;simp only[T31,Go,Ends',v31,Tr.sure,SS,hL,List.reverse_reverse];repeat' with_reducible first|intro _|apply aI
   all_goals first|exact(VLe.rr (tlist tint) _)|exact h84|(simp[Go,Ends',v31,-List.getD_eq_getElem?_getD, *];done)
 ·have hf:fallR x=([],(truthsE x 0).2):=by unfold fallR;rw[if_pos h]
  refine w31 x (WP.step ?_);simp only[T31,Go,Ends',v31,Tr.sure,SS];repeat' with_reducible first|intro _|apply aI
  all_goals first|exact(c63f x)|exact(VLe.undef _)|exact(entP_le (by with_reducible assumption))|(simp[hf,Go,Ends',v31,-List.getD_eq_getElem?_getD, *];done)|(simp_all [hf,Go,Ends',v31,-List.getD_eq_getElem?_getD];done)
theorem c33(x:Case):PC 33 [.agg (tCase.cells x)] (·=.tuple [tint.lst (mostR x).1,iI (mostR x).2.1,iI (mostR x).2.2]):=by
 by_cases h:(truthsE x 0).2=0
 ·have hok:=(okOf h).1;have h5:=hok.five;have hk:x.claims.length<6:=by omega
  have hN2:=pow_le hk;have hf:mostR x=(bestR x (caseSets x) x.claims.length,worth x (bestR x (caseSets x) x.claims.length),0):=by unfold mostR;rw[if_neg (by simp[h])]
  have hmem:=fun l=>mem_someL (c:=x) (l:=l) (setsOk (x:=x)) hk;have hb:OkL x (bestR x (caseSets x) x.claims.length):=okL_best (by omega);rw[hf,<-most_plain h];rw[<-most_plain h]at hb;have hq:=allQ_list x.claims.length hk
  have hok2:∀l∈someL x (caseSets x),OkL x l:=fun l hl=>by
   obtain⟨n,h1,_,rfl⟩:=(hmem l).1 hl;rcases List.mem_cons.1 (hq.1 n h1)with q|q
   ·rw[q];exact⟨by simp,by simp⟩
   ·simp only[allQ,List.mem_flatMap,List.mem_range]at q;obtain⟨m,h1,h2⟩:=q;exact okL_picks (by omega) _ h2
  have h84:=c84c (c:=x) (ks:=caseSets x) (p:=worthP x) (ok:=OkL x) (someL x (caseSets x)) (fun a b ha hb=>c87 x (caseSets x) a b hok ha hb) hok2 ⟨by simp,by simp⟩;refine w33_o x (WP.step ?_);simp only[T33_o,Go,Ends',v33_o,Tr.sure,SS];repeat' with_reducible first|intro _|apply aI
  all_goals first|exact(c63o h)|exact(c82 x _ hok)|exact h84|exact(c88 _ _ _ hok hb)|exact(by with_reducible exact under_court _ _)|(simp_all [h,Go,Ends',v33_o,-List.getD_eq_getElem?_getD];done)
 ·have hf:mostR x=([],0,(truthsE x 0).2):=by unfold mostR;rw[if_pos h]
  refine w33_e x (WP.step ?_);simp only[T33_e,Go,Ends',v33_e,Tr.sure,SS];repeat' with_reducible first|intro _|apply aI
  all_goals first|exact(c63e h)|(simp[hf,h,Go,Ends',v33_e,-List.getD_eq_getElem?_getD, *];done)|(simp_all [hf,h,Go,Ends',v33_e,-List.getD_eq_getElem?_getD];done)
end
end Go.Proofs.YtdamoemndifpmaaGreat
