/-
  Part of the proof of the Claim laws. Conditions: those that stand in each theorem.
-/
import Derived.Test.YtdamoemndifpmaaGreatB16
set_option linter.unusedSimpArgs false
set_option linter.unusedVariables false
set_option maxRecDepth 100000
namespace Go.Proofs.YtdamoemndifpmaaGreat
open Ab Go
noncomputable section
inductive P104
 |e
inductive R104
 |r0 (r1_0:List MTru) (r2:Int)
noncomputable def T104(s:Shop)(many:Int)(l:List Int):P104->Tr P104 R104
 |.e=>let c2:=(l.length:Int)==(2:Int);let c3:=many-(1:Int);let c4:Tr P104 R104:=.wait 1 .never;let c1:Tr P104 R104:=.call 149 [lkS s (lookM s)] (fG 189 [rR (lkS s (lookM s))]) true true (.wait 1 (.drop ⟨(ud 6++ [.nil,.nil]++ud 30++ [.nil]++ud 10),[.void,.void],[]⟩ (.over (rangeOf Tryz.f104) ⟨(ud 6++ [lkS s (lookM s),.ref 1 0 0]++ud 30++ [fG 189 [rR (lkS s (lookM s))]]++ud 10),[.cells (tShop.cells s),.cells [.nils]],[]⟩ .normal ⟨(ud 6++ [lkS s (lookM s),.ref 1 0 0]++ud 30++ [fG 189 [rR (lkS s (lookM s))]]++ud 10),[.cells (tShop.cells s),.cells [.row 2 ((allM s).length)],.rows 157 24 ((allM s).length) (rowsOf tMTru (allM s)),.obj (.deferred (some []))],[3]⟩ true (.wait 3 (.frz 2 (true&&(((decide ((allM s).length<=(allM s).length))&&true)&&true)) (.telc 1 [.list 24 ((allM s).length) (rowsOf tMTru (allM s))] [tMTru.lst (allM s)] (.br ((((allM s).length):Int)==(0:Int)) c4 (.wait 2 (.drop ⟨(ud 6++ [.nil,.nil]++ud 41),[.void,.void,.void,.void],[]⟩ (.over (regionOf Tryz.f104 13) ⟨(ud 6++ [lkS s (lookM s),.ref 1 0 0]++ud 41),[.cells (tShop.cells s),.cells [tMTru.lst (allM s)],.gone,.obj (.deferred (some []))],[3]⟩ .normal ⟨(ud 6++ [lkS s (lookM s),.ref 1 0 0,iI 0]++ud 38++ [lkS s (lookM s),tMTru.lst (allM s)]),[.cells (tShop.cells s),.cells [tMTru.lst (allM s)],.gone,.obj (.deferred (some []))],[3]⟩ true (.out (.r0 (allM s) 0))))))))))));(.call 148 [.agg (tShop.cells s)] (.tuple [lkS s (lookM s),iI 0]) true true (.br ((0:Int) !=(0:Int)) c4 (.need (inR .i64 c3) (.call 109 [iI 0,iI c3,tint.lst l] (.bool (outside 0 c3 l)) true true (.br (outside 0 c3 l) c4 (.br c2 (.front [] [(3,true)] (((c2==true)&&((decide (0<=(0:Int))&&decide ((0:Int)<(l.length:Int)))&&((decide (0<=(1:Int))&&decide ((1:Int)<(l.length:Int)))&&true)))&&true) true (.lit true (.br ((l.getD ((0:Int)).toNat tint.zero)==(l.getD ((1:Int)).toNat tint.zero)) c4 c1))) (.front [] [(3,false)] (((c2==false)&&true)&&true) true (.lit false (.lit false c1)))))))))
noncomputable def g104(s:Shop)(many:Int)(l:List Int):P104->List Item × St
 |.e=>bd Tryz.f104 [.agg (tShop.cells s),iI many,tint.lst l] 46
noncomputable def n104(s:Shop)(many:Int)(l:List Int):R104->Exit × St
 |.r0 r1_0 r2=>(.ret,⟨mk 49 [(6,lkS s (lookM s)),(7,.ref 1 0 0),(8,iI r2)],[.gone,.cells [tMTru.lst r1_0],.gone,.obj (.deferred (some []))],[3]⟩)
noncomputable def v104(s:Shop)(many:Int)(l:List Int):R104->V
 |.r0 r1_0 r2=>.tuple [lkS s (lookM s),tMTru.lst r1_0,iI r2]
theorem s104(s:Shop)(many:Int)(l:List Int):Sm 0 (g104 s many l) (T104 s many l) (n104 s many l)
 |.e=>⟨400,by kernel_rfl⟩
theorem q104(s:Shop)(many:Int)(l:List Int):∀r,bodyQ Tryz.prog Tryz.f104 (·=v104 s many l r) (n104 s many l r).1 (n104 s many l r).2
 |.r0 r1_0 r2=>⟨.inr rfl,by simp[n104],(.tuple [lkS s (lookM s),tMTru.lst r1_0,iI r2]),(.tuple [lkS s (lookM s),tMTru.lst r1_0,iI r2]),by kernel_rfl,(.imm rfl),rfl⟩
theorem w104(s:Shop)(many:Int)(l:List Int){post:V->Prop}(h:WP Tryz.prog ⟨none,0⟩ (T104 s many l) (Ends' fun r=>post (v104 s many l r)) .e):PC 104 [.agg (tShop.cells s),iI many,tint.lst l] post:=
 PCalls.wq Tryz.func104 (s104 s many l) (q104 s many l) h
noncomputable def o104_13:Array Oper:=(regOf 13 (Tryz.f104.body.getD .skip)).getD #[]
@[reducible] noncomputable def st104_13 (s:Shop) (c:Nat->Bool):St:=⟨(ud 6++ [lkS s (lookM s),.ref 1 0 0]++ud 39++ [(bif c 0 then lkS s (lookM s)else(uU)),(bif c 1 then tMTru.lst (allM s)else(uU))]),[.cells (tShop.cells s),.cells [tMTru.lst (allM s)],.gone,.obj (.deferred (some []))],[3]⟩
def t104_13:Tab:=[([],[1]),([],[0,2]),([0],[1])]
theorem ov104_13(s:Shop):AWP Tryz.prog ⟨none,0⟩ (regionOf Tryz.f104 13) ⟨(ud 6++ [lkS s (lookM s),.ref 1 0 0]++ud 41),[.cells (tShop.cells s),.cells [tMTru.lst (allM s)],.gone,.obj (.deferred (some []))],[3]⟩ (fun e T=>e=.normal/\T=⟨(ud 6++ [lkS s (lookM s),.ref 1 0 0,iI 0]++ud 38++ [lkS s (lookM s),tMTru.lst (allM s)]),[.cells (tShop.cells s),.cells [tMTru.lst (allM s)],.gone,.obj (.deferred (some []))],[3]⟩):=by
 refine AWP.region_bits (ops:=o104_13) 3 0 t104_13 mx (st104_13 s) (fun z_i z_h c=> ?_) ?_
 ·rcases show z_i=0\/z_i=1\/z_i=2 by omega with rfl|rfl|rfl
  ·exact AStep.rd true (lkS s (lookM s)) rfl
  ·exact AStep.rd true (tMTru.lst (allM s)) rfl
  ·exact AStep.rd true (lkS s (lookM s)) rfl
 ·refine AOps.tree (g:=(.done .normal ⟨(ud 6++ [lkS s (lookM s),.ref 1 0 0,iI 0]++ud 38++ [lkS s (lookM s),tMTru.lst (allM s)]),[.cells (tShop.cells s),.cells [tMTru.lst (allM s)],.gone,.obj (.deferred (some []))],[3]⟩)) (by kernel_rfl) ?_;simp only[DT.holds];repeat' (first|exact rfl|refine And.intro ?_ ?_)
  all_goals simp
inductive P104a
 |e
inductive R104a
 |r0 (r0:Int) (r1:List Mould) (r2:List Head) (r3:List MTru) (r4:Int) (r5:Int) (r6:Int) (r7:Int) (r8:Int) (r9:Int) (r10:Int) (r11:Int) (r12:Int) (r13:Int) (r14:Int) (r15:Int) (r16:Int) (r17:Int) (r18:Int) (r19:Int) (r20:Int) (r21:Int) (r22:Int) (r23:Int) (r24:Int) (r25:Int) (r26:Int) (r27:Int)
noncomputable def T104a(s:Shop)(n:Nat)(A:List MTru)(x:MTru):P104a->Tr P104a R104a
 |.e=>(.out (.r0 s.features s.moulds s.heads A ((x.casts 0).mould) ((x.casts 0).number) ((x.casts 1).mould) ((x.casts 1).number) ((x.casts 2).mould) ((x.casts 2).number) ((x.casts 3).mould) ((x.casts 3).number) ((x.lasts 0 0).lo) ((x.lasts 0 0).hi) ((x.lasts 0 1).lo) ((x.lasts 0 1).hi) ((x.lasts 0 2).lo) ((x.lasts 0 2).hi) ((x.lasts 0 3).lo) ((x.lasts 0 3).hi) ((x.lasts 1 0).lo) ((x.lasts 1 0).hi) ((x.lasts 1 1).lo) ((x.lasts 1 1).hi) ((x.lasts 1 2).lo) ((x.lasts 1 2).hi) ((x.lasts 1 3).lo) ((x.lasts 1 3).hi)))
noncomputable def g104a(s:Shop)(n:Nat)(A:List MTru)(x:MTru):P104a->List Item × St
 |.e=>([.code (asgOf (rangeOf Tryz.f104))],⟨(ud 6++ [lkS s (lookM s),.ref 1 0 0]++ud 30++ [fG 189 [rR (lkS s (lookM s))],.agg (tMTru.cells x)]++ud 9),[.cells (tShop.cells s),.cells [.row 2 n],.rows 157 24 n (rowsOf tMTru A)],[]⟩)
noncomputable def n104a(s:Shop)(n:Nat)(A:List MTru)(x:MTru):R104a->Exit × St
 |.r0 r0 r1 r2 r3 r4 r5 r6 r7 r8 r9 r10 r11 r12 r13 r14 r15 r16 r17 r18 r19 r20 r21 r22 r23 r24 r25 r26 r27=>(.normal,⟨mk 49 [(6,lkS s (lookM s)),(7,.ref 1 0 0),(9,.ref 3 0 0)],[.cells [iI r0,tMould.lst r1,tHead.lst r2],.cells [.row 2 n],.rows 157 24 n (rowsOf tMTru r3),.cells [iI r4,iI r5,iI r6,iI r7,iI r8,iI r9,iI r10,iI r11,iI r12,iI r13,iI r14,iI r15,iI r16,iI r17,iI r18,iI r19,iI r20,iI r21,iI r22,iI r23,iI r24,iI r25,iI r26,iI r27]],[]⟩)
theorem s104a(s:Shop)(n:Nat)(A:List MTru)(x:MTru):Sm 2 (g104a s n A x) (T104a s n A x) (n104a s n A x)
 |.e=>⟨400,by kernel_rfl⟩
inductive P104b
 |e
inductive R104b
 |r0 (r0:Int) (r1:List Mould) (r2:List Head) (r3:List MTru)
noncomputable def T104b(s:Shop)(n:Nat)(A:List MTru)(x:MTru):P104b->Tr P104b R104b
 |.e=>(.need ((decide (n=n)&&decide (n+1<=4294967296))&&decide (1<=1)) (.scal (fun _=>true) (.telb 2 24 (n+1) (appC n (rowsOf tMTru A) (litC 24 1 (tMTru.cells x))) (rowsOf tMTru (A++ [x])) (.out (.r0 s.features s.moulds s.heads (A++ [x]))))))
noncomputable def g104b(s:Shop)(n:Nat)(A:List MTru)(x:MTru):P104b->List Item × St
 |.e=>([.code (bdyOf (rangeOf Tryz.f104))],⟨(ud 6++ [lkS s (lookM s),.ref 1 0 0,uU,.ref 3 0 0]++ud 39),[.cells (tShop.cells s),.cells [.row 2 n],.rows 157 24 n (rowsOf tMTru A),.cells (tMTru.cells x)],[]⟩)
noncomputable def n104b(s:Shop)(n:Nat)(A:List MTru)(x:MTru):R104b->Exit × St
 |.r0 r0 r1 r2 r3=>(.normal,⟨mk 49 [],[.cells [iI r0,tMould.lst r1,tHead.lst r2],.cells [.row 2 (n+1)],.rows 157 24 (n+1) (rowsOf tMTru r3)],[]⟩)
theorem s104b(s:Shop)(n:Nat)(A:List MTru)(x:MTru):Sm 2 (g104b s n A x) (T104b s n A x) (n104b s n A x)
 |.e=>⟨400,by kernel_rfl⟩
abbrev HE4(s:Shop)(A:List MTru):List Blk:=[.cells (tShop.cells s),.cells [.row 2 A.length],.rows 157 24 A.length (rowsOf tMTru A)]
abbrev t104(s:Shop):List V:=List.replicate 6 uU++ [lkS s (lookM s),.ref 1 0 0]++List.replicate 30 uU++ [fG 189 [rR (lkS s (lookM s))]]++List.replicate 10 uU
theorem under_t104(s:Shop)(j:Nat):((t104 s).getD j uU).under 2=true:=by
 rcases Nat.lt_or_ge j 49 with h|h
 ·exact List.all_eq_true.1 (show(List.range 49).all (fun j=>((t104 s).getD j uU).under 2)=true from rfl) j (List.mem_range.2 h)
 ·rw[gE,List.getElem?_eq_none (show(t104 s).length<=j from h)];rfl
theorem tel_tru(A:List MTru)(x:MTru)(r j:Nat)(hr:r<A.length+1):VLe (appC A.length (rowsOf tMTru A) (litC 24 1 (tMTru.cells x)) r j) (rowsOf tMTru (A++ [x]) r j):=VLe.app tMTru A x rfl hr
set_option maxHeartbeats 4000000 in
theorem round104(s:Shop)(A:List MTru)(x:MTru)(lid:Nat)(hA:A.length+1<=4294967296):
  AWP Tryz.prog ⟨some lid,2⟩ (bdyOf (rangeOf Tryz.f104)) (g104b s A.length A x .e).2 fun e S2=>e=.normal/\S2.h=HE4 s (A++ [x]):=by
 have hl:(A++ [x]).length=A.length+1:=by simp
 refine AWP.wp mx (T104b s A.length A x) (g104b s A.length A x) (n104b s A.length A x) .e rfl (s104b s A.length A x) (post:=fun r=>(n104b s A.length A x r).1=.normal/\(n104b s A.length A x r).2.h=HE4 s (A++ [x])) ?_ (fun r hr=>hr);unfold HE4;rw[hl];refine WP.step ?_;simp only[T104b,Go,Ends',Tr.sure,SS];repeat' with_reducible first|intro _|apply aI
 all_goals first|exact(by with_reducible exact tel_tru _ _ _ _ (by assumption))|(simp[hA,Go,Ends',-List.getD_eq_getElem?_getD, *];done)|skip
 all_goals first
  |exact⟨rfl,rfl⟩
  |exact rfl
set_option maxHeartbeats 4000000 in
theorem range104(s:Shop)(hok:OkShop s):
  AWP Tryz.prog ⟨none,0⟩ (rangeOf Tryz.f104) ⟨t104 s,[.cells (tShop.cells s),.cells [.nils]],[]⟩ (fun e T=>e=.normal/\T=⟨t104 s,[.cells (tShop.cells s),.cells [.row 2 (allM s).length],.rows 157 24 (allM s).length (rowsOf tMTru (allM s)),.obj (.deferred (some []))],[3]⟩):=by
 have e:rangeOf Tryz.f104=.rangeFunc (.tmp 38) #[39] (asgOf (rangeOf Tryz.f104)) (bdyOf (rangeOf Tryz.f104)):=by kernel_rfl
 have hlen:(ysM (allM s)).length=(allM s).length:=by unfold ysM;rw[List.length_map]
 have hall:=allM_len hok;rw[e];refine AWP.ownCell (i:=1) (j:=0) (n:=24) 157 (rowsOf tMTru []) rfl rfl (by decide) ?_
 refine(AWP.rangeMT (m0:=2) (by decide) (by show 2<=3;decide) (H:=fun k=>HE4 s ((allM s).take k)) (f:=189) (ys:=ysM (allM s)) (caps:=[rR (lkS s (lookM s))])
  rfl rfl (PCalls.enters Tryz.func189 (c:=Tryz.f189.body.getD .skip) (by kernel_rfl) (by kernel_rfl)) (c189 s hok) rfl (fun _=>rfl) (fun _=>rfl) rfl (fun j=> ?_) (fun lid k us hk=> ?_)).mono fun e T q=>⟨q.1,by
   rw[q.2,hlen];show(⟨_,HE4 s ((allM s).take (allM s).length)++_,_⟩:St)=_
   rw[List.take_length];rfl⟩
 ·exact under_t104 s j
 obtain⟨x,hx,hy⟩:∃x,(allM s)[k]? =some x/\yM x.casts x.lasts=.tuple us:=by
  unfold ysM at hk;rw[List.getElem?_map]at hk
  cases hf:(allM s)[k]? with
  |none=>rw[hf]at hk;cases hk
  |some x=>rw[hf]at hk;exact⟨x,rfl,Option.some.inj hk⟩
 obtain rfl:us=[.agg (tMTru.cells x)]:=by unfold yM at hy;cases hy;rfl
 have hkl:=(List.getElem?_eq_some_iff.1 hx).1;have hnx:(allM s).take (k+1)=(allM s).take k++ [x]:=by rw[List.take_add_one,hx];rfl
 have hkn:((allM s).take k).length+1<=4294967296:=by have:=List.length_take_le k (allM s);rw[List.length_take];omega
 simp only[hnx];generalize(allM s).take k=A at*
 refine⟨rfl,?_⟩
 refine AWP.wp mx (T104a s A.length A x) (g104a s A.length A x) (n104a s A.length A x) .e rfl (s104a s A.length A x)
  (post:=fun r=>(n104a s A.length A x r).1=.normal/\(n104a s A.length A x r).2=(g104b s A.length A x .e).2) ?_ (fun r hr=> ?_)
 ·refine WP.step ?_;simp only[T104a,Go,Ends',Tr.sure,SS];repeat' with_reducible first|intro _|apply aI
  all_goals first
   |exact⟨rfl,rfl⟩
   |exact rfl
 ·rw[hr.2];exact⟨hr.1,rfl,round104 s A x lid hkn⟩
set_option maxHeartbeats 4000000 in
theorem c104(s:Shop)(many:Int)(l:List Int)(h0:(shopCheck s).2.2=0)(hok:OkShop s)(hne:allM s≠ [])(hm:inR .i64 (many-1)=true)(ho:outside 0 (many-1) l=false)(h2:(l.length:Int)=2->¬l.getD 0 0=l.getD 1 0):
  PC 104 [.agg (tShop.cells s),iI many,tint.lst l] (·=.tuple [lkS s (lookM s),tMTru.lst (allM s),iI 0]):=by
 have hr:=range104 s hok;have k148:=c148 s h0 hok;have k149:=c149m (lookM s) s;have k109:=c109 0 (many-1) l;have hz:¬((allM s).length:Int)=0:=fun e=>hne (List.length_eq_zero_iff.1 (by omega));have hzi:tint.zero=0:=rfl;rw[ho]at k109;by_cases h3:(l.length:Int)=2
 ·have h4:=h2 h3;refine w104 s many l (WP.step ?_);simp only[T104,Go,Ends',v104,Tr.sure,SS,h3,h4,ho,hzi];repeat' with_reducible first|intro _|apply aI
  all_goals first|exact k148|exact k149|exact k109|exact hr|exact(ov104_13 s)|exact(VLe.refl _)|(simp[hm,hz,Go,Ends',v104,-List.getD_eq_getElem?_getD, *];done)|(simp_all [hm,hz,Go,Ends',v104,-List.getD_eq_getElem?_getD];done)
 ·refine w104 s many l (WP.step ?_);simp only[T104,Go,Ends',v104,Tr.sure,SS,h3,ho,hzi];repeat' with_reducible first|intro _|apply aI
  all_goals first|exact k148|exact k149|exact k109|exact hr|exact(ov104_13 s)|exact(VLe.refl _)|(simp[hm,hz,Go,Ends',v104,-List.getD_eq_getElem?_getD, *];done)|(simp_all [hm,hz,Go,Ends',v104,-List.getD_eq_getElem?_getD];done)
end
noncomputable section
inductive P56
 |e
 |l0 (x0_11:Int) (x0_31:Int)
inductive R56
 |r0 (r0:Int) (r1:Int)
noncomputable def T56(s:Shop)(u:Nat)(v:Nat):P56->Tr P56 R56
 |.e=>(.wait 4 (.frz 1 ((decide (2<=2))&&true) (.wait 0 (.vle 21 (.list 1 2 (litC 1 2 [iI (u:Int),iI (v:Int)])) (tint.lst ([(u:Int),(v:Int)]:List Int)) (.call 104 [.agg (tShop.cells s),iI (s.heads.length:Int),tint.lst ([(u:Int),(v:Int)]:List Int)] (.tuple [lkS s (lookM s),tMTru.lst (allM s),iI 0]) true true (.br ((0:Int) !=(0:Int)) (.wait 1 .never) (.go (.l0 0 0))))))))
 |.l0 x0_11 x0_31=>let c1:=(allM s).getD (x0_31).toNat tMTru.zero;let c2:=(((allM s).length):Int);let c3:=x0_31+(1:Int);let c4:=(c1.casts u).mould==(c1.casts v).mould;(.br (decide (x0_31<c2)) (.need (decide (0<=x0_31)&&decide (x0_31<c2)) (.wait 1 (.drop ⟨([uU,.nil,.nil]++ud 6++ [.nil,uU,.nil,uU,.nil]++ud 15++ [.nil,.nil,.nil]++ud 24),[.void],[]⟩ (.over (regionOf Tryz.f56 8) ⟨([uU,iI (u:Int),iI (v:Int)]++ud 6++ [tMTru.lst (allM s),uU,iI x0_11,uU,.ref 0 0 0]++ud 15++ [tMTru.lst (allM s),iI c2,iI x0_31]++ud 24),[.cells (tMTru.cells c1)],[]⟩ .normal ⟨([uU,iI (u:Int),iI (v:Int)]++ud 6++ [tMTru.lst (allM s),uU,iI x0_11,uU,.ref 0 0 0]++ud 15++ [tMTru.lst (allM s),iI c2,iI x0_31,uU,uU,uU,iI (u:Int),.ref 0 0 0,.ref 0 0 (0+u*2),.ref 0 0 (0+u*2),iI ((c1.casts u).mould),iI (v:Int),.ref 0 0 0,.ref 0 0 (0+v*2),.ref 0 0 (0+v*2),iI ((c1.casts v).mould),.bool c4]++ud 10),[.cells (tMTru.cells c1)],[]⟩ true (.br c4 (.need (inR .i64 (x0_11+(1:Int))) (.need (inR .i64 c3) (.go (.l0 (x0_11+(1:Int)) c3)))) (.need (inR .i64 c3) (.go (.l0 x0_11 c3)))))))) (.br (x0_11==c2) (.out (.r0 1 0)) (.br (x0_11==(0:Int)) (.out (.r0 2 0)) (.out (.r0 0 0)))))
noncomputable def g56(s:Shop)(u:Nat)(v:Nat):P56->List Item × St
 |.e=>bd Tryz.f56 [.agg (tShop.cells s),iI (u:Int),iI (v:Int)] 53
 |.l0 x0_11 x0_31=>(cutOf Tryz.f56 0,⟨mk 56 [(1,iI (u:Int)),(2,iI (v:Int)),(9,tMTru.lst (allM s)),(11,iI x0_11),(29,tMTru.lst (allM s)),(30,iI (((allM s).length):Int)),(31,iI x0_31)],[],[]⟩)
noncomputable def n56:R56->Exit × St
 |.r0 r0 r1=>(.ret,⟨mk 56 [(6,iI r0),(7,iI r1)],[],[]⟩)
noncomputable def v56:R56->V
 |.r0 r0 r1=>.tuple [iI r0,iI r1]
theorem s56(s:Shop)(u:Nat)(v:Nat):Sm 0 (g56 s u v) (T56 s u v) (n56)
 |.e=>⟨400,by kernel_rfl⟩
 |.l0 _ _=>⟨400,by kernel_rfl⟩
theorem q56:∀r,bodyQ Tryz.prog Tryz.f56 (·=v56 r) (n56 r).1 (n56 r).2
 |.r0 r0 r1=>bq (.tuple [iI r0,iI r1]) (by kernel_rfl)
theorem w56(s:Shop)(u:Nat)(v:Nat){post:V->Prop}(h:WQ (T56 s u v) v56 post .e):PC 56 [.agg (tShop.cells s),iI (u:Int),iI (v:Int)] post:=
 PCalls.wq Tryz.func56 (s56 s u v) q56 h
noncomputable def o56_8:Array Oper:=(regOf 8 (Tryz.f56.body.getD .skip)).getD #[]
@[reducible] noncomputable def st56_8 (s:Shop) (x:MTru) (u:Nat) (v:Nat) (im:Int) (io:Int) (c:Nat->Bool):St:=⟨([uU,iI (u:Int),iI (v:Int)]++ud 6++ [tMTru.lst (allM s),uU,iI im,uU,.ref 0 0 0]++ud 15++ [tMTru.lst (allM s),iI (((allM s).length):Int),iI io,uU,uU,uU,(bif c 0 then iI (u:Int)else(uU)),(bif c 1 then .ref 0 0 0 else(uU)),(bif c 2 then .ref 0 0 (0+u*2)else(uU)),(bif c 3 then .ref 0 0 (0+u*2)else(uU)),(bif c 4 then iI ((x.casts u).mould)else(uU)),(bif c 5 then iI (v:Int)else(uU)),(bif c 6 then .ref 0 0 0 else(uU)),(bif c 7 then .ref 0 0 (0+v*2)else(uU)),(bif c 8 then .ref 0 0 (0+v*2)else(uU)),(bif c 9 then iI ((x.casts v).mould)else(uU))]++ud 11),[.cells (tMTru.cells x)],[]⟩
def t56_8:Tab:=[([],[1,5,6,7,8,9]),([],[0,5,6,7,8,9]),([0,1],[5,6,7,8,9]),([0,1,2],[5,6,7,8,9]),([0,1,2,3],[5,6,7,8,9]),([],[0,1,2,3,4,6]),([],[0,1,2,3,4,5]),([5,6],[0,1,2,3,4]),([5,6,7],[0,1,2,3,4]),([5,6,7,8],[0,1,2,3,4])]
theorem ov56_8(s:Shop)(x:MTru)(u:Nat)(v:Nat)(im:Int)(io:Int)(ha:u<4)(hb:v<4):AWP Tryz.prog ⟨none,0⟩ (regionOf Tryz.f56 8) ⟨([uU,iI (u:Int),iI (v:Int)]++ud 6++ [tMTru.lst (allM s),uU,iI im,uU,.ref 0 0 0]++ud 15++ [tMTru.lst (allM s),iI (((allM s).length):Int),iI io]++ud 24),[.cells (tMTru.cells x)],[]⟩ (fun e T=>e=.normal/\T=⟨([uU,iI (u:Int),iI (v:Int)]++ud 6++ [tMTru.lst (allM s),uU,iI im,uU,.ref 0 0 0]++ud 15++ [tMTru.lst (allM s),iI (((allM s).length):Int),iI io,uU,uU,uU,iI (u:Int),.ref 0 0 0,.ref 0 0 (0+u*2),.ref 0 0 (0+u*2),iI ((x.casts u).mould),iI (v:Int),.ref 0 0 0,.ref 0 0 (0+v*2),.ref 0 0 (0+v*2),iI ((x.casts v).mould),.bool ((x.casts u).mould==(x.casts v).mould)]++ud 10),[.cells (tMTru.cells x)],[]⟩):=by
 refine AWP.region_bits (ops:=o56_8) 10 0 t56_8 mx (st56_8 s x u v im io) (fun z_i z_h c=> ?_) ?_
 ·rcases show z_i=0\/z_i=1\/z_i=2\/z_i=3\/z_i=4\/z_i=5\/z_i=6\/z_i=7\/z_i=8\/z_i=9 by omega with rfl|rfl|rfl|rfl|rfl|rfl|rfl|rfl|rfl|rfl
  ·exact AStep.rd true (iI (u:Int)) rfl
  ·exact AStep.rd true (.ref 0 0 0) rfl
  ·refine AStep.rd ((decide (0<=(u:Int))&&decide ((u:Int)<(4:Int)))&&true) (.ref 0 0 (0+u*2)) ?_;first|assumption|rfl|(simp[*];done)|(simp;omega)|(simp only[Bool.and_eq_true,decide_eq_true_eq];omega)
  ·exact AStep.rd true (.ref 0 0 (0+u*2)) rfl
  ·rcases show u=0\/u=1\/u=2\/u=3 by omega with rfl|rfl|rfl|rfl
   ·exact AStep.rd true (iI ((x.casts 0).mould)) rfl
   ·exact AStep.rd true (iI ((x.casts 1).mould)) rfl
   ·exact AStep.rd true (iI ((x.casts 2).mould)) rfl
   ·exact AStep.rd true (iI ((x.casts 3).mould)) rfl
  ·exact AStep.rd true (iI (v:Int)) rfl
  ·exact AStep.rd true (.ref 0 0 0) rfl
  ·refine AStep.rd ((decide (0<=(v:Int))&&decide ((v:Int)<(4:Int)))&&true) (.ref 0 0 (0+v*2)) ?_;first|assumption|rfl|(simp[*];done)|(simp;omega)|(simp only[Bool.and_eq_true,decide_eq_true_eq];omega)
  ·exact AStep.rd true (.ref 0 0 (0+v*2)) rfl
  ·rcases show v=0\/v=1\/v=2\/v=3 by omega with rfl|rfl|rfl|rfl
   ·exact AStep.rd true (iI ((x.casts 0).mould)) rfl
   ·exact AStep.rd true (iI ((x.casts 1).mould)) rfl
   ·exact AStep.rd true (iI ((x.casts 2).mould)) rfl
   ·exact AStep.rd true (iI ((x.casts 3).mould)) rfl
 ·refine AOps.tree (g:=(.done .normal ⟨([uU,iI (u:Int),iI (v:Int)]++ud 6++ [tMTru.lst (allM s),uU,iI im,uU,.ref 0 0 0]++ud 15++ [tMTru.lst (allM s),iI (((allM s).length):Int),iI io,uU,uU,uU,iI (u:Int),.ref 0 0 0,.ref 0 0 (0+u*2),.ref 0 0 (0+u*2),iI ((x.casts u).mould),iI (v:Int),.ref 0 0 0,.ref 0 0 (0+v*2),.ref 0 0 (0+v*2),iI ((x.casts v).mould),.bool ((x.casts u).mould==(x.casts v).mould)]++ud 10),[.cells (tMTru.cells x)],[]⟩)) (by kernel_rfl) ?_;simp only[DT.holds]
  repeat' (first|exact rfl|refine And.intro ?_ ?_)
  all_goals simp
def sameP(a b:Nat)(t:MTru):Bool:=(t.casts a).mould==(t.casts b).mould
def sameR(s:Shop)(a b:Nat):Int:=if(allM s).countP (sameP a b)=(allM s).length then 1 else if(allM s).countP (sameP a b)=0 then 2 else 0
theorem two_args{s:Shop}{a b:Nat}(ha:a<s.heads.length)(hb:b<s.heads.length):outside 0 ((s.heads.length:Int)-1) [(a:Int),(b:Int)]=false:=by
 have h1:within (a:Int) 0 ((s.heads.length:Int)-1)=true:=within_iff.2 (by omega);have h2:within (b:Int) 0 ((s.heads.length:Int)-1)=true:=within_iff.2 (by omega);simp[outside,within]at h1 h2⊢;omega
set_option maxHeartbeats 4000000 in
theorem c56(s:Shop)(a b:Nat)(h0:(shopCheck s).2.2=0)(hok:OkShop s)(hne:allM s≠ [])(ha:a<s.heads.length)(hb:b<s.heads.length)(hab:a≠b):
  PC 56 [.agg (tShop.cells s),iI (a:Int),iI (b:Int)] (·=.tuple [iI (sameR s a b),iI 0]):=by
 have h4:=hok.nh;have hall:=allM_len hok;have hm:inR .i64 ((s.heads.length:Int)-1)=true:=inR64 (by omega) (by omega);have k104:=c104 s s.heads.length [(a:Int),(b:Int)] h0 hok hne hm (two_args ha hb) (fun _=>by simp;omega);have ha4:a<4:=by omega
 have hb4:b<4:=by omega
 have hcl:(allM s).countP (sameP a b)<=(allM s).length:=List.countP_le_length
 have hmain:WP Tryz.prog ⟨none,0⟩ (T56 s a b) (Ends' fun r=>v56 r=.tuple [iI (sameR s a b),iI 0]) (.l0 0 0):=by
  refine WP.run (fun i=>.l0 (((allM s).take i).countP (sameP a b):Nat) (i:Int)) rfl (allM s).length (fun i hi=> ?_) ?_
  ·have hr:inR .i64 ((i:Int)+1)=true:=inR64 (by omega) (by omega);have hi':(i:Int)<(allM s).length:=by omega
   have hct:((allM s).take i).countP (sameP a b)<=4096:=Nat.le_trans List.countP_le_length (by rw[List.length_take];omega);have hr2:inR .i64 ((((allM s).take i).countP (sameP a b):Nat)+(1:Int))=true:=inR64 (by omega) (by omega);have hsn:=take_snoc tMTru.zero (allM s) i hi
   have hcs:((allM s).take (i+1)).countP (sameP a b)=((allM s).take i).countP (sameP a b)+if sameP a b ((allM s).getD i tMTru.zero)=true then 1 else 0:=by
    rw[hsn,List.countP_append,List.countP_singleton]
   have kov:=ov56_8 s ((allM s).getD i tMTru.zero) a b (((allM s).take i).countP (sameP a b):Nat) i ha4 hb4;rw[hcs]
   cases hq:sameP a b ((allM s).getD i tMTru.zero)with
   |true=>
    have hq':(((allM s).getD i tMTru.zero).casts a).mould=(((allM s).getD i tMTru.zero).casts b).mould:=by simpa[sameP]using hq
    refine WP.once ?_;simp only[T56,Tr.sure,SS,hi',hq',Int.toNat_natCast];repeat' with_reducible first|intro _|apply aI
    all_goals first|(simp[hr,hr2,Go,Ends',v56,-List.getD_eq_getElem?_getD, *];done)|(simp_all [hr,hr2,Go,Ends',v56,-List.getD_eq_getElem?_getD];done)
   |false=>
    have hq':¬(((allM s).getD i tMTru.zero).casts a).mould=(((allM s).getD i tMTru.zero).casts b).mould:=by simpa[sameP]using hq
    refine WP.once ?_;simp only[T56,Tr.sure,SS,hi',hq',Int.toNat_natCast];repeat' with_reducible first|intro _|apply aI
    all_goals first|exact kov|(simp[hr,hr2,Go,Ends',v56,-List.getD_eq_getElem?_getD, *];done)
  ·rw[List.take_length];generalize hC:(allM s).countP (sameP a b)=C at*
   have e:sameR s a b=if C=(allM s).length then 1 else if C=0 then 2 else 0:=by unfold sameR;rw[hC]
   rw[e];by_cases h1:C=(allM s).length
   ·refine WP.step ?_;simp only[T56,Go,Ends',v56,Tr.sure,SS,Int.lt_irrefl];repeat' with_reducible first|intro _|apply aI
    all_goals first|(simp[h1,Go,Ends',v56,-List.getD_eq_getElem?_getD, *];done)|(simp_all [h1,Go,Ends',v56,-List.getD_eq_getElem?_getD];done)
   ·have h1':¬(C:Int)=(allM s).length:=by omega
    by_cases h2:C=0
    ·refine WP.step ?_;simp only[T56,Go,Ends',v56,Tr.sure,SS,Int.lt_irrefl,h1'];repeat' with_reducible first|intro _|apply aI
     all_goals simp_all [h1,h2,Go,Ends',v56,-List.getD_eq_getElem?_getD]
    ·have h2':¬(C:Int)=0:=by omega
     refine WP.step ?_;simp only[T56,Go,Ends',v56,Tr.sure,SS,Int.lt_irrefl,h1',h2'];repeat' with_reducible first|intro _|apply aI
     all_goals simp[h1,h2,Go,Ends',v56,-List.getD_eq_getElem?_getD, *]
 refine w56 s a b (WP.step ?_);simp only[T56,Go,Ends',v56,Tr.sure,SS];repeat' with_reducible first|intro _|apply aI
 all_goals first|exact k104|exact hmain|exact(by with_reducible exact vle_two _ _)|(simp[Go,Ends',v56,-List.getD_eq_getElem?_getD, *];done)
inductive P55
 |e
 |l0 (x0_11:Int) (x0_12:Int) (x0_34:Int)
inductive R55
 |r0 (r0:Int) (r1:Int)
noncomputable def T55(s:Shop)(u:Nat)(v:Nat):P55->Tr P55 R55
 |.e=>(.wait 4 (.frz 1 ((decide (2<=2))&&true) (.wait 0 (.vle 24 (.list 1 2 (litC 1 2 [iI (u:Int),iI (v:Int)])) (tint.lst ([(u:Int),(v:Int)]:List Int)) (.call 104 [.agg (tShop.cells s),iI (s.heads.length:Int),tint.lst ([(u:Int),(v:Int)]:List Int)] (.tuple [lkS s (lookM s),tMTru.lst (allM s),iI 0]) true true (.br ((0:Int) !=(0:Int)) (.wait 1 .never) (.go (.l0 0 0 0))))))))
 |.l0 x0_11 x0_12 x0_34=>let c1:=(allM s).getD (x0_34).toNat tMTru.zero;let c2:=cmpI ((c1.casts v).number) ((c1.casts u).number);let c3:=(((allM s).length):Int);let c4:List V:=[iI ((c1.casts v).mould),iI ((c1.casts v).number)];let c5:List V:=[iI ((c1.casts u).mould),iI ((c1.casts u).number)];let c6:=x0_34+(1:Int);(.br (decide (x0_34<c3)) (.need (decide (0<=x0_34)&&decide (x0_34<c3)) (.wait 1 (.drop ⟨([uU,.nil,.nil]++ud 8++ [.nil,.nil,uU,.nil]++ud 17++ [.nil,.nil,.nil]++ud 38),[.void],[]⟩ (.over (regionOf Tryz.f55 8) ⟨([uU,iI (u:Int),iI (v:Int)]++ud 8++ [iI x0_11,iI x0_12,uU,.ref 0 0 0]++ud 17++ [tMTru.lst (allM s),iI c3,iI x0_34]++ud 38),[.cells (tMTru.cells c1)],[]⟩ .normal ⟨([uU,iI (u:Int),iI (v:Int)]++ud 8++ [iI x0_11,iI x0_12,uU,.ref 0 0 0,.ref 1 0 0,.ref 2 0 0]++ud 15++ [tMTru.lst (allM s),iI c3,iI x0_34,uU,uU,uU,iI (u:Int),.ref 0 0 0,.ref 0 0 (0+u*2),.agg c5,iI (v:Int),.ref 0 0 0,.ref 0 0 (0+v*2),.agg c4]++ud 27),[.cells (tMTru.cells c1),.cells c5,.cells c4],[]⟩ true (.br ((c1.casts u).mould==(c1.casts v).mould) (.need (inR .i64 (x0_11+(1:Int))) (.call 108 [iI ((c1.casts v).number),iI ((c1.casts u).number)] (iI c2) true true (.need (inR .i64 (x0_12+c2)) (.need (inR .i64 c6) (.go (.l0 (x0_11+(1:Int)) (x0_12+c2) c6)))))) (.need (inR .i64 c6) (.go (.l0 x0_11 x0_12 c6)))))))) (.br (x0_11==(0:Int)) (.out (.r0 0 9)) (.br (x0_12==x0_11) (.out (.r0 1 0)) (.need (inR .i64 (0-x0_11)) (.br (x0_12==(0-x0_11)) (.out (.r0 2 0)) (.out (.r0 0 0)))))))
noncomputable def g55(s:Shop)(u:Nat)(v:Nat):P55->List Item × St
 |.e=>bd Tryz.f55 [.agg (tShop.cells s),iI (u:Int),iI (v:Int)] 70
 |.l0 x0_11 x0_12 x0_34=>(cutOf Tryz.f55 0,⟨mk 73 [(1,iI (u:Int)),(2,iI (v:Int)),(11,iI x0_11),(12,iI x0_12),(32,tMTru.lst (allM s)),(33,iI (((allM s).length):Int)),(34,iI x0_34)],[],[]⟩)
noncomputable def n55:R55->Exit × St
 |.r0 r0 r1=>(.ret,⟨mk 73 [(6,iI r0),(7,iI r1)],[],[]⟩)
noncomputable def v55:R55->V
 |.r0 r0 r1=>.tuple [iI r0,iI r1]
theorem s55(s:Shop)(u:Nat)(v:Nat):Sm 0 (g55 s u v) (T55 s u v) (n55)
 |.e=>⟨400,by kernel_rfl⟩
 |.l0 _ _ _=>⟨400,by kernel_rfl⟩
theorem q55:∀r,bodyQ Tryz.prog Tryz.f55 (·=v55 r) (n55 r).1 (n55 r).2
 |.r0 r0 r1=>bq (.tuple [iI r0,iI r1]) (by kernel_rfl)
theorem w55(s:Shop)(u:Nat)(v:Nat){post:V->Prop}(h:WQ (T55 s u v) v55 post .e):PC 55 [.agg (tShop.cells s),iI (u:Int),iI (v:Int)] post:=
 PCalls.wq Tryz.func55 (s55 s u v) q55 h
noncomputable def o55_8:Array Oper:=(regOf 8 (Tryz.f55.body.getD .skip)).getD #[]
@[reducible] noncomputable def st55_8 (s:Shop) (x:MTru) (u:Nat) (v:Nat) (im:Int) (ism:Int) (io:Int) (c:Nat->Bool):St:=⟨([uU,iI (u:Int),iI (v:Int)]++ud 8++ [iI im,iI ism,uU,.ref 0 0 0,(bif c 8 then .ref 1 0 0 else(uU)),(bif c 9 then .ref 2 0 0 else(uU))]++ud 15++ [tMTru.lst (allM s),iI (((allM s).length):Int),iI io,uU,uU,uU,(bif c 0 then iI (u:Int)else(uU)),(bif c 1 then .ref 0 0 0 else(uU)),(bif c 2 then .ref 0 0 (0+u*2)else(uU)),(bif c 3 then .agg [iI ((x.casts u).mould),iI ((x.casts u).number)]else(uU)),(bif c 4 then iI (v:Int)else(uU)),(bif c 5 then .ref 0 0 0 else(uU)),(bif c 6 then .ref 0 0 (0+v*2)else(uU)),(bif c 7 then .agg [iI ((x.casts v).mould),iI ((x.casts v).number)]else(uU))]++ud 27),[.cells (tMTru.cells x),(bif c 10 then .cells [iI ((x.casts u).mould),iI ((x.casts u).number)]else(bif c 8 then .cells [iI 0,iI 0]else(.void))),(bif c 9 then .cells [iI 0,iI 0]else(.void))],[]⟩
def t55_8:Tab:=[([],[1,4,5,6,7,8,9]),([],[0,4,5,6,7,8,9]),([0,1],[4,5,6,7,8,9]),([0,1,2],[4,5,6,7,8,9]),([],[0,1,2,3,5,8,9,10]),([],[0,1,2,3,4,8,9,10]),([4,5],[0,1,2,3,8,9,10]),([4,5,6],[0,1,2,3,8,9,10]),([],[0,1,2,3,4,5,6,7,9]),([],[0,1,2,3,4,5,6,7,8]),([0,1,2,3,8,9],[4,5,6,7])]
theorem ov55_8(s:Shop)(x:MTru)(u:Nat)(v:Nat)(im:Int)(ism:Int)(io:Int)(ha:u<4)(hb:v<4):AWP Tryz.prog ⟨none,0⟩ (regionOf Tryz.f55 8) ⟨([uU,iI (u:Int),iI (v:Int)]++ud 8++ [iI im,iI ism,uU,.ref 0 0 0]++ud 17++ [tMTru.lst (allM s),iI (((allM s).length):Int),iI io]++ud 38),[.cells (tMTru.cells x)],[]⟩ (fun e T=>e=.normal/\T=⟨([uU,iI (u:Int),iI (v:Int)]++ud 8++ [iI im,iI ism,uU,.ref 0 0 0,.ref 1 0 0,.ref 2 0 0]++ud 15++ [tMTru.lst (allM s),iI (((allM s).length):Int),iI io,uU,uU,uU,iI (u:Int),.ref 0 0 0,.ref 0 0 (0+u*2),.agg [iI ((x.casts u).mould),iI ((x.casts u).number)],iI (v:Int),.ref 0 0 0,.ref 0 0 (0+v*2),.agg [iI ((x.casts v).mould),iI ((x.casts v).number)]]++ud 27),[.cells (tMTru.cells x),.cells [iI ((x.casts u).mould),iI ((x.casts u).number)],.cells [iI ((x.casts v).mould),iI ((x.casts v).number)]],[]⟩):=by
 refine AWP.region_bits (ops:=o55_8) 11 2 t55_8 mx (st55_8 s x u v im ism io) (fun z_i z_h c=> ?_) ?_
 ·rcases show z_i=0\/z_i=1\/z_i=2\/z_i=3\/z_i=4\/z_i=5\/z_i=6\/z_i=7\/z_i=8\/z_i=9\/z_i=10 by omega with rfl|rfl|rfl|rfl|rfl|rfl|rfl|rfl|rfl|rfl|rfl
  ·exact AStep.rd true (iI (u:Int)) rfl
  ·exact AStep.rd true (.ref 0 0 0) rfl
  ·refine AStep.rd ((decide (0<=(u:Int))&&decide ((u:Int)<(4:Int)))&&true) (.ref 0 0 (0+u*2)) ?_;first|assumption|rfl|(simp[*];done)|(simp;omega)|(simp only[Bool.and_eq_true,decide_eq_true_eq];omega)
  ·rcases show u=0\/u=1\/u=2\/u=3 by omega with rfl|rfl|rfl|rfl
   ·exact AStep.rd true (.agg [iI ((x.casts 0).mould),iI ((x.casts 0).number)]) rfl
   ·exact AStep.rd true (.agg [iI ((x.casts 1).mould),iI ((x.casts 1).number)]) rfl
   ·exact AStep.rd true (.agg [iI ((x.casts 2).mould),iI ((x.casts 2).number)]) rfl
   ·exact AStep.rd true (.agg [iI ((x.casts 3).mould),iI ((x.casts 3).number)]) rfl
  ·exact AStep.rd true (iI (v:Int)) rfl
  ·exact AStep.rd true (.ref 0 0 0) rfl
  ·refine AStep.rd ((decide (0<=(v:Int))&&decide ((v:Int)<(4:Int)))&&true) (.ref 0 0 (0+v*2)) ?_;first|assumption|rfl|(simp[*];done)|(simp;omega)|(simp only[Bool.and_eq_true,decide_eq_true_eq];omega)
  ·rcases show v=0\/v=1\/v=2\/v=3 by omega with rfl|rfl|rfl|rfl
   ·exact AStep.rd true (.agg [iI ((x.casts 0).mould),iI ((x.casts 0).number)]) rfl
   ·exact AStep.rd true (.agg [iI ((x.casts 1).mould),iI ((x.casts 1).number)]) rfl
   ·exact AStep.rd true (.agg [iI ((x.casts 2).mould),iI ((x.casts 2).number)]) rfl
   ·exact AStep.rd true (.agg [iI ((x.casts 3).mould),iI ((x.casts 3).number)]) rfl
  ·exact AStep.al 84 1 [iI 0,iI 0]
  ·exact AStep.al 84 2 [iI 0,iI 0]
  ·refine AStep.tree (g:=(.done .normal (st55_8 s x u v im ism io (mkb t55_8 10 true c)))) (by kernel_rfl) ?_;simp only[DT.holds];repeat' (first|assumption|exact rfl|(with_reducible refine And.intro ?_ ?_))
   all_goals simp[*]
 ·refine AOps.tree (g:=(.done .normal ⟨([uU,iI (u:Int),iI (v:Int)]++ud 8++ [iI im,iI ism,uU,.ref 0 0 0,.ref 1 0 0,.ref 2 0 0]++ud 15++ [tMTru.lst (allM s),iI (((allM s).length):Int),iI io,uU,uU,uU,iI (u:Int),.ref 0 0 0,.ref 0 0 (0+u*2),.agg [iI ((x.casts u).mould),iI ((x.casts u).number)],iI (v:Int),.ref 0 0 0,.ref 0 0 (0+v*2),.agg [iI ((x.casts v).mould),iI ((x.casts v).number)]]++ud 27),[.cells (tMTru.cells x),.cells [iI ((x.casts u).mould),iI ((x.casts u).number)],.cells [iI ((x.casts v).mould),iI ((x.casts v).number)]],[]⟩)) (by kernel_rfl) ?_;simp only[DT.holds]
  repeat' (first|exact rfl|refine And.intro ?_ ?_)
  all_goals simp
def ordS(a b:Nat)(p:Int × Int)(t:MTru):Int × Int:=if(t.casts a).mould=(t.casts b).mould then(p.1+1,p.2+cmpI (t.casts b).number (t.casts a).number)else p
def ordK(a b:Nat)(l:List MTru):Int × Int:=l.foldl (ordS a b) (0,0)
def orderR(s:Shop)(a b:Nat):Int × Int:=
 if(ordK a b (allM s)).1=0 then(0,9)else if(ordK a b (allM s)).2=(ordK a b (allM s)).1 then(1,0)else if(ordK a b (allM s)).2= -(ordK a b (allM s)).1 then(2,0)else(0,0)
theorem cmpI_in(x y:Int): -1<=cmpI x y/\cmpI x y<=1:=by
 unfold cmpI;split
 ·omega
 ·split<;>omega
theorem ordK_in(a b:Nat):∀(l:List MTru) (p:Int × Int),0<=p.1→-p.1<=p.2->p.2<=p.1->p.1<=(l.foldl (ordS a b) p).1/\(l.foldl (ordS a b) p).1<=p.1+l.length∧-(l.foldl (ordS a b) p).1<=(l.foldl (ordS a b) p).2/\(l.foldl (ordS a b) p).2<=(l.foldl (ordS a b) p).1
 |[],p,h1,h2,h3=>by simp only[List.foldl_nil,List.length_nil];omega
 |t::l,p,h1,h2,h3=>by
  rw[List.foldl_cons,List.length_cons];have hc:=cmpI_in (t.casts b).number (t.casts a).number;unfold ordS;split
  ·have:=ordK_in a b l (p.1+1,p.2+cmpI (t.casts b).number (t.casts a).number) (by simp only;omega) (by simp only;omega) (by simp only;omega);simp only at this⊢;unfold ordS at this;omega
  ·have:=ordK_in a b l p h1 h2 h3;unfold ordS at this;omega
set_option maxHeartbeats 4000000 in
theorem c55(s:Shop)(a b:Nat)(h0:(shopCheck s).2.2=0)(hok:OkShop s)(hne:allM s≠ [])(ha:a<s.heads.length)(hb:b<s.heads.length)(hab:a≠b):
  PC 55 [.agg (tShop.cells s),iI (a:Int),iI (b:Int)] (·=.tuple [iI (orderR s a b).1,iI (orderR s a b).2]):=by
 have h4:=hok.nh;have hall:=allM_len hok;have hm:inR .i64 ((s.heads.length:Int)-1)=true:=inR64 (by omega) (by omega);have k104:=c104 s s.heads.length [(a:Int),(b:Int)] h0 hok hne hm (two_args ha hb) (fun _=>by simp;omega);have ha4:a<4:=by omega
 have hb4:b<4:=by omega
 have hmain:WP Tryz.prog ⟨none,0⟩ (T55 s a b) (Ends' fun r=>v55 r=.tuple [iI (orderR s a b).1,iI (orderR s a b).2]) (.l0 0 0 0):=by
  refine WP.run (fun i=>.l0 (ordK a b ((allM s).take i)).1 (ordK a b ((allM s).take i)).2 (i:Int)) rfl (allM s).length (fun i hi=> ?_) ?_
  ·have hr:inR .i64 ((i:Int)+1)=true:=inR64 (by omega) (by omega);have hi':(i:Int)<(allM s).length:=by omega
   have hb1:=ordK_in a b ((allM s).take i) (0,0) (Int.le_refl _) (Int.le_refl _) (Int.le_refl _);have hlt:((allM s).take i).length<=4096:=by rw[List.length_take];omega
   have hsn:=take_snoc tMTru.zero (allM s) i hi
   have hcs:ordK a b ((allM s).take (i+1))=ordS a b (ordK a b ((allM s).take i)) ((allM s).getD i tMTru.zero):=by
    unfold ordK;rw[hsn,List.foldl_append];rfl
   rw[hcs];change _/\_/\_/\(ordK a b ((allM s).take i)).2<=(ordK a b ((allM s).take i)).1 at hb1
   have hb2:0<=(ordK a b ((allM s).take i)).1/\(ordK a b ((allM s).take i)).1<=((allM s).take i).length∧-(ordK a b ((allM s).take i)).1<=(ordK a b ((allM s).take i)).2/\(ordK a b ((allM s).take i)).2<=(ordK a b ((allM s).take i)).1:=by
    have:=hb1;unfold ordK;simp only[Int.zero_add]at this;exact this
   generalize ordK a b ((allM s).take i)=p at*
   have kov:=ov55_8 s ((allM s).getD i tMTru.zero) a b p.1 p.2 i ha4 hb4;have hc:=cmpI_in (((allM s).getD i tMTru.zero).casts b).number (((allM s).getD i tMTru.zero).casts a).number;have k108:=c108 (((allM s).getD i tMTru.zero).casts b).number (((allM s).getD i tMTru.zero).casts a).number;have hr2:inR .i64 (p.1+(1:Int))=true:=inR64 (by omega) (by omega);have hr3:inR .i64 (p.2+cmpI (((allM s).getD i tMTru.zero).casts b).number (((allM s).getD i tMTru.zero).casts a).number)=true:=inR64 (by omega) (by omega)
   by_cases hq:(((allM s).getD i tMTru.zero).casts a).mould=(((allM s).getD i tMTru.zero).casts b).mould
   ·have e:ordS a b p ((allM s).getD i tMTru.zero)=(p.1+1,p.2+cmpI (((allM s).getD i tMTru.zero).casts b).number (((allM s).getD i tMTru.zero).casts a).number):=if_pos hq;rw[e];refine WP.once ?_;simp only[T55,Tr.sure,SS,hi',hq,Int.toNat_natCast];repeat' with_reducible first|intro _|apply aI
    all_goals first|exact k108|(simp[hr,hr2,hr3,Go,Ends',v55,-List.getD_eq_getElem?_getD, *];done)|(simp_all [hr,hr2,hr3,Go,Ends',v55,-List.getD_eq_getElem?_getD];done)
   ·have e:ordS a b p ((allM s).getD i tMTru.zero)=p:=if_neg hq;rw[e];refine WP.once ?_;simp only[T55,Tr.sure,SS,hi',hq,Int.toNat_natCast];repeat' with_reducible first|intro _|apply aI
    all_goals first|exact kov|(simp[hr,hr2,hr3,Go,Ends',v55,-List.getD_eq_getElem?_getD, *];done)
  ·rw[List.take_length];have hb1:=ordK_in a b (allM s) (0,0) (Int.le_refl _) (Int.le_refl _) (Int.le_refl _)
   have hb2:0<=(ordK a b (allM s)).1/\(ordK a b (allM s)).1<=(allM s).length:=by
    have:=hb1;unfold ordK;simp only[Int.zero_add]at this;omega
   have e:orderR s a b=if(ordK a b (allM s)).1=0 then(0,9)else if(ordK a b (allM s)).2=(ordK a b (allM s)).1 then(1,0)else if(ordK a b (allM s)).2= -(ordK a b (allM s)).1 then(2,0)else(0,0):=rfl
   rw[e];generalize ordK a b (allM s)=p at*
   obtain⟨x,y⟩:=p;simp only at hb2⊢;have hrn:inR .i64 (-x)=true:=inR64 (by omega) (by omega);clear hb1 e
   by_cases h1:x=0
   ·subst h1;refine WP.step ?_;simp only[T55,Go,Ends',v55,Tr.sure,SS,Int.lt_irrefl];repeat' with_reducible first|intro _|apply aI
    all_goals simp[Go,Ends',v55,-List.getD_eq_getElem?_getD, *]
   ·by_cases h2:y=x
    ·subst h2;refine WP.step ?_;simp only[T55,Go,Ends',v55,Tr.sure,SS,Int.lt_irrefl,h1];repeat' with_reducible first|intro _|apply aI
     all_goals simp[h1,Go,Ends',v55,-List.getD_eq_getElem?_getD, *]
    ·by_cases h3:y= -x
     ·subst h3;refine WP.step ?_;simp only[T55,Go,Ends',v55,Tr.sure,SS,Int.lt_irrefl,h1,h2];repeat' with_reducible first|intro _|apply aI
      all_goals first|(simp[h1,h2,hrn,Go,Ends',v55,-List.getD_eq_getElem?_getD, *];done)|(simp_all [h1,h2,hrn,Go,Ends',v55,-List.getD_eq_getElem?_getD];done)
     ·have hf:(if x=0 then((0:Int),(9:Int))else if y=x then(1,0)else if y= -x then(2,0)else(0,0))=(0,0):=by rw[if_neg h1,if_neg h2,if_neg h3]
      rw[hf];refine WP.step ?_;simp only[T55,Tr.sure,Int.lt_irrefl,decide_false,Bool.false_eq_true,false_imp_iff,true_and,true_imp_iff,beq_iff_eq,h1,h2,h3,Bool.not_eq_eq_eq_not,Bool.not_true,beq_eq_false_iff_ne,ne_eq,not_false_eq_true];exact⟨by rw[Int.zero_sub];exact hrn,fun _=>⟨fun q=>absurd (q.trans (Int.zero_sub x)) h3,fun _=>rfl⟩⟩
 refine w55 s a b (WP.step ?_);simp only[T55,Go,Ends',v55,Tr.sure,SS];repeat' with_reducible first|intro _|apply aI
 all_goals first|exact k104|exact hmain|exact(by with_reducible exact vle_two _ _)|(simp[Go,Ends',v55,-List.getD_eq_getElem?_getD, *];done)
end
abbrev JM:=List ((Int × Int) × Int)
abbrev mO(M:JM):Obj:=.map (entsJ M) M.length
def idxJ(M:JM)(F:Int × Int):Nat:=M.findIdx fun p=>same2 F p.1
def cntJ(M:JM)(F:Int × Int):Int:=(M.getD (idxJ M F) (F,0)).2
def entJ(M:JM)(F:Int × Int):JM:=if idxJ M F<M.length then M else M++ [(F,0)]
def addJ(M:JM)(F:Int × Int):JM:=(entJ M F).set (idxJ M F) (((entJ M F).getD (idxJ M F) (F,0)).1,cntJ M F+1)
theorem idxJ_cases(M:JM)(F:Int × Int):(∃hj:idxJ M F<M.length,same2 F M[idxJ M F].1=true/\∀i,(hi:i<M.length)->i<idxJ M F->same2 F M[i].1=false)\/(idxJ M F=M.length/\∀p∈M,same2 F p.1=false):=by
 unfold idxJ;by_cases h:M.findIdx (fun p=>same2 F p.1)<M.length
 ·exact .inl ⟨h,List.findIdx_getElem (w:=h),fun i hi hlt=>by simpa using List.not_of_lt_findIdx hlt⟩
 ·right
  have e:M.findIdx (fun p=>same2 F p.1)=M.length:=Nat.le_antisymm List.findIdx_le_length (Nat.le_of_not_lt h);refine⟨e,fun p hp=> ?_⟩
  cases hs:same2 F p.1 with
  |false=>rfl
  |true=>exact absurd (List.findIdx_lt_length.2 ⟨p,hp,hs⟩) h
theorem idxJ_keys(M:JM)(F:Int × Int):idxJ M F=(M.map (·.1)).findIdx (same2 F):=by
 unfold idxJ;rw[List.findIdx_map];rfl
theorem entJ_len(M:JM)(F:Int × Int):idxJ M F<(entJ M F).length:=by
 rcases idxJ_cases M F with⟨hj,-⟩|⟨e,-⟩
 ·unfold entJ;rw[if_pos hj];exact hj
 ·unfold entJ;rw[if_neg (by omega),List.length_append,e];simp
theorem same2_self(F:Int × Int):same2 F F=true:=by simp[same2]
theorem same2_congr{F G K:Int × Int}(h:same2 F G=true):same2 F K=same2 G K:=by
 obtain⟨h1,h2⟩:=same2_iff.1 h;unfold same2;rw[h1,h2]
theorem entJ_key(M:JM)(F:Int × Int):same2 F ((entJ M F).getD (idxJ M F) (F,0)).1=true:=by
 rcases idxJ_cases M F with⟨hj,h1,-⟩|⟨e,-⟩
 ·unfold entJ;rw[if_pos hj,gE,List.getElem?_eq_getElem hj];exact h1
 ·unfold entJ;rw[if_neg (by omega),e,gE];simp[same2]
theorem addJ_keys(M:JM)(F:Int × Int):(addJ M F).map (·.1)=(entJ M F).map (·.1):=by
 unfold addJ;have hM:=entJ_len M F;rw[List.map_set];refine List.ext_getElem (by simp) fun j h1 h2=> ?_;by_cases e:idxJ M F=j
 ·subst e;rw[List.getElem_set_self,List.getElem_map,gE,List.getElem?_eq_getElem hM];rfl
 ·rw[List.getElem_set_ne e]
theorem idxJ_ent(M:JM)(F:Int × Int):idxJ (entJ M F) F=idxJ M F:=by
 rcases idxJ_cases M F with⟨hj,-⟩|⟨e,h1⟩
 ·have:entJ M F=M:=if_pos hj;rw[this]
 ·have:entJ M F=M++ [(F,0)]:=if_neg (by omega);rw[this,e];unfold idxJ;rw[List.findIdx_append,if_neg (fun q=>by unfold idxJ at e;omega)];simp[List.findIdx_cons,same2_self]
theorem cntJ_same(M:JM){F G:Int × Int}(h:same2 F G=true):cntJ (addJ M F) G=cntJ M F+1:=by
 have e:idxJ (addJ M F) G=idxJ M F:=by
  rw[idxJ_keys,addJ_keys,<-idxJ_ent M F,idxJ_keys];congr 1
  funext K
  exact(same2_congr h).symm
 unfold cntJ;rw[e];have hM:=entJ_len M F;unfold addJ;rw[gE,List.getElem?_set_self (by simpa using hM)];rfl
theorem cntJ_other(M:JM){F G:Int × Int}(h:same2 F G=false):cntJ (addJ M F) G=cntJ M G:=by
 have e:idxJ (addJ M F) G=idxJ (entJ M F) G:=by rw[idxJ_keys,addJ_keys,<-idxJ_keys]
 have hM:=entJ_len M F;have hk:=entJ_key M F
 have hne:idxJ M F≠idxJ (entJ M F) G:=fun q=>by
  rcases idxJ_cases (entJ M F) G with⟨hj,h1,-⟩|⟨e2,-⟩
  ·rw[gE,List.getElem?_eq_getElem hM]at hk;simp only[Option.getD_some]at hk;simp only[<-q]at h1;have h2:=same2_iff.1 hk;have h3:=same2_iff.1 h1;have:same2 F G=true:=same2_iff.2 ⟨h2.1.trans h3.1.symm,h2.2.trans h3.2.symm⟩;rw[h]at this;cases this
  ·omega
 have e3:cntJ (addJ M F) G=cntJ (entJ M F) G:=by
  unfold cntJ;rw[e];unfold addJ;rw[gE,sN hne,<-List.getD_eq_getElem?_getD]
 rw[e3];rcases idxJ_cases M F with⟨hj,-⟩|⟨e4,h1⟩
 ·have:entJ M F=M:=if_pos hj;rw[this]
 ·have he:entJ M F=M++ [(F,0)]:=if_neg (by omega);rw[he];unfold cntJ idxJ;rw[List.findIdx_append];split
  ·rename_i h5;rw[gE,aL h5,<-List.getD_eq_getElem?_getD]
  ·rename_i h5;have h6:List.findIdx (fun p=>same2 G p.1) M=M.length:=Nat.le_antisymm List.findIdx_le_length (Nat.le_of_not_lt h5)
   have hgf:same2 G F=false:=by
    cases q:same2 G F with
    |false=>rfl
    |true=>
     have:=same2_iff.1 q;have:same2 F G=true:=same2_iff.2 ⟨this.1.symm,this.2.symm⟩;rw[h]at this;cases this
   rw[h6];have h7:List.findIdx (fun p=>same2 G p.1) [((F,0):(Int × Int) × Int)]=1:=by simp[List.findIdx_cons,hgf]
   rw[h7,gE,List.getElem?_eq_none (by simp;omega),gE,List.getElem?_eq_none (Nat.le_refl _)]
def keyC(c:Cast):Int × Int:=(c.mould,c.number)
theorem keyC_same{c d:Cast}:same2 (keyC c) (keyC d)=true↔c=d:=by
 rw[same2_iff];cases c;cases d;simp[keyC]
def mayS(p:JM × List Cast)(c:Cast):JM × List Cast:=(addJ p.1 (keyC c),if cntJ p.1 (keyC c)+1=1 then c::p.2 else p.2)
structure MayOk(p:JM × List Cast)(k:Nat)(C:List Cast):Prop where
 cnt:∀c,0<=cntJ p.1 (keyC c)/\cntJ p.1 (keyC c)<=k
 met:∀c,cntJ p.1 (keyC c)=0↔c∉p.2
 dup:p.2.Nodup
 all:∀c∈p.2,c∈C
theorem MayOk.nil(C:List Cast):MayOk ([],[]) 0 C:=⟨fun c=>⟨Int.le_refl _,Int.le_refl _⟩,fun c=>⟨fun _=>List.not_mem_nil,fun _=>rfl⟩,List.nodup_nil,fun c h=>absurd h List.not_mem_nil⟩
theorem MayOk.step{p:JM × List Cast}{k:Nat}{C:List Cast}(h:MayOk p k C){c:Cast}(hc:c∈C):MayOk (mayS p c) (k+1) C/\c∈(mayS p c).2/\∀d∈p.2,d∈(mayS p c).2:=by
 have hcnt:∀d,cntJ (mayS p c).1 (keyC d)=if c=d then cntJ p.1 (keyC c)+1 else cntJ p.1 (keyC d):=fun d=>by
  show cntJ (addJ p.1 (keyC c)) (keyC d)=_;by_cases e:c=d
  ·rw[if_pos e,cntJ_same _ (keyC_same.2 e)]
  ·rw[if_neg e];refine cntJ_other _ ?_
   cases q:same2 (keyC c) (keyC d)with
   |false=>rfl
   |true=>exact absurd (keyC_same.1 q) e
 have hc0:=h.cnt c;have hm:=h.met c;by_cases h0:cntJ p.1 (keyC c)=0
 ·have e2:(mayS p c).2=c::p.2:=if_pos (by omega);have hnc:=hm.1 h0;refine⟨⟨fun d=> ?_,fun d=> ?_,?_,fun d hd=> ?_⟩,?_,fun d hd=> ?_⟩
  ·rw[hcnt];have:=h.cnt d;split<;>omega
  ·rw[hcnt,e2];by_cases e:c=d
   ·rw[if_pos e,<-e];exact⟨fun q=>by omega,fun q=>absurd List.mem_cons_self q⟩
   ·rw[if_neg e,h.met d];constructor
    ·intro q z;rcases List.mem_cons.1 z with z|z
     ·exact e z.symm
     ·exact q z
    ·exact fun q z=>q (List.mem_cons_of_mem _ z)
  ·rw[e2];exact List.nodup_cons.2 ⟨hnc,h.dup⟩
  ·rw[e2]at hd;rcases List.mem_cons.1 hd with rfl|hd
   ·exact hc
   ·exact h.all d hd
  ·rw[e2];exact List.mem_cons_self
  ·rw[e2];exact List.mem_cons_of_mem _ hd
 ·have e2:(mayS p c).2=p.2:=if_neg (by omega);have hcin:c∈p.2:=Classical.byContradiction fun q=>h0 (hm.2 q);refine⟨⟨fun d=> ?_,fun d=> ?_,?_,fun d hd=> ?_⟩,?_,fun d hd=> ?_⟩
  ·rw[hcnt];have:=h.cnt d;split<;>omega
  ·rw[hcnt,e2];by_cases e:c=d
   ·rw[if_pos e,<-e];exact⟨fun q=>by omega,fun q=>absurd hcin q⟩
   ·rw[if_neg e];exact h.met d
  ·rw[e2];exact h.dup
  ·rw[e2]at hd;exact h.all d hd
  ·rw[e2];exact hcin
  ·rw[e2];exact hd
def mayK(u:Nat)(l:List MTru):JM × List Cast:=l.foldl (fun p t=>mayS p (t.casts u)) ([],[])
theorem mayK_ok(u:Nat)(C:List Cast):∀(l:List MTru) (p:JM × List Cast) (k:Nat),MayOk p k C->(∀t∈l,t.casts u∈C)->MayOk (l.foldl (fun p t=>mayS p (t.casts u)) p) (k+l.length) C/\(∀t∈l,t.casts u∈(l.foldl (fun p t=>mayS p (t.casts u)) p).2)/\∀d∈p.2,d∈(l.foldl (fun p t=>mayS p (t.casts u)) p).2
 |[],p,k,h,_=>⟨h,fun t ht=>absurd ht List.not_mem_nil,fun d hd=>hd⟩
 |t::l,p,k,h,hC=>by
  obtain⟨h1,h2,h3⟩:=h.step (hC t List.mem_cons_self);obtain⟨g1,g2,g3⟩:=mayK_ok u C l (mayS p (t.casts u)) (k+1) h1 fun x hx=>hC x (List.mem_cons_of_mem _ hx);rw[List.foldl_cons,List.length_cons];refine⟨by rw[show k+(l.length+1)=k+1+l.length by omega];exact g1,fun x hx=> ?_,fun d hd=>g3 d (h3 d hd)⟩;rcases List.mem_cons.1 hx with rfl|hx
  ·exact g3 _ h2
  ·exact g2 x hx
noncomputable section
theorem key84:KeyJ Tryz.prog 84 where
 und:=⟨_,Tryz.underlying84⟩
 eqv:=fun F G=>by kernel_rfl
 chk:=fun b F w=>run_checkJ (e:=3) Tryz.underlying84 (by kernel_rfl) (by kernel_rfl) ⟨rfl,rfl,by decide⟩ ⟨rfl,rfl,by decide⟩ (fun F i hi=>by
  rcases show i=0\/i=1 by omega with rfl|rfl<;>kernel_rfl) b F w
theorem lookJ(M:JM)(F:Int × Int)(u v:Nat)(hh:List Blk)(hm:hh[3]? =some (.obj (mO M))):SemOK Tryz.prog (.lookup 151 (.tmp u) (.tmp v) false) [(.tmp u,.map 3),(.tmp v,.agg [iI F.1,iI F.2])] hh (iI (cntJ M F)) hh:=by
 rcases idxJ_cases M F with⟨hj,h1,h2⟩|⟨e,h1⟩
 ·have hv:cntJ M F=M[idxJ M F].2:=by unfold cntJ;rw[gE,List.getElem?_eq_getElem hj];rfl
  rw[hv];exact sem_lookupJ1 (kt:=84) (et:=3) (by kernel_rfl) key84 hm hj h1 h2
 ·have hv:cntJ M F=0:=by unfold cntJ;rw[gE,List.getElem?_eq_none (by omega)];rfl
  rw[hv];exact sem_lookupJ0 (kt:=84) (et:=3) (by kernel_rfl) key84 (by kernel_rfl) hm h1
theorem cntJ_ent(M:JM)(F:Int × Int):cntJ (entJ M F) F=cntJ M F:=by
 unfold cntJ;rw[idxJ_ent];rcases idxJ_cases M F with⟨hj,-⟩|⟨e,h1⟩
 ·have:entJ M F=M:=if_pos hj;rw[this]
 ·have:entJ M F=M++ [(F,0)]:=if_neg (by omega);rw[this,e,gE,gE,List.getElem?_eq_none (Nat.le_refl _)];simp
theorem semL54(M:JM)(c:Cast)(hh:List Blk)(hm:hh[3]? =some (.obj (mO M))\/hh[3]? =some (.obj (mO (entJ M (keyC c))))):SemOK Tryz.prog (.lookup 151 (.tmp 37) (.tmp 38) false) [(.tmp 37,.map 3),(.tmp 38,.agg [iI c.mould,iI c.number])] hh (iI (cntJ M (keyC c))) hh:=by
 rcases hm with hm|hm
 ·exact lookJ M (keyC c) 37 38 hh hm
 ·have:=lookJ (entJ M (keyC c)) (keyC c) 37 38 hh hm;rw[cntJ_ent]at this;exact this
theorem semE54(M:JM)(c:Cast)(hh:List Blk)(hm:hh[3]? =some (.obj (mO M))):SemOK Tryz.prog (.mapEntry 151 (.tmp 37) (.tmp 38)) [(.tmp 37,.map 3),(.tmp 38,.agg [iI c.mould,iI c.number])] hh (.tuple [iI (cntJ M (keyC c)),iI (idxJ M (keyC c):Int)]) (hh.set 3 (.obj (mO (entJ M (keyC c))))):=by
 obtain⟨F,hF⟩:∃F,F=keyC c:=⟨_,rfl⟩
 have e1:c.mould=F.1:=by rw[hF];rfl
 have e2:c.number=F.2:=by rw[hF];rfl
 rw[<-hF,e1,e2];rcases idxJ_cases M F with⟨hj,h1,h2⟩|⟨e,h1⟩
 ·have he:entJ M F=M:=if_pos hj;have hv:cntJ M F=M[idxJ M F].2:=by unfold cntJ;rw[gE,List.getElem?_eq_getElem hj];rfl
  rw[hv,he];exact sem_entryJ1 (kt:=84) (et:=3) (by kernel_rfl) key84 hm hj h1 h2
 ·have hv:cntJ M F=0:=by unfold cntJ;rw[gE,List.getElem?_eq_none (by omega)];rfl
  have he:entJ M F=M++ [(F,0)]:=if_neg (by omega);rw[hv,he,e];exact sem_entryJ0 (kt:=84) (et:=3) (by kernel_rfl) key84 (by kernel_rfl) hm h1
theorem semS54(M:JM)(c:Cast)(hh:List Blk)(hm:hh[3]? =some (.obj (mO (entJ M (keyC c))))):SemOK Tryz.prog (opAt Tryz.f54 9 6) [(.tmp 37,.map 3),(.tmp 42,iI (idxJ M (keyC c):Int)),(.tmp 40,iI (cntJ M (keyC c)+(1:Int)))] hh uU (hh.set 3 (.obj (mO (addJ M (keyC c))))):=by
 have e:opAt Tryz.f54 9 6=.entryStore 151 (.tmp 37) (.tmp 42) (.tmp 40):=by kernel_rfl
 rw[e];have hj:=entJ_len M (keyC c);have:=sem_storeJ (P:=Tryz.prog) (t:=151) (x:=.tmp 37) (y:=.tmp 42) (z:=.tmp 40) hm hj (cntJ M (keyC c)+1)
 have ea:addJ M (keyC c)=(entJ M (keyC c)).set (idxJ M (keyC c)) ((entJ M (keyC c))[idxJ M (keyC c)].1,cntJ M (keyC c)+1):=by
  unfold addJ;rw[gE,List.getElem?_eq_getElem hj];rfl
 rw[ea];exact this
theorem semK54(M:JM)(c:Cast)(hh:List Blk)(hm:hh[3]? =some (.obj (mO (addJ M (keyC c))))):SemOK Tryz.prog (opAt Tryz.f54 10 2) [(.tmp 43,.map 3),(.tmp 44,.agg [iI c.mould,iI c.number])] hh (iI (cntJ M (keyC c)+1)) hh:=by
 have e:opAt Tryz.f54 10 2=.lookup 151 (.tmp 43) (.tmp 44) false:=by kernel_rfl
 rw[e];have:=lookJ (addJ M (keyC c)) (keyC c) 43 44 hh hm;rw[cntJ_same M (same2_self _)]at this;exact this
theorem semX54(X:MTru)(u:Nat)(hu:u<4)(hh:List Blk)(hq:hh[4]? =some (.cells (tMTru.cells X))):SemOK Tryz.prog (opAt Tryz.f54 8 3) [(.tmp 35,.ref 4 0 (0+((u:Int)).toNat*2))] hh (.agg [iI (X.casts u).mould,iI (X.casts u).number]) hh:=by
 have e:opAt Tryz.f54 8 3=.load 84 (.tmp 35):=by kernel_rfl
 rw[e];refine sem_weak [(35,.ref 4 0 (0+((u:Int)).toNat*2))] (fun p hp=>⟨p.2,by rw[List.mem_singleton]at hp⊢;rw[hp],VLe.refl _⟩) ?_
 have hl:loadV Tryz.prog hh 84 (.ref 4 0 (0+((u:Int)).toNat*2))=some (true,.agg [iI (X.casts u).mould,iI (X.casts u).number]):=by
  unfold loadV;simp only[hq];rcases show u=0\/u=1\/u=2\/u=3 by omega with rfl|rfl|rfl|rfl<;>kernel_rfl
 have ha:loadA Tryz.prog hh 84 (.ref 4 0 (0+((u:Int)).toNat*2))=none:=by
  unfold loadA;simp only[hq];kernel_rfl
 have ht:hasT Tryz.prog 84=true:=by kernel_rfl
 have hr:(ρw [(35,.ref 4 0 (0+((u:Int)).toNat*2))]) (.tmp 35)=.ref 4 0 (0+((u:Int)).toNat*2):=rfl;simp only[evalOp,hr,ht,ha,hl,if_true]
noncomputable def o54_9:Array Oper:=(regOf 9 (Tryz.f54.body.getD .skip)).getD #[]
@[reducible] noncomputable def st54_9 (s:Shop) (M:JM) (A:List Cast) (ca:Cast) (u:Nat) (io:Int) (c:Nat->Bool):St:=⟨([uU,iI (u:Int),uU,uU,.row 1 A.length,uU,uU,uU,.map 3,uU,uU,.ref 5 0 0]++ud 15++ [tMTru.lst (allM s),iI (((allM s).length):Int),iI io]++ud 7++ [(bif c 0 then .map 3 else(uU)),(bif c 1 then .agg [iI ca.mould,iI ca.number]else(uU)),(bif c 2 then iI (cntJ M (keyC ca))else(uU)),(bif c 3 then iI ((cntJ M (keyC ca))+(1:Int))else(uU)),(bif c 4 then .tuple [iI (cntJ M (keyC ca)),iI (idxJ M (keyC ca):Int)]else(uU)),(bif c 5 then iI (idxJ M (keyC ca):Int)else(uU))]++ud 12),[.gone,.rows 84 2 A.length (rowsRev tCast A),.gone,(bif c 4 then .obj (mO (entJ M (keyC ca)))else(.obj (mO M))),.gone,.cells [iI ca.mould,iI ca.number]],[]⟩
def t54_9:Tab:=[([],[1]),([],[0]),([0,1],[4,5]),([0,1,2],[4,5]),([0,1],[2,3]),([0,1,4],[2,3])]
theorem ov54_9(s:Shop)(M:JM)(A:List Cast)(ca:Cast)(u:Nat)(io:Int)(hr:inR .i64 (cntJ M (keyC ca)+(1:Int))=true):AWP Tryz.prog ⟨none,0⟩ (regionOf Tryz.f54 9) ⟨([uU,iI (u:Int),uU,uU,.row 1 A.length,uU,uU,uU,.map 3,uU,uU,.ref 5 0 0]++ud 15++ [tMTru.lst (allM s),iI (((allM s).length):Int),iI io]++ud 25),[.gone,.rows 84 2 A.length (rowsRev tCast A),.gone,.obj (mO M),.gone,.cells [iI ca.mould,iI ca.number]],[]⟩ (fun e T=>e=.normal/\T=⟨([uU,iI (u:Int),uU,uU,.row 1 A.length,uU,uU,uU,.map 3,uU,uU,.ref 5 0 0]++ud 15++ [tMTru.lst (allM s),iI (((allM s).length):Int),iI io]++ud 7++ [.map 3,.agg [iI ca.mould,iI ca.number],iI (cntJ M (keyC ca)),iI ((cntJ M (keyC ca))+(1:Int)),.tuple [iI (cntJ M (keyC ca)),iI (idxJ M (keyC ca):Int)],iI (idxJ M (keyC ca):Int)]++ud 12),[.gone,.rows 84 2 A.length (rowsRev tCast A),.gone,.obj (mO (addJ M (keyC ca))),.gone,.cells [iI ca.mould,iI ca.number]],[]⟩):=by
 refine AWP.region_bits (ops:=o54_9) 6 0 t54_9 mx (st54_9 s M A ca u io) (fun z_i z_h c=> ?_) ?_
 ·rcases show z_i=0\/z_i=1\/z_i=2\/z_i=3\/z_i=4\/z_i=5 by omega with rfl|rfl|rfl|rfl|rfl|rfl
  ·exact AStep.rd true (.map 3) rfl
  ·exact AStep.rd true (.agg [iI ca.mould,iI ca.number]) rfl
  ·rw[mkb_free t54_9 2 false c [4,5] rfl,mkb_free t54_9 2 true c [4,5] rfl];simp only[List.map_cons,List.map_nil];generalize c 4=c4
   generalize c 5=c5
   cases c4<;>cases c5;all_goals refine AStep.of_ops (AOps.sem (o:=o54_9.getD 2 default) (us:=[(.tmp 37,uU),(.tmp 38,uU)]) (v:=iI (cntJ M (keyC ca))) (h':=_) (by kernel_rfl) (by kernel_rfl) (by kernel_rfl) (by rw[show(o54_9.getD 2 default).op=.lookup 151 (.tmp 37) (.tmp 38) false by kernel_rfl];exact semL54 M ca _ (by first|exact .inl rfl|exact .inr rfl)) (fun j hj=>by cases hj) (AOps.nil ⟨rfl,?_⟩))
   all_goals kernel_rfl
  ·refine AStep.rd (inR .i64 ((cntJ M (keyC ca))+(1:Int))) (iI ((cntJ M (keyC ca))+(1:Int))) ?_;first|assumption|rfl|(simp[*];done)|(simp;omega)|(simp only[Bool.and_eq_true,decide_eq_true_eq];omega)
  ·rw[mkb_free t54_9 4 false c [2,3] rfl,mkb_free t54_9 4 true c [2,3] rfl];simp only[List.map_cons,List.map_nil];generalize c 2=c2
   generalize c 3=c3
   cases c2<;>cases c3;all_goals refine AStep.of_ops (AOps.sem (o:=o54_9.getD 4 default) (us:=[(.tmp 37,uU),(.tmp 38,uU)]) (v:=.tuple [iI (cntJ M (keyC ca)),iI (idxJ M (keyC ca):Int)]) (h':=_) (by kernel_rfl) (by kernel_rfl) (by kernel_rfl) (by rw[show(o54_9.getD 4 default).op=.mapEntry 151 (.tmp 37) (.tmp 38) by kernel_rfl];exact semE54 M ca _ rfl) (fun j hj=>by cases hj) (AOps.nil ⟨rfl,?_⟩))
   all_goals kernel_rfl
  ·exact AStep.rd true (iI (idxJ M (keyC ca):Int)) rfl
 ·refine AOps.tree (g:=(.sem (opAt Tryz.f54 9 6) [(.tmp 37,.map 3),(.tmp 42,iI (idxJ M (keyC ca):Int)),(.tmp 40,iI ((cntJ M (keyC ca))+(1:Int)))] [.gone,.rows 84 2 A.length (rowsRev tCast A),.gone,.obj (mO (entJ M (keyC ca))),.gone,.cells [iI ca.mould,iI ca.number]] (uU) [.gone,.rows 84 2 A.length (rowsRev tCast A),.gone,.obj (mO (addJ M (keyC ca))),.gone,.cells [iI ca.mould,iI ca.number]] (.done .normal ⟨([uU,iI (u:Int),uU,uU,.row 1 A.length,uU,uU,uU,.map 3,uU,uU,.ref 5 0 0]++ud 15++ [tMTru.lst (allM s),iI (((allM s).length):Int),iI io]++ud 7++ [.map 3,.agg [iI ca.mould,iI ca.number],iI (cntJ M (keyC ca)),iI ((cntJ M (keyC ca))+(1:Int)),.tuple [iI (cntJ M (keyC ca)),iI (idxJ M (keyC ca):Int)],iI (idxJ M (keyC ca):Int)]++ud 12),[.gone,.rows 84 2 A.length (rowsRev tCast A),.gone,.obj (mO (addJ M (keyC ca))),.gone,.cells [iI ca.mould,iI ca.number]],[]⟩))) (by kernel_rfl) ?_
  simp only[DT.holds];repeat' (first|exact rfl|refine And.intro ?_ ?_)
  all_goals first|(simp;done)|exact semS54 M ca _ rfl
inductive P54
 |e
 |l0 (x0_29:Int) (a0_1:List Cast) (o0_3:JM)
inductive R54
 |r0 (r0:List Cast) (r1:Int)
noncomputable def T54(s:Shop)(u:Nat):P54->Tr P54 R54
 |.e=>let c1:=tShop.cells s;(.wait 2 (.own 4 84 2 (.wait 2 (.frz 2 ((decide (1<=1))&&true) (.wait 0 (.vle 18 (.list 1 1 (litC 1 1 [iI (u:Int)])) (tint.lst ([(u:Int)]:List Int)) (.call 104 [.agg c1,iI (s.heads.length:Int),tint.lst ([(u:Int)]:List Int)] (.tuple [lkS s (lookM s),tMTru.lst (allM s),iI 0]) true true (.br ((0:Int) !=(0:Int)) (.wait 1 .never) (.sem (opAt Tryz.f54 4 0) [] [.cells c1,.rows 84 2 0 (rowsRev tCast ([])),.gone] (.map 3) [.cells c1,.rows 84 2 0 (rowsRev tCast ([])),.gone,.obj (mO ([]))] true (.go (.l0 0 ([]) ([]))))))))))))
 |.l0 x0_29 a0_1 o0_3=>let c1:=((allM s).getD (x0_29).toNat tMTru.zero).casts u;let c3:=isortN ((a0_1).reverse) a0_1.length;let c4:List Blk:=[.gone,.rows 84 2 a0_1.length (rowsRev tCast a0_1),.gone,.obj (mO o0_3),.cells (tMTru.cells ((allM s).getD (x0_29).toNat tMTru.zero))];let c5:List V:=[iI (c1.mould),iI (c1.number)];let c2:List Blk:=[.gone,.rows 84 2 a0_1.length (rowsRev tCast a0_1),.gone,.obj (mO (addJ o0_3 (keyC c1))),.gone,.cells c5];let c6:=(((allM s).length):Int);let c7:=x0_29+(1:Int);let c8:=cntJ o0_3 (keyC c1);let c9:V:=.list 2 a0_1.length (rowsOf tCast c3);let c10:=decide (a0_1.length<=a0_1.length);let c11:=rowsOf tCast ((a0_1).reverse);let c12:=(idxJ o0_3 (keyC c1):Int);(.br (decide (x0_29<c6)) (.need (decide (0<=x0_29)&&decide (x0_29<c6)) (.need ((decide (0<=(u:Int))&&decide ((u:Int)<(4:Int)))&&true) (.sem (opAt Tryz.f54 8 3) [(.tmp 35,.ref 4 0 (0+((u:Int)).toNat*2))] c4 (.agg c5) c4 true (.wait 1 (.drop ⟨([uU,.nil,uU,uU,.nil,uU,uU,uU,.nil,uU,uU,.nil]++ud 15++ [.nil,.nil,.nil]++ud 25),[.void,.void,.void,.void,.gone,.void],[]⟩ (.over (regionOf Tryz.f54 9) ⟨([uU,iI (u:Int),uU,uU,.row 1 a0_1.length,uU,uU,uU,.map 3,uU,uU,.ref 5 0 0]++ud 15++ [tMTru.lst (allM s),iI c6,iI x0_29]++ud 25),[.gone,.rows 84 2 a0_1.length (rowsRev tCast a0_1),.gone,.obj (mO o0_3),.gone,.cells c5],[]⟩ .normal ⟨([uU,iI (u:Int),uU,uU,.row 1 a0_1.length,uU,uU,uU,.map 3,uU,uU,.ref 5 0 0]++ud 15++ [tMTru.lst (allM s),iI c6,iI x0_29]++ud 7++ [.map 3,.agg c5,iI c8,iI (c8+(1:Int)),.tuple [iI c8,iI c12],iI c12]++ud 12),c2,[]⟩ true (.sem (opAt Tryz.f54 10 2) [(.tmp 43,.map 3),(.tmp 44,.agg c5)] c2 (iI (cntJ o0_3 (keyC c1)+1)) c2 true (.br ((cntJ o0_3 (keyC c1)+1)==(1:Int)) (.need ((decide (a0_1.length=a0_1.length)&&decide (a0_1.length+1<=4294967296))&&decide (1<=1)) (.scal (fun _=>true) (.need (inR .i64 c7) (.go (.l0 c7 (c1::a0_1) (addJ o0_3 (keyC c1))))))) (.need (inR .i64 c7) (.go (.l0 c7 a0_1 (addJ o0_3 (keyC c1))))))))))))) (.wait 2 (.telb 1 2 a0_1.length (rowsRev tCast a0_1) c11 (.hcall 105 [.row 1 a0_1.length,fF 106] (.tuple []) [.gone,.rows 84 2 a0_1.length c11,.gone,.obj (mO o0_3)] [.gone,.rows 84 2 a0_1.length (rowsOf tCast c3),.gone,.obj (mO o0_3)] true (.wait 1 (.frz 1 (c10&&(c10&&true)) (.vle 4 c9 (tCast.lst c3) (.vle 52 c9 (tCast.lst c3) (.out (.r0 c3 0))))))))))
noncomputable def g54(s:Shop)(u:Nat):P54->List Item × St
 |.e=>bd Tryz.f54 [.agg (tShop.cells s),iI (u:Int)] 53
 |.l0 x0_29 a0_1 o0_3=>(cutOf Tryz.f54 0,⟨mk 55 [(1,iI (u:Int)),(4,.row 1 a0_1.length),(8,.map 3),(27,tMTru.lst (allM s)),(28,iI (((allM s).length):Int)),(29,iI x0_29)],[.gone,.rows 84 2 a0_1.length (rowsRev tCast a0_1),.gone,.obj (mO o0_3)],[]⟩)
noncomputable def n54:R54->Exit × St
 |.r0 r0 r1=>(.ret,⟨mk 55 [(4,tCast.lst r0),(5,iI r1)],[],[]⟩)
noncomputable def v54:R54->V
 |.r0 r0 r1=>.tuple [tCast.lst r0,iI r1]
theorem s54(s:Shop)(u:Nat):Sm 0 (g54 s u) (T54 s u) (n54)
 |.e=>⟨400,by kernel_rfl⟩
 |.l0 _ _ _=>⟨400,by kernel_rfl⟩
theorem q54:∀r,bodyQ Tryz.prog Tryz.f54 (·=v54 r) (n54 r).1 (n54 r).2
 |.r0 r0 r1=>bq (.tuple [tCast.lst r0,iI r1]) (by kernel_rfl)
theorem w54(s:Shop)(u:Nat){post:V->Prop}(h:WQ (T54 s u) v54 post .e):PC 54 [.agg (tShop.cells s),iI (u:Int)] post:=
 PCalls.wq Tryz.func54 (s54 s u) q54 h
theorem swap_mem{l:List Cast}{i k:Nat}(hi:i<l.length)(hk:k<l.length){c:Cast}(h:c∈l):c∈(l.set i (l.getD k zCast)).set k (l.getD i zCast):=by
 obtain⟨m,hm,rfl⟩:=List.getElem_of_mem h;by_cases e1:m=i
 ·subst e1
  have e:((l.set m (l.getD k zCast)).set k (l.getD m zCast))[k]? =some l[m]:=by
   rw[List.getElem?_set_self (by simpa using hk),gE,List.getElem?_eq_getElem hm];rfl
  exact List.mem_of_getElem? e
 ·by_cases e2:m=k
  ·subst e2
   have e:((l.set i (l.getD m zCast)).set m (l.getD i zCast))[i]? =some l[m]:=by
    rw[sN (fun q=>e1 q),List.getElem?_set_self hi,gE,List.getElem?_eq_getElem hm];rfl
   exact List.mem_of_getElem? e
  ·have e:((l.set i (l.getD k zCast)).set k (l.getD i zCast))[m]? =some l[m]:=by
    rw[sN (fun q=>e2 q.symm),sN (fun q=>e1 q.symm),List.getElem?_eq_getElem hm]
   exact List.mem_of_getElem? e
theorem sift_mem{c:Cast}:∀(j:Nat) (l:List Cast),j<l.length->c∈l->c∈sift j l
 |0,_,_,h=>h
 |j+1,l,hj,h=>by
  unfold sift;split
  ·exact sift_mem j _ (by simp;omega) (swap_mem (by omega) (by omega) h)
  ·exact h
theorem isort_mem{c:Cast}{l:List Cast}(h:c∈l):∀i,i<=l.length->c∈isortN l i
 |0,_=>h
 |i+1,hi=>sift_mem i _ (by show i<(isortN l i).length;rw[isortN_len];omega) (isort_mem h i (by omega))
def mayR(s:Shop)(u:Nat):List Cast:=isortN (mayK u (allM s)).2.reverse (mayK u (allM s)).2.length
theorem mayK_all{s:Shop}{u:Nat}(hu:u<s.heads.length)(i:Nat):MayOk (mayK u ((allM s).take i)) ((allM s).take i).length (allCasts s)/\∀t∈(allM s).take i,t.casts u∈(mayK u ((allM s).take i)).2:=by
 have:=mayK_ok u (allCasts s) ((allM s).take i) ([],[]) 0 (MayOk.nil _) fun t ht=>allM_cast (List.mem_of_mem_take ht) hu;rw[Nat.zero_add]at this;exact⟨this.1,this.2.1⟩
theorem mayR_mem{s:Shop}{u:Nat}(hu:u<s.heads.length){t:MTru}(ht:t∈allM s):t.casts u∈mayR s u:=by
 have h:=(mayK_all hu (allM s).length).2;rw[List.take_length]at h;exact isort_mem (by rw[List.mem_reverse];exact h t ht) _ (by rw[List.length_reverse];exact Nat.le_refl _)
theorem nodup_le{α:Type}:∀ {l r:List α},l.Nodup->(∀x∈l,x∈r)->l.length<=r.length
 |[],_,_,_=>Nat.zero_le _
 |a::l,r,hn,hs=>by
  obtain⟨p,q,e⟩:=List.append_of_mem (hs a List.mem_cons_self);have h1:=List.nodup_cons.1 hn
  have:=nodup_le (l:=l) (r:=p++q) h1.2 fun x hx=>by
   have h2:=hs x (List.mem_cons_of_mem _ hx);rw[e]at h2;rcases List.mem_append.1 h2 with h3|h3
   ·exact List.mem_append_left _ h3
   ·rcases List.mem_cons.1 h3 with h4|h4
    ·exact absurd (h4▸hx) h1.1
    ·exact List.mem_append_right _ h4
  rw[e];simp only[List.length_append,List.length_cons]at this⊢;omega
theorem sem_make54(b0 b1 b2:Blk):SemOK Tryz.prog (opAt Tryz.f54 4 0) [] [b0,b1,b2] (.map 3) [b0,b1,b2,.obj (mO [])]:=by
 have e:opAt Tryz.f54 4 0=.makeMap 151 none:=by kernel_rfl
 rw[e];exact sem_makeJ (h:=[b0,b1,b2]) 151
theorem tel_rev(A:List Cast)(r j:Nat)(hr:r<A.length):VLe (rowsRev tCast A r j) (rowsOf tCast A.reverse r j):=by rw[rowsRev_get tCast A r j hr];exact VLe.refl _
theorem one_arg{s:Shop}{u:Nat}(hu:u<s.heads.length):outside 0 ((s.heads.length:Int)-1) [(u:Int)]=false:=by
 have h1:within (u:Int) 0 ((s.heads.length:Int)-1)=true:=within_iff.2 (by omega);unfold outside;simp only[List.any_cons,List.any_nil,h1];rfl
theorem vle_one'(a:Int):VLe (.list 1 1 (litC 1 1 [iI a])) (tint.lst [a]):=by
 show VLe _ (.list 1 1 (rowsOf tint [a]));refine VLe.list fun r j hr hj=> ?_;obtain rfl:j=0:=by omega
 obtain rfl:r=0:=by omega
 exact rfl
set_option maxHeartbeats 4000000 in
theorem c54(s:Shop)(u:Nat)(h0:(shopCheck s).2.2=0)(hok:OkShop s)(hne:allM s≠ [])(hu:u<s.heads.length):
  PC 54 [.agg (tShop.cells s),iI (u:Int)] (·=.tuple [tCast.lst (mayR s u),iI 0]):=by
 have h4:=hok.nh;have hall:=allM_len hok;have hm:inR .i64 ((s.heads.length:Int)-1)=true:=inR64 (by omega) (by omega);have k104:=c104 s s.heads.length [(u:Int)] h0 hok hne hm (one_arg hu) (fun h=>by simp at h);have hu4:u<4:=by omega
 have hu4':(u:Int)<4:=by omega
 have hu0:(0:Int)<=(u:Int):=by omega
 have hmain:WP Tryz.prog ⟨none,0⟩ (T54 s u) (Ends' fun r=>v54 r=.tuple [tCast.lst (mayR s u),iI 0]) (.l0 0 [] []):=by
  refine WP.run (fun i=>.l0 (i:Int) (mayK u ((allM s).take i)).2 (mayK u ((allM s).take i)).1) rfl (allM s).length (fun i hi=> ?_) ?_
  ·have hr:inR .i64 ((i:Int)+1)=true:=inR64 (by omega) (by omega);have hi':(i:Int)<(allM s).length:=by omega
   have hM:=(mayK_all hu i).1;have hlt:((allM s).take i).length<=4096:=by rw[List.length_take];omega
   have hsn:=take_snoc tMTru.zero (allM s) i hi
   have hcs:mayK u ((allM s).take (i+1))=mayS (mayK u ((allM s).take i)) (((allM s).getD i tMTru.zero).casts u):=by
    unfold mayK;rw[hsn,List.foldl_append];rfl
   have hAl:(mayK u ((allM s).take i)).2.length<=8:=Nat.le_trans (nodup_le hM.dup hM.all) (casts_len hok);rw[hcs];generalize mayK u ((allM s).take i)=p at*
   obtain⟨M,A⟩:=p;have hcn:=hM.cnt (((allM s).getD i tMTru.zero).casts u);simp only at hcn hAl;have hr2:inR .i64 (cntJ M (keyC (((allM s).getD i tMTru.zero).casts u))+(1:Int))=true:=inR64 (by omega) (by omega);have kov:=ov54_9 s M A (((allM s).getD i tMTru.zero).casts u) u i hr2;have kX:=fun hh hq=>semX54 ((allM s).getD i tMTru.zero) u hu4 hh hq;have kK:=fun hh hq=>semK54 M (((allM s).getD i tMTru.zero).casts u) hh hq
   have hA2:A.length+1<=4294967296:=by omega
   unfold mayS;by_cases hq:cntJ M (keyC (((allM s).getD i tMTru.zero).casts u))+1=1
   ·rw[if_pos hq];refine WP.once ?_;simp only[T54,Tr.sure,SS,hi',hq,hu4',hu0,Int.toNat_natCast];repeat' with_reducible first|intro _|apply aI
    all_goals first|exact(kX _ rfl)|(simp[hr,hA2,Go,Ends',v54,-List.getD_eq_getElem?_getD, *];done)|(simp_all [hr,hA2,Go,Ends',v54,-List.getD_eq_getElem?_getD];done)
   ·rw[if_neg hq];refine WP.once ?_;simp only[T54,Tr.sure,SS,hi',hq,hu4',hu0,Int.toNat_natCast];repeat' with_reducible first|intro _|apply aI
    all_goals first|exact kov|exact(kX _ rfl)|exact(kK _ rfl)|(simp[hr,hA2,Go,Ends',v54,-List.getD_eq_getElem?_getD, *];done)
  ·have hM:=mayK_all hu (allM s).length;rw[List.take_length]at hM⊢;obtain⟨hM,hin⟩:=hM;have e:mayR s u=isortN (mayK u (allM s)).2.reverse (mayK u (allM s)).2.length:=rfl;rw[e];have hAl:(mayK u (allM s)).2.length<=8:=Nat.le_trans (nodup_le hM.dup hM.all) (casts_len hok)
   have hA0:0<(mayK u (allM s)).2.length:=by
    obtain⟨t,ht⟩:=List.exists_mem_of_ne_nil _ hne;exact List.length_pos_of_mem (hin t ht)
   have hcb:∀c∈(mayK u (allM s)).2.reverse,CastB c:=fun c hc=>by
    have:=castOk_in hok (mem_allCasts.1 (hM.all c (List.mem_reverse.1 hc)));unfold CastB;omega
   generalize mayK u (allM s)=p at*
   obtain⟨M,A⟩:=p;simp only at hAl hA0 hcb⊢;have k105:=fun h q hq=>c105at A.length A.reverse hcb (List.length_reverse) hA0 (by omega) h q hq;have hv:VLe (.list 2 A.length (rowsOf tCast (isortN A.reverse A.length))) (tCast.lst (isortN A.reverse A.length)):=VLe.same tCast _ (by rw[isortN_len,List.length_reverse]);refine WP.once ?_;simp only[T54,Tr.sure,SS,Int.lt_irrefl];repeat' with_reducible first|intro _|apply aI
   all_goals first|exact(k105 _ 1 rfl)|exact(by with_reducible exact tel_rev _ _ _ (by assumption))|exact(by with_reducible exact hv)|(simp[Go,Ends',v54,-List.getD_eq_getElem?_getD, *];done)
 refine w54 s u (WP.step ?_);simp only[T54,Go,Ends',v54,Tr.sure,SS];repeat' with_reducible first|intro _|apply aI
 all_goals first|exact k104|exact hmain|exact(sem_make54 _ _ _)|exact(vle_one' _)|(simp[Go,Ends',v54,-List.getD_eq_getElem?_getD, *];done)
end
end Go.Proofs.YtdamoemndifpmaaGreat
