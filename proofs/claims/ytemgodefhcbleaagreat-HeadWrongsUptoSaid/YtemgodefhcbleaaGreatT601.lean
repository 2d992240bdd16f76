/-
  Part of the proof of HeadWrongs. Conditions: those that stand in each theorem.
-/
import Derived.Test.YtemgodefhcbleaaGreatChecked
import Derived.KernelRfl
import Derived.Test.YtemgodefhcbleaaGreatB16
set_option linter.unusedSimpArgs false
set_option linter.unusedVariables false
set_option maxRecDepth 100000
namespace Ab
theorem any_of_firstI{τ:Type}{p:τ→Bool}{l:List τ}{i:Nat}:firstI p 0 l=some i→l.any p=true:=fun h=>by
 rw[←firstI_any p l 0,h];rfl
theorem any_of_none{τ:Type}{p:τ→Bool}{l:List τ}:firstI p 0 l=none→l.any p=false:=fun h=>by
 rw[←firstI_any p l 0,h];rfl
theorem flat_take{τ υ:Type}(f:τ→List υ)(d:τ)(l:List τ)(i:Nat)(hi:i<l.length):((l.take (i+1)).flatMap f).reverse=(f (l.getD i d)).reverse++((l.take i).flatMap f).reverse:=by
 rw[List.take_succ_eq_append_getElem hi,List.flatMap_append,List.reverse_append]
 simp[List.getD_eq_getElem?_getD,hi]
end Ab
namespace Go.Proofs.YtemgodefhcbleaaGreat
open Ab
def tTruth:Ty Truth:=⟨2,fun x=>[tPair.lst x.pairs,(tlist tint).lst x.haves],zTruth⟩
theorem z10:tTruth.zero=zTruth:=rfl
end Go.Proofs.YtemgodefhcbleaaGreat
namespace Ab
open Go
section
variable {P:Program} {ro:Env} {ops:Array Oper} {S:St} {i:Nat} {o:Oper}
theorem AStep.app0(hi:ops[i]? =some o)(hw:wantedV ops S o=some true){s x:Operand}{t e:TypeId}{wd k q:Nat}{c:Nat→Nat→V}{zs:List V}
  (hop:o.op=.call {callee:=.builtin .append,args:= #[s,x],argTypes:= #[t,t]}) (hsv:S.eval s=.nils) (hxv:S.eval x=.list wd k c) (hu:P.underlying t=some (.slice e)) (hz:zeroCs P e=some zs)
  (hc:decide (hasT P e=true∧szOf P e=wd∧0<wd∧zs.length=wd∧P.bytesOf e≤32768)=true) (hvd:S.h[q]? =some .void)
  (hk:k≤4294967296) (hsc:∀r,r<k→∀j,j<wd→(c r j).scalar=true):
  AStep P ro ops i S ({S with h:=S.h.set q (.rows e wd k c)}.put o.dst (.row q k)):=by
 obtain⟨hT,hsz,h0,hzl,hby⟩:=of_decide_eq_true hc
 refine AStep.of_val hi hw (fun c hcc=>by rw[hop]at hcc;cases hcc) fun β G K a w r=> ?_
 have hs:=r.eval s
 rw[hsv]at hs
 have hx:=r.eval x
 rw[hxv]at hx
 have hlt:q<β.length:=by rw[r.h.len];exact(List.getElem?_eq_some_iff.1 hvd).1
 generalize hsx:a.eval s=sv at hs
 cases hs with
 |nils=>
  rename_i a0
  obtain⟨v',w',r1,r2,r3,r5,r4⟩:=run_fresh (ty:=o.type) hu hT hsz h0 hz hzl hby r.h (a0:=a0) hx hk hsc
  have hrun:(execOp a.eval o).run P w=.ok (.value v') w':=by
   simp only[execOp,hop,resolve,Sem.run_bind,Sem.run_pure,Result.andThen_ok,invoke,builtin,List.map_toArray,List.map_cons,List.map_nil,hsx,r1]
  rcases r4 with⟨rfl,rfl,rfl⟩|⟨hpos,g,cap',cur,rfl,hge,hcur,hnc,hcm,hcsz,hrel⟩
  ·have hle:=le_set_void (x:=.nil) (r.h.void_home hvd)
   have q1:=r.refill hvd hle (r.h.fillNil hvd e c h0)
   exact⟨_,_,_,G,K,hrun,hle.low _,G.ext_refl K,K.le_refl,q1,.row0 (List.getElem?_set_self hlt)⟩
  ·have hle:=le_set_void (x:=.lie ⟨g,wd,cap'⟩) (r.h.void_home hvd)
   have hmn:k≤maxn:=by unfold maxn;omega
   have hg':g<w'.heap.size:=(Array.getElem?_eq_some_iff.1 hcur).1
   have q1:=r.refill hvd hle (r.h.fillG r2 r3 (k:=.rows e wd k c) (x:=⟨g,wd,cap'⟩) hvd hge hg' ⟨rfl,h0,hcm,cur,hcur,hcsz,hnc,hmn,hrel⟩ r5)
   exact⟨_,_,_,G,K,hrun,hle.low _,G.ext_refl K,K.le_refl,q1,.row (List.getElem?_set_self hlt) hnc (Nat.le_refl _) hmn⟩
end
end Ab
namespace Ab
open Go
theorem VLe.appS{τ:Type}(E:Ty τ)(L:List τ)(x:τ){n w:Nat}{cs:List V}(hc:cs=E.cells x)(hn:n=L.length)(hw:w=E.w:=by rfl):VLe (.list w (n+1) (appC n (rowsOf E L) (litC w 1 cs))) (E.lst (L++ [x])):=by
 subst hc;subst hn;subst hw
 show VLe _ (.list E.w (L++ [x]).length (rowsOf E (L++ [x])))
 rw[List.length_append,List.length_singleton]
 refine VLe.list fun r j hr hj=> ?_
 unfold appC
 by_cases h:r<L.length
 ·rw[if_pos h];simp only[rowsOf,List.getD_eq_getElem?_getD,List.getElem?_append_left h]
 ·have e:r=L.length:=by omega
  subst e
  rw[if_neg h,Nat.sub_self]
  simp only[rowsOf,List.getD_eq_getElem?_getD,List.getElem?_append_right (Nat.le_refl _),Nat.sub_self]
  rfl
end Ab
namespace Ab
open Go
section
variable {P:Program} {ro:Env} {ops:Array Oper} {i:Nat} {S S2:St}
theorem AStep.ap0(s x:Operand)(t e q wd k:Nat)(c:Nat→Nat→V)(zs:List V)(hk:k≤4294967296)(hsc:∀r,r<k→∀j,j<wd→(c r j).scalar=true)(hi:ops[i]? =some (ops.getD i default):=by kernel_rfl)(hw:wantedV ops S (ops.getD i default)=some true:=by kernel_rfl)
  (hop:(ops.getD i default).op=.call {callee:=.builtin .append,args:= #[s,x],argTypes:= #[t,t]}:=by kernel_rfl) (hsv:S.eval s=.nils:=by kernel_rfl) (hxv:S.eval x=.list wd k c:=by kernel_rfl) (hu:P.underlying t=some (.slice e):=by kernel_rfl) (hz:zeroCs P e=some zs:=by kernel_rfl)
  (hc:decide (hasT P e=true∧szOf P e=wd∧0<wd∧zs.length=wd∧P.bytesOf e≤32768)=true:=by kernel_rfl) (hvd:S.h[q]? =some .void:=by kernel_rfl)
  (h2:({S with h:=S.h.set q (.rows e wd k c)}.put (ops.getD i default).dst (.row q k))=S2:=by kernel_rfl):AStep P ro ops i S S2:=AStep.to (AStep.app0 hi hw hop hsv hxv hu hz hc hvd hk hsc) h2
end
end Ab
namespace Go.Proofs.YtemgodefhcbleaaGreat
open Ab Go
noncomputable section
inductive P44
 |e
 |l0 (x0_5:Int)
inductive R44
 |r0 (r0:Bool)
noncomputable def T44(p0:List Int)(p1:Int):P44→Tr P44 R44
 |.e=>(.go (.l0 0))
 |.l0 x0_5=>let c1:=x0_5<(p0.length:Int);(.br (decide c1) (.need (decide (0≤x0_5)&&decide c1) (.br ((p0.getD (x0_5).toNat tint.zero)==p1) (.out (.r0 true)) (.need (inR .i64 (x0_5+(1:Int))) (.go (.l0 (x0_5+(1:Int))))))) (.out (.r0 false)))
noncomputable def g44(p0:List Int)(p1:Int):P44→List Item × St
 |.e=>bd Tryz.f44 [tint.lst p0,iI p1] 16
 |.l0 x0_5=>(cutOf Tryz.f44 0,⟨mk 18 [(0,tint.lst p0),(1,iI p1),(4,.bool false),(5,iI x0_5)],[],[]⟩)
noncomputable def n44:R44→Exit × St
 |.r0 r0=>(.ret,⟨mk 18 [(4,.bool r0)],[],[]⟩)
noncomputable def v44:R44→V
 |.r0 r0=>.bool r0
theorem s44(p0:List Int)(p1:Int):Sm 0 (g44 p0 p1) (T44 p0 p1) (n44)
 |.e=>⟨400,by kernel_rfl⟩
 |.l0 _=>⟨400,by kernel_rfl⟩
theorem q44:∀r,bodyQ Tryz.prog Tryz.f44 (·=v44 r) (n44 r).1 (n44 r).2
 |.r0 r0=>bq (.bool r0) (by kernel_rfl)
theorem w44(p0:List Int)(p1:Int){post:V→Prop}(h:WQ (T44 p0 p1) v44 post .e):PC 44 [tint.lst p0,iI p1] post:=
 PCalls.wq Tryz.func44 (s44 p0 p1) q44 h
theorem e44:∀xs w,(callFunc 44 xs).run Tryz.prog w=.ok (.enter 44 xs) w:=PCalls.enters Tryz.func44 (c:=Tryz.f44.body.getD .skip) (by kernel_rfl) (by kernel_rfl)
theorem c44(l:List Int)(n:Int):PC 44 [tint.lst l,iI n] (·=.bool (hasN l n)):=by
 refine PCalls.assume e44 0 (by simp) .list fun hl=> ?_
 refine w44 _ _ (WP.step ?_)
 simp only[T44,Go,Ends',v44,Tr.sure,SS]
 repeat' with_reducible first|intro _|apply And.intro
 refine WP.findI (fun i=>.l0 i) rfl l 0 (·==n) (fun i hi=> ?_) fun hI=> ?_
 ·have hr:=inRi hi hl
  have ha:firstI (·==n) 0 l=some i→l.any (·==n)=true:=any_of_firstI
  refine WP.once ?_
  simp only[T44,Tr.sure,SS,hi,z1]
  repeat' with_reducible first|intro _|apply And.intro
  all_goals first|(simp[hr,hasN,Go,Ends',v44,-List.getD_eq_getElem?_getD, *];done)|(simp_all [hr,hasN,Go,Ends',v44,-List.getD_eq_getElem?_getD];done)
 ·have ha:=any_of_none hI
  refine WP.step ?_
  simp only[T44,Go,Ends',v44,Tr.sure,SS,Int.lt_irrefl]
  repeat' with_reducible first|intro _|apply And.intro
  all_goals simp[hasN,ha,Go,Ends',v44,-List.getD_eq_getElem?_getD, *]
end
noncomputable section
inductive P99
 |e
inductive R99
 |r0 (r0_0:Int) (r0_1:Int)
noncomputable def T99(n:Int)(m:Int):P99→Tr P99 R99
 |.e=>(.out (.r0 (min n m) (max n m)))
noncomputable def g99(n:Int)(m:Int):P99→List Item × St
 |.e=>bd Tryz.f99 [iI n,iI m] 10
noncomputable def n99:R99→Exit × St
 |.r0 r0_0 r0_1=>(.ret,⟨mk 12 [(4,.ref 0 0 0)],[.cells [iI r0_0,iI r0_1]],[]⟩)
noncomputable def v99:R99→V
 |.r0 r0_0 r0_1=>.agg [iI r0_0,iI r0_1]
theorem s99(n:Int)(m:Int):Sm 0 (g99 n m) (T99 n m) (n99)
 |.e=>⟨400,by kernel_rfl⟩
theorem q99:∀r,bodyQ Tryz.prog Tryz.f99 (·=v99 r) (n99 r).1 (n99 r).2
 |.r0 r0_0 r0_1=>bq (.agg [iI r0_0,iI r0_1]) (by kernel_rfl)
theorem w99(n:Int)(m:Int){post:V→Prop}(h:WQ (T99 n m) v99 post .e):PC 99 [iI n,iI m] post:=
 PCalls.wq Tryz.func99 (s99 n m) q99 h
theorem c99(n m:Int):PC 99 [iI n,iI m] (·=.agg (tPair.cells (pairR n m))):=by
 refine w99 _ _ (WP.step ?_)
 simp only[T99,Go,Ends',v99,Tr.sure,SS]
 repeat' with_reducible first|intro _|apply And.intro
 all_goals simp[pairR,tPair,Go,Ends',v99,-List.getD_eq_getElem?_getD, *]
inductive P100
 |e
inductive R100
 |r0 (r0:Bool)
noncomputable def T100(p:Pair)(q:Pair):P100→Tr P100 R100
 |.e=>(.br (decide (p.a<q.a)) (.lit true (.out (.r0 true))) (.br (p.a==q.a) (.lit false (.out (.r0 (decide (p.b<q.b))))) (.lit false (.out (.r0 false)))))
noncomputable def g100(p:Pair)(q:Pair):P100→List Item × St
 |.e=>bd Tryz.f100 [.agg [iI p.a,iI p.b],.agg [iI q.a,iI q.b]] 22
noncomputable def n100:R100→Exit × St
 |.r0 r0=>(.ret,⟨mk 24 [(4,.bool r0)],[],[]⟩)
noncomputable def v100:R100→V
 |.r0 r0=>.bool r0
theorem s100(p:Pair)(q:Pair):Sm 0 (g100 p q) (T100 p q) (n100)
 |.e=>⟨400,by kernel_rfl⟩
theorem q100:∀r,bodyQ Tryz.prog Tryz.f100 (·=v100 r) (n100 r).1 (n100 r).2
 |.r0 r0=>bq (.bool r0) (by kernel_rfl)
theorem w100(p:Pair)(q:Pair){post:V→Prop}(h:WQ (T100 p q) v100 post .e):PC 100 [.agg [iI p.a,iI p.b],.agg [iI q.a,iI q.b]] post:=
 PCalls.wq Tryz.func100 (s100 p q) q100 h
theorem c100(p q:Pair):PC 100 [.agg (tPair.cells p),.agg (tPair.cells q)] (·=.bool (beforeR p q)):=by
 refine w100 _ _ (WP.step ?_)
 simp only[T100,Go,Ends',v100,Tr.sure,SS]
 repeat' with_reducible first|intro _|apply And.intro
 all_goals simp[beforeR,Go,Ends',v100,-List.getD_eq_getElem?_getD, *]
theorem someAt_next(l:List Int)(i k:Nat)(h:i<k):someAt l i (k+1)=someAt l i k++ [⟨l.getD i 0,l.getD k 0⟩]:=by
 unfold someAt;rw[List.range_succ,List.drop_append_of_le_length (by rw[List.length_range];omega),List.map_append];rfl
theorem someAt_len(l:List Int)(i k:Nat):(someAt l i k).length≤k:=by unfold someAt;simp only[List.length_map,List.length_drop,List.length_range];omega
theorem someTo2_len(l:List Int)(h:l.length≤5):∀i,(someTo2 l i).length≤5*i
 |0=>by simp[someTo2]
 |i+1=>by
  rw[someTo2_next,List.length_append]
  have:=someTo2_len l h i
  have:=someAt_len l i l.length
  omega
inductive P56
 |e
 |l0 (x0_7:Int) (a0_1:List Pair)
 |l1 (x0_7:Int) (x1_8:Int) (a1_1:List Pair)
inductive R56
 |r0 (r0_0:Int) (r0_1:Int)
 |r1 (r0_0:Int) (r0_1:Int)
 |r2 (r0_0:Int) (r0_1:Int) (r0_2:Int) (r0_3:Int)
 |r3 (r0:List Pair)
noncomputable def T56(x:Line):P56→Tr P56 R56
 |.e=>let c1:=pairR x.a x.b;let c2:=pairR x.c x.d;let c3:List V:=[iI (c1.a),iI (c1.b)];(.br (x.kind==(0:Int)) (.call 99 [iI x.a,iI x.b] (.agg c3) true true (.out (.r0 (c1.a) (c1.b)))) (.br (x.kind==(1:Int)) (.front [(4,99,[iI x.a,iI x.b],.agg c3),(9,99,[iI x.c,iI x.d],.agg [iI (c2.a),iI (c2.b)])] [] true true (.br ((c1.a==c2.a)&&((c1.b==c2.b)&&true)) (.out (.r1 (c1.a) (c1.b))) (.call 100 [.agg [iI (c2.a),iI (c2.b)],.agg c3] (.bool (beforeR c2 c1)) true true (.br (beforeR c2 c1) (.out (.r2 (c2.a) (c2.b) (c1.a) (c1.b))) (.out (.r2 (c1.a) (c1.b) (c2.a) (c2.b))))))) (.br (x.kind==(2:Int)) (.wait 2 (.own 5 95 2 (.call 101 [iI x.set] (tint.lst (bitsR x.set)) true true (.go (.l0 0 ([])))))) (.out (.r0 0 0)))))
 |.l0 x0_7 a0_1=>(.br (decide (x0_7<(((bitsR x.set).length):Int))) (.need (inR .i64 (x0_7+(1:Int))) (.go (.l1 x0_7 (x0_7+(1:Int)) a0_1))) (.out (.r3 a0_1)))
 |.l1 x0_7 x1_8 a1_1=>let c1:=(((bitsR x.set).length):Int);(.br (decide (x1_8<c1)) (.front [] [] (((decide (0≤x0_7)&&decide (x0_7<c1))&&((decide (0≤x1_8)&&decide (x1_8<c1))&&true))&&true) true (.need ((decide (a1_1.length=a1_1.length)&&decide (a1_1.length+1≤4294967296))&&true) (.scal (fun _=>true) (.need (inR .i64 (x1_8+(1:Int))) (.go (.l1 x0_7 (x1_8+(1:Int)) ((⟨((bitsR x.set).getD (x0_7).toNat tint.zero),((bitsR x.set).getD (x1_8).toNat tint.zero)⟩:Pair)::a1_1))))))) (.need (inR .i64 (x0_7+(1:Int))) (.go (.l0 (x0_7+(1:Int)) a1_1))))
noncomputable def g56(x:Line):P56→List Item × St
 |.e=>bd Tryz.f56 [.agg [iI x.day,iI x.kind,iI x.a,iI x.b,iI x.c,iI x.d,iI x.set]] 78
 |.l0 x0_7 a0_1=>(cutOf Tryz.f56 0,⟨mk 79 [(5,.row 1 a0_1.length),(6,tint.lst (bitsR x.set)),(7,iI x0_7)],[.gone,.rows 95 2 a0_1.length (rowsRev tPair a0_1)],[]⟩)
 |.l1 x0_7 x1_8 a1_1=>(cutOf Tryz.f56 1,⟨mk 79 [(5,.row 1 a1_1.length),(6,tint.lst (bitsR x.set)),(7,iI x0_7),(8,iI x1_8)],[.gone,.rows 95 2 a1_1.length (rowsRev tPair a1_1)],[]⟩)
noncomputable def n56:R56→Exit × St
 |.r0 r0_0 r0_1=>(.ret,⟨mk 79 [(2,.row 1 1)],[.gone,.rows 95 2 1 (litC 2 1 [iI r0_0,iI r0_1])],[]⟩)
 |.r1 r0_0 r0_1=>(.ret,⟨mk 79 [(2,.row 3 1)],[.gone,.gone,.gone,.rows 95 2 1 (litC 2 1 [iI r0_0,iI r0_1])],[]⟩)
 |.r2 r0_0 r0_1 r0_2 r0_3=>(.ret,⟨mk 79 [(2,.row 3 2)],[.gone,.gone,.gone,.rows 95 2 2 (litC 2 2 [iI r0_0,iI r0_1,iI r0_2,iI r0_3])],[]⟩)
 |.r3 r0=>(.ret,⟨mk 79 [(2,.row 1 r0.length)],[.gone,.rows 95 2 r0.length (rowsRev tPair r0)],[]⟩)
noncomputable def v56:R56→V
 |.r0 r0_0 r0_1=>tPair.lst ([(⟨r0_0,r0_1⟩:Pair)]:List Pair)
 |.r1 r0_0 r0_1=>tPair.lst ([(⟨r0_0,r0_1⟩:Pair)]:List Pair)
 |.r2 r0_0 r0_1 r0_2 r0_3=>tPair.lst ([(⟨r0_0,r0_1⟩:Pair),(⟨r0_2,r0_3⟩:Pair)]:List Pair)
 |.r3 r0=>tPair.lst r0.reverse
theorem s56(x:Line):Sm 0 (g56 x) (T56 x) (n56)
 |.e=>⟨400,by kernel_rfl⟩
 |.l0 _ _=>⟨400,by kernel_rfl⟩
 |.l1 _ _ _=>⟨400,by kernel_rfl⟩
theorem q56:∀r,bodyQ Tryz.prog Tryz.f56 (·=v56 r) (n56 r).1 (n56 r).2
 |.r0 r0_0 r0_1=>⟨.inr rfl,by simp[n56],(.row 1 1),(tPair.lst ([(⟨r0_0,r0_1⟩:Pair)]:List Pair)),by kernel_rfl,(.weak (.row rfl (Nat.le_refl _)) (VLe.lit tPair _ rfl rfl (fun _=>rfl))),rfl⟩
 |.r1 r0_0 r0_1=>⟨.inr rfl,by simp[n56],(.row 3 1),(tPair.lst ([(⟨r0_0,r0_1⟩:Pair)]:List Pair)),by kernel_rfl,(.weak (.row rfl (Nat.le_refl _)) (VLe.lit tPair _ rfl rfl (fun _=>rfl))),rfl⟩
 |.r2 r0_0 r0_1 r0_2 r0_3=>⟨.inr rfl,by simp[n56],(.row 3 2),(tPair.lst ([(⟨r0_0,r0_1⟩:Pair),(⟨r0_2,r0_3⟩:Pair)]:List Pair)),by kernel_rfl,(.weak (.row rfl (Nat.le_refl _)) (VLe.lit tPair _ rfl rfl (fun _=>rfl))),rfl⟩
 |.r3 r0=>⟨.inr rfl,by simp[n56],(.row 1 r0.length),(tPair.lst r0.reverse),by kernel_rfl,(.weak (.row rfl (Nat.le_refl _)) (VLe.rev tPair r0)),rfl⟩
theorem w56(x:Line){post:V→Prop}(h:WQ (T56 x) v56 post .e):PC 56 [.agg [iI x.day,iI x.kind,iI x.a,iI x.b,iI x.c,iI x.d,iI x.set]] post:=
 PCalls.wq Tryz.func56 (s56 x) q56 h
theorem c56(x:Line):PC 56 [.agg (tLine.cells x)] (·=tPair.lst (pairsR x)):=by
 by_cases h0:x.kind=0
 ·have e:pairsR x=[pairR x.a x.b]:=by unfold pairsR;rw[if_pos h0]
  rw[e]
  refine w56 _ (WP.step ?_)
  simp only[T56,Go,Ends',v56,Tr.sure,SS]
  repeat' with_reducible first|intro _|apply And.intro
  all_goals first|exact c99 _ _|(simp_all [h0,Go,Ends',v56,-List.getD_eq_getElem?_getD];done)
 by_cases h1:x.kind=1
 ·have e:pairsR x=if pairR x.a x.b=pairR x.c x.d then[pairR x.a x.b]else if beforeR (pairR x.c x.d) (pairR x.a x.b)=true then[pairR x.c x.d,pairR x.a x.b]else[pairR x.a x.b,pairR x.c x.d]:=by unfold pairsR;rw[if_neg h0,if_pos h1]
  have k1:=c99 x.a x.b
  have k2:=c99 x.c x.d
  generalize hp:pairR x.a x.b=p at*
  generalize hq:pairR x.c x.d=q at*
  obtain⟨p1,p2⟩:=p
  obtain⟨q1,q2⟩:=q
  have hpe:((⟨p1,p2⟩:Pair)=⟨q1,q2⟩)↔(p1=q1∧p2=q2):=by simp
  have k3:=c100 ⟨q1,q2⟩ ⟨p1,p2⟩
  rw[e]
  simp only[hpe]
  refine w56 _ (WP.step ?_)
  simp only[T56,Go,Ends',v56,Tr.sure,SS,hp,hq]
  repeat' with_reducible first|intro _|apply And.intro
  all_goals first|exact k1|exact k2|exact k3|(simp[h0,h1,Go,Ends',v56,-List.getD_eq_getElem?_getD, *];done)|(simp_all [h0,h1,Go,Ends',v56,-List.getD_eq_getElem?_getD];done)|skip
  all_goals
   rename_i g1 g2
   have g:¬(p1=q1∧p2=q2):=fun h=>by rw[h.1,h.2]at g1;simp at g1
   rw[if_neg g];simp[g2]
 by_cases h2:x.kind=2
 ·have e:pairsR x=(someTo2 (bitsR x.set) (bitsR x.set).length):=by unfold pairsR;rw[if_neg h0,if_neg h1,if_pos h2];rfl
  rw[e]
  have hb:=bitsR_len x.set
  have k1:=c101 x.set
  refine w56 _ (WP.step ?_)
  simp only[T56,Go,Ends',v56,Tr.sure,SS]
  repeat' with_reducible first|intro _|apply And.intro
  all_goals first|exact k1|(simp_all [h0,h1,h2,Go,Ends',v56,-List.getD_eq_getElem?_getD];done)|skip
  generalize hl:bitsR x.set=l at*
  refine WP.run (fun i=>.l0 (i:Int) (someTo2 l i).reverse) rfl l.length (fun i hi=> ?_) ?_
  ·have hr:inR .i64 ((i:Int)+1)=true:=inR64 (by omega) (by omega)
   have hi':(i:Int)<l.length:=by omega
   have hl2:=someTo2_len l hb i
   refine WP.step ?_
   simp only[T56,Go,Ends',v56,Tr.sure,SS,hl,hi']
   repeat' with_reducible first|intro _|apply And.intro
   all_goals first|(simp[hr,Go,Ends',v56,-List.getD_eq_getElem?_getD, *];done)|skip
   refine WP.run (fun q=>.l1 (i:Int) ((i:Int)+1+(q:Int)) ((someAt l i (i+1+q)).reverse++(someTo2 l i).reverse)) (by simp[someAt]) (l.length-(i+1)) (fun q hq=> ?_) ?_
   ·have hr2:inR .i64 ((i:Int)+1+(q:Int)+1)=true:=inR64 (by omega) (by omega)
    have hq':(i:Int)+1+(q:Int)<l.length:=by omega
    have hq0:(0:Int)≤(i:Int)+1+(q:Int):=by omega
    have hqn:((i:Int)+1+(q:Int)).toNat=i+1+q:=by omega
    have hl3:=someAt_len l i (i+1+q)
    have hlen:((someAt l i (i+1+q)).reverse++(someTo2 l i).reverse).length+1≤4294967296:=by simp only[List.length_append,List.length_reverse];omega
    have hcast:(i:Int)+1+((q+1:Nat):Int)=(i:Int)+1+(q:Int)+1:=by omega
    have hnx:(someAt l i (i+1+(q+1))).reverse++(someTo2 l i).reverse=(⟨l.getD i 0,l.getD (i+1+q) 0⟩:Pair)::((someAt l i (i+1+q)).reverse++(someTo2 l i).reverse):=by
     rw[show i+1+(q+1)=i+1+q+1 by omega,someAt_next l i (i+1+q) (by omega),List.reverse_append];rfl
    rw[hcast,hnx]
    generalize(someAt l i (i+1+q)).reverse++(someTo2 l i).reverse=B at*
    refine WP.once ?_
    simp only[T56,Tr.sure,SS,hl,hi',hq',hq0,hqn,z1]
    repeat' with_reducible first|intro _|apply And.intro
    all_goals simp[hr2,hlen,Go,Ends',v56,-List.getD_eq_getElem?_getD, *]
   ·have hno:¬(i:Int)+1+((l.length-(i+1):Nat):Int)<l.length:=by omega
    have he:(someAt l i (i+1+(l.length-(i+1)))).reverse++(someTo2 l i).reverse=(someTo2 l (i+1)).reverse:=by rw[show i+1+(l.length-(i+1))=l.length by omega,someTo2_next,List.reverse_append]
    rw[he]
    refine WP.once ?_
    simp only[T56,Tr.sure,SS,hl,hno]
    repeat' with_reducible first|intro _|apply And.intro
    all_goals simp[hr,Go,Ends',v56,-List.getD_eq_getElem?_getD, *]
  ·refine WP.step ?_
   simp only[T56,Go,Ends',v56,Tr.sure,SS,hl,Int.lt_irrefl,List.reverse_reverse]
   repeat' with_reducible first|intro _|apply And.intro
 ·have e:pairsR x=[zPair]:=by unfold pairsR;rw[if_neg h0,if_neg h1,if_neg h2]
  rw[e]
  refine w56 _ (WP.step ?_)
  simp only[T56,Go,Ends',v56,Tr.sure,SS]
  repeat' with_reducible first|intro _|apply And.intro
  all_goals first|(simp[h0,h1,h2,zPair,Go,Ends',v56,-List.getD_eq_getElem?_getD, *];done)|(simp_all [h0,h1,h2,zPair,Go,Ends',v56,-List.getD_eq_getElem?_getD];done)
inductive P98
 |e
inductive R98
 |r0 (r0:List Int) (r1:Bool)
noncomputable def T98(hv:List Int)(x:Line)(p:Pair):P98→Tr P98 R98
 |.e=>let c2:=(0+hv.length)≤(0+hv.length);let c3:=hv.getD (p.b).toNat tint.zero;let c1:=(hv.set ((p.a).toNat) c3).set ((p.b).toNat) (hv.getD (p.a).toNat tint.zero);let c4:=([iI (hv.getD (p.a).toNat tint.zero)]:List V);let c5:V:=.list 1 (0+hv.length) (rowsOf tint c1);let c6:=((decide (0≤x.a)&&decide (x.a<(hv.length:Int)))&&true)&&true;let c7:=([iI c3]:List V);let c8:=rowsOf tint hv;let c9:=rowsOf tint (hv.set ((p.a).toNat) c3);let c10:=tint.lst c1;let c11:=hv.getD (x.a).toNat tint.zero;(.br (x.kind==(3:Int)) (.front [] [] c6 true (.out (.r0 hv (c11==x.b)))) (.br (x.kind==(4:Int)) (.front [] [] c6 true (.out (.r0 hv (c11 !=x.b)))) (.need ((decide (0=0)&&decide (0+hv.length≤4294967296))&&true) (.scal (fun r=>(List.range 1).all fun j=>(c8 r j).scalar) (.telb 2 1 (0+hv.length) (appC 0 (litC 1 0 []) c8) c8 (.front [] [] (((decide (0≤p.b)&&decide (p.b<(hv.length:Int)))&&true)&&true) true (.need ((decide (0≤p.a)&&decide (p.a<((0+hv.length):Int)))&&decide c2) (.need ((decide ((p.a).toNat<(0+hv.length))&&decide (0+c7.length≤1))&&underL 0 c7) (.telb 2 1 (0+hv.length) (fun r' j=>if r'=(p.a).toNat∧0≤j∧j<0+c7.length then c7.getD (j-0) uU else c8 r' j) c9 (.front [] [] (((decide (0≤p.a)&&decide (p.a<(hv.length:Int)))&&true)&&true) true (.need ((decide (0≤p.b)&&decide (p.b<((0+hv.length):Int)))&&decide c2) (.need ((decide ((p.b).toNat<(0+hv.length))&&decide (0+c4.length≤1))&&underL 0 c4) (.telb 2 1 (0+hv.length) (fun r' j=>if r'=(p.b).toNat∧0≤j∧j<0+c4.length then c4.getD (j-0) uU else c9 r' j) (rowsOf tint c1) (.wait 1 (.frz 2 ((decide c2)&&((decide c2)&&((decide c2)&&((decide c2)&&true)))) (.vle 8 c5 c10 (.vle 35 c5 c10 (.vle 36 c5 c10 (.vle 45 c5 c10 (.out (.r0 c1 true)))))))))))))))))))))
noncomputable def g98(hv:List Int)(x:Line)(p:Pair):P98→List Item × St
 |.e=>bd Tryz.f98 [tint.lst hv,.agg [iI x.day,iI x.kind,iI x.a,iI x.b,iI x.c,iI x.d,iI x.set],.agg [iI p.a,iI p.b]] 52
noncomputable def n98:R98→Exit × St
 |.r0 r0 r1=>(.ret,⟨mk 55 [(6,tint.lst r0),(7,.bool r1)],[],[]⟩)
noncomputable def v98:R98→V
 |.r0 r0 r1=>.tuple [tint.lst r0,.bool r1]
theorem s98(hv:List Int)(x:Line)(p:Pair):Sm 0 (g98 hv x p) (T98 hv x p) (n98)
 |.e=>⟨400,by kernel_rfl⟩
theorem q98:∀r,bodyQ Tryz.prog Tryz.f98 (·=v98 r) (n98 r).1 (n98 r).2
 |.r0 r0 r1=>bq (.tuple [tint.lst r0,.bool r1]) (by kernel_rfl)
theorem w98(hv:List Int)(x:Line)(p:Pair){post:V→Prop}(h:WQ (T98 hv x p) v98 post .e):PC 98 [tint.lst hv,.agg [iI x.day,iI x.kind,iI x.a,iI x.b,iI x.c,iI x.d,iI x.set],.agg [iI p.a,iI p.b]] post:=
 PCalls.wq Tryz.func98 (s98 hv x p) q98 h
theorem tel_setI(l:List Int)(i:Nat)(v:Int){n:Nat}(hn:n=l.length)(r j:Nat)(hr:r<n)(hj:j<1):
  VLe (if r=i∧0≤j∧j<0+([iI v]:List V).length then([iI v]:List V).getD (j-0) uU else rowsOf tint l r j) (rowsOf tint (l.set i v) r j):=tel_set tint l i v [iI v] rfl rfl hn r j hr hj
theorem lst0(l:List Int){n:Nat}(hn:n=l.length):VLe (.list 1 (0+n) (rowsOf tint l)) (tint.lst l):=by subst hn;rw[Nat.zero_add];exact VLe.refl _
theorem scal_int(l:List Int)(r:Nat):((List.range 1).all fun j=>(rowsOf tint l r j).scalar)=true:=rfl
theorem VLe.app0{c0 c:Nat→Nat→V}(r j:Nat):VLe (appC 0 c0 c r j) (c r j):=by
 have:appC 0 c0 c r j=c r j:=by unfold appC;simp
 rw[this];exact VLe.refl _
theorem c98(hv:List Int)(x:Line)(p:Pair)(h1:x.kind=3∨x.kind=4→0≤x.a∧x.a<hv.length)(h2:¬(x.kind=3∨x.kind=4)→(0≤p.a∧p.a<hv.length)∧0≤p.b∧p.b<hv.length)(hl:hv.length≤1000):
  PC 98 [tint.lst hv,.agg (tLine.cells x),.agg (tPair.cells p)] (·=.tuple [tint.lst (doneR hv x p).1,.bool (doneR hv x p).2]):=by
 by_cases g3:x.kind=3
 ·obtain⟨q1,q2⟩:=h1 (.inl g3)
  have e:doneR hv x p=(hv,hv.getD x.a.toNat 0==x.b):=by unfold doneR;rw[if_pos g3]
  rw[e]
  refine w98 _ _ _ (WP.step ?_)
  simp only[T98,Go,Ends',v98,Tr.sure,SS,z1]
  repeat' with_reducible first|intro _|apply And.intro
  all_goals first|(simp[g3,q1,q2,Go,Ends',v98,-List.getD_eq_getElem?_getD, *];done)|(simp_all [g3,q1,q2,Go,Ends',v98,-List.getD_eq_getElem?_getD];done)
 by_cases g4:x.kind=4
 ·obtain⟨q1,q2⟩:=h1 (.inr g4)
  have e:doneR hv x p=(hv,hv.getD x.a.toNat 0 !=x.b):=by unfold doneR;rw[if_neg g3,if_pos g4]
  rw[e]
  refine w98 _ _ _ (WP.step ?_)
  simp only[T98,Go,Ends',v98,Tr.sure,SS,z1]
  repeat' with_reducible first|intro _|apply And.intro
  all_goals first|(simp[g3,g4,q1,q2,Go,Ends',v98,-List.getD_eq_getElem?_getD, *];done)|(simp_all [g3,g4,q1,q2,Go,Ends',v98,-List.getD_eq_getElem?_getD];done)
 obtain⟨⟨q1,q2⟩,q3,q4⟩:=h2 (fun h=>by cases h<;>contradiction)
 have e:doneR hv x p=(swapR hv p,true):=by unfold doneR;rw[if_neg g3,if_neg g4]
 have q2':p.a.toNat<hv.length:=by omega
 have q4':p.b.toNat<hv.length:=by omega
 have q5:0+hv.length≤4294967296:=by omega
 rw[e]
 refine w98 _ _ _ (WP.step ?_)
 simp only[T98,Go,Ends',v98,Tr.sure,SS,z1]
 repeat' with_reducible first|intro _|apply And.intro
 all_goals first|exact(by with_reducible exact scal_int _ _)|exact(by with_reducible exact VLe.app0 _ _)|exact(by with_reducible exact tel_setI (n:=0+hv.length) _ _ _ (by simp) _ _ ‹_› ‹_›)|exact(by with_reducible exact lst0 _ (by simp))|exact rfl|(simp[g3,g4,q1,q2,q3,q4,q2',q4',q5,Go,Ends',v98,-List.getD_eq_getElem?_getD, *];done)|(simp_all [g3,g4,q1,q2,q3,q4,q2',q4',q5,Go,Ends',v98,-List.getD_eq_getElem?_getD];done)
end
noncomputable section
inductive P51
 |e
 |l0 (x0_6:Int) (a0_1:List Int)
 |l1 (x1_7:List Truth) (x1_8:Int)
 |l2 (x1_8:Int) (x2_7:List Truth) (x2_10:Int) (a2_1:List Truth)
 |l3 (x1_8:Int) (x2_7:List Truth) (x2_10:Int) (x3_13:Int) (a3_1:List Truth)
inductive R51
 |r0 (r0:List Truth)
noncomputable def T51(b:Book)(but:List Int):P51→Tr P51 R51
 |.e=>(.wait 4 (.own 5 3 1 (.go (.l0 0 ([])))))
 |.l0 x0_6 a0_1=>let c1:=([a0_1.reverse]:List (List Int));let c2:V:=.list 2 1 (litC 2 1 [.nils,(tlist tint).lst c1]);let c3:=(⟨[],c1⟩:Truth);let c4:=([c3]:List Truth);let c5:=decide (1≤1);(.br (decide (x0_6<(b.bodies.length:Int))) (.need ((decide (a0_1.length=a0_1.length)&&decide (a0_1.length+1≤4294967296))&&decide (1≤1)) (.scal (fun _=>true) (.need (inR .i64 (x0_6+(1:Int))) (.telb 2 1 1 (litC 1 1 [iI x0_6]) (rowsRev tint ([x0_6])) (.go (.l0 (x0_6+(1:Int)) (x0_6::a0_1))))))) (.wait 2 (.frz 1 ((decide (a0_1.length≤a0_1.length))&&true) (.vle 5 (.list 1 a0_1.length (rowsRev tint a0_1)) (tint.lst a0_1.reverse) (.wait 1 (.frz 2 (c5&&true) (.wait 0 (.vle 28 (.list 1 1 (litC 1 1 [tint.lst a0_1.reverse])) ((tlist tint).lst c1) (.wait 4 (.frz 3 (c5&&(c5&&true)) (.vle 7 c2 (tTruth.lst c4) (.vle 30 c2 (tTruth.lst c4) (.go (.l1 c4 0))))))))))))))
 |.l1 x1_7 x1_8=>(.br (decide (x1_8<(b.lines.length:Int))) (.wait 5 (.own 9 85 2 (.go (.l2 x1_8 x1_7 0 ([]))))) (.out (.r0 x1_7)))
 |.l2 x1_8 x2_7 x2_10 a2_1=>let c1:=b.lines.getD (x1_8).toNat tLine.zero;let c2:V:=.list 2 a2_1.length (rowsRev tTruth a2_1);let c3:=decide (a2_1.length≤a2_1.length);let c4:=tTruth.lst a2_1.reverse;let c5:=x2_10<(x2_7.length:Int);(.br (decide c5) (.need (decide (0≤x2_10)&&decide c5) (.need (decide (0≤x1_8)&&decide (x1_8<(((x2_7.getD (x2_10).toNat tTruth.zero).haves.length):Int))) (.need (decide (0≤x1_8)&&decide (x1_8<(b.lines.length:Int))) (.call 56 [.agg [iI (c1.day),iI (c1.kind),iI (c1.a),iI (c1.b),iI (c1.c),iI (c1.d),iI (c1.set)]] (tPair.lst (pairsR c1)) true true (.go (.l3 x1_8 x2_7 x2_10 0 a2_1)))))) (.need (inR .i64 (x1_8+(1:Int))) (.frz 1 (c3&&(c3&&(c3&&true))) (.vle 7 c2 c4 (.vle 9 c2 c4 (.vle 112 c2 c4 (.go (.l1 a2_1.reverse (x1_8+(1:Int))))))))))
 |.l3 x1_8 x2_7 x2_10 x3_13 a3_1=>let c2:=x2_7.getD (x2_10).toNat tTruth.zero;let c4:=b.lines.getD (x1_8).toNat tLine.zero;let c1:=(pairsR c4).getD (x3_13).toNat tPair.zero;let c5:List V:=[uU,.nil,.nil,uU,uU,uU,uU,.nil,.nil,.nil,.nil,.nil,.nil,.nil,.nil,uU,uU,uU,uU,uU,uU,uU,uU,uU,uU,uU,uU,uU,uU,uU,uU,uU,uU,uU,uU,uU,uU,uU,uU,uU,uU,uU,uU,uU,uU,uU,uU,uU,uU,uU,uU,uU,uU,uU,uU,uU,uU,uU,uU,uU,uU,uU,uU,uU,uU,uU,uU,uU,uU,uU,uU,uU,uU,uU,uU,uU,uU,uU,uU,uU,uU,uU,uU,uU,uU,uU,uU,uU,uU,uU,uU,uU,uU,uU,uU,uU,uU,uU,uU,uU,uU,uU,uU,uU,uU,uU,uU,uU,uU,uU,uU,uU,uU,uU];let c6:=(c2.pairs)++ [c1];let c8:=tlist tint;let c3:=(c2.haves).getD (x1_8).toNat c8.zero;let c7:=doneR c3 c4 c1;let c9:List V:=[iI (c1.a),iI (c1.b)];let c10:=x3_13+(1:Int);let c11:=(c2.haves)++ [c7.1];let c12:=a3_1.length+1;let c13:=(c2.haves)++ [c3];let c14:List Blk:=[.cells (cC b),.rows 85 2 a3_1.length (rowsRev tTruth a3_1)];let c15:Tr P51 R51:=.need (inR .i64 c10) (.go (.l3 x1_8 x2_7 x2_10 c10 a3_1));let c16:=x3_13<(((pairsR c4).length):Int);let c17:=(⟨c6,c13⟩:Truth)::a3_1;let c18:=(⟨c6,c11⟩:Truth)::a3_1;(.br (decide c16) (.front [(10,98,[tint.lst c3,.agg [iI (c4.day),iI (c4.kind),iI (c4.a),iI (c4.b),iI (c4.c),iI (c4.d),iI (c4.set)],.agg c9],.tuple [tint.lst (c7.1),.bool (c7.2)])] [] (((decide (0≤x1_8)&&decide (x1_8<(b.lines.length:Int)))&&((decide (0≤x3_13)&&decide c16)&&true))&&true) true (.call 44 [tint.lst but,iI x1_8] (.bool (hasN but x1_8)) true true (.br (hasN but x1_8) (.br (x3_13==(0:Int)) (.drop ⟨c5,[.void,.void],[]⟩ (.over (regionOf Tryz.f51 23) ⟨[uU,tint.lst but,.ref 0 0 0,uU,uU,uU,uU,tTruth.lst x2_7,iI x1_8,.row 1 a3_1.length,iI x2_10,tint.lst c3,tPair.lst (pairsR c4),iI x3_13,tint.lst c3,uU,uU,uU,uU,uU,uU,uU,uU,uU,uU,uU,uU,uU,uU,uU,uU,uU,uU,uU,uU,uU,uU,uU,uU,uU,uU,uU,uU,uU,uU,uU,uU,uU,uU,uU,uU,uU,uU,uU,uU,uU,uU,uU,uU,uU,uU,uU,uU,uU,uU,uU,uU,uU,uU,uU,uU,uU,uU,uU,uU,uU,uU,uU,uU,uU,uU,uU,uU,uU,uU,uU,uU,uU,uU,uU,uU,uU,uU,uU,uU,uU,uU,uU,uU,uU,uU,uU,uU,uU,uU,uU,uU,uU,uU,uU,uU,uU,uU,uU],c14,[]⟩ .normal ⟨[uU,tint.lst but,.ref 0 0 0,uU,uU,uU,uU,tTruth.lst x2_7,iI x1_8,.row 1 c12,iI x2_10,tint.lst c3,tPair.lst (pairsR c4),iI x3_13,tint.lst c3,uU,uU,uU,uU,uU,uU,uU,uU,uU,uU,uU,uU,uU,uU,uU,uU,uU,uU,uU,uU,uU,uU,uU,uU,uU,uU,uU,uU,uU,uU,uU,uU,uU,uU,uU,uU,uU,uU,uU,uU,uU,uU,uU,uU,uU,uU,uU,uU,uU,uU,uU,uU,uU,uU,uU,uU,uU,uU,uU,uU,uU,uU,uU,uU,uU,uU,uU,uU,uU,uU,uU,.nils,tTruth.lst x2_7,iI x2_10,.cref 2 fun q=>([tPair.lst (c2.pairs),c8.lst (c2.haves)]:List V).getD q uU,.cref 2 fun q=>([tPair.lst (c2.pairs),c8.lst (c2.haves)]:List V).getD q uU,tPair.lst (c2.pairs),uU,tPair.lst (pairsR c4),iI x3_13,.cref 2 fun q=>(c9:List V).getD q uU,.agg c9,.list 2 1 (litC 2 1 c9),tPair.lst c6,.nils,tTruth.lst x2_7,iI x2_10,.cref 2 fun q=>([tPair.lst (c2.pairs),c8.lst (c2.haves)]:List V).getD q uU,rR (c8.lst (c2.haves)),c8.lst (c2.haves),uU,tint.lst c3,.list 1 1 (litC 1 1 [tint.lst c3]),c8.lst c13,.agg [tPair.lst c6,c8.lst c13],.list 2 1 (litC 2 1 [tPair.lst c6,c8.lst c13]),.row 1 c12,uU,uU],[.cells (cC b),.rows 85 2 c12 (rowsRev tTruth c17),.gone,.gone],[]⟩ true (.need (inR .i64 c10) (.go (.l3 x1_8 x2_7 x2_10 c10 c17))))) c15) (.br (c7.2) (.drop ⟨c5,[.void,.void],[]⟩ (.over (regionOf Tryz.f51 23) ⟨[uU,tint.lst but,.ref 0 0 0,uU,uU,uU,uU,tTruth.lst x2_7,iI x1_8,.row 1 a3_1.length,iI x2_10,tint.lst c3,tPair.lst (pairsR c4),iI x3_13,tint.lst (c7.1),uU,uU,uU,uU,uU,uU,uU,uU,uU,uU,uU,uU,uU,uU,uU,uU,uU,uU,uU,uU,uU,uU,uU,uU,uU,uU,uU,uU,uU,uU,uU,uU,uU,uU,uU,uU,uU,uU,uU,uU,uU,uU,uU,uU,uU,uU,uU,uU,uU,uU,uU,uU,uU,uU,uU,uU,uU,uU,uU,uU,uU,uU,uU,uU,uU,uU,uU,uU,uU,uU,uU,uU,uU,uU,uU,uU,uU,uU,uU,uU,uU,uU,uU,uU,uU,uU,uU,uU,uU,uU,uU,uU,uU,uU,uU,uU,uU,uU,uU],c14,[]⟩ .normal ⟨[uU,tint.lst but,.ref 0 0 0,uU,uU,uU,uU,tTruth.lst x2_7,iI x1_8,.row 1 c12,iI x2_10,tint.lst c3,tPair.lst (pairsR c4),iI x3_13,tint.lst (c7.1),uU,uU,uU,uU,uU,uU,uU,uU,uU,uU,uU,uU,uU,uU,uU,uU,uU,uU,uU,uU,uU,uU,uU,uU,uU,uU,uU,uU,uU,uU,uU,uU,uU,uU,uU,uU,uU,uU,uU,uU,uU,uU,uU,uU,uU,uU,uU,uU,uU,uU,uU,uU,uU,uU,uU,uU,uU,uU,uU,uU,uU,uU,uU,uU,uU,uU,uU,uU,uU,uU,uU,.nils,tTruth.lst x2_7,iI x2_10,.cref 2 fun q=>([tPair.lst (c2.pairs),c8.lst (c2.haves)]:List V).getD q uU,.cref 2 fun q=>([tPair.lst (c2.pairs),c8.lst (c2.haves)]:List V).getD q uU,tPair.lst (c2.pairs),uU,tPair.lst (pairsR c4),iI x3_13,.cref 2 fun q=>(c9:List V).getD q uU,.agg c9,.list 2 1 (litC 2 1 c9),tPair.lst c6,.nils,tTruth.lst x2_7,iI x2_10,.cref 2 fun q=>([tPair.lst (c2.pairs),c8.lst (c2.haves)]:List V).getD q uU,rR (c8.lst (c2.haves)),c8.lst (c2.haves),uU,tint.lst (c7.1),.list 1 1 (litC 1 1 [tint.lst (c7.1)]),c8.lst c11,.agg [tPair.lst c6,c8.lst c11],.list 2 1 (litC 2 1 [tPair.lst c6,c8.lst c11]),.row 1 c12,uU,uU],[.cells (cC b),.rows 85 2 c12 (rowsRev tTruth c18),.gone,.gone],[]⟩ true (.need (inR .i64 c10) (.go (.l3 x1_8 x2_7 x2_10 c10 c18))))) c15)))) (.need (inR .i64 (x2_10+(1:Int))) (.go (.l2 x1_8 x2_7 (x2_10+(1:Int)) a3_1))))
noncomputable def g51(b:Book)(but:List Int):P51→List Item × St
 |.e=>bd Tryz.f51 [.agg (cC b),tint.lst but] 112
 |.l0 x0_6 a0_1=>(cutOf Tryz.f51 0,⟨mk 114 [(1,tint.lst but),(2,.ref 0 0 0),(5,.row 1 a0_1.length),(6,iI x0_6)],[.cells (cC b),.rows 3 1 a0_1.length (rowsRev tint a0_1)],[]⟩)
 |.l1 x1_7 x1_8=>(cutOf Tryz.f51 1,⟨mk 114 [(1,tint.lst but),(2,.ref 0 0 0),(7,tTruth.lst x1_7),(8,iI x1_8)],[.cells (cC b)],[]⟩)
 |.l2 x1_8 x2_7 x2_10 a2_1=>(cutOf Tryz.f51 2,⟨mk 114 [(1,tint.lst but),(2,.ref 0 0 0),(7,tTruth.lst x2_7),(8,iI x1_8),(9,.row 1 a2_1.length),(10,iI x2_10)],[.cells (cC b),.rows 85 2 a2_1.length (rowsRev tTruth a2_1)],[]⟩)
 |.l3 x1_8 x2_7 x2_10 x3_13 a3_1=>(cutOf Tryz.f51 3,⟨mk 114 [(1,tint.lst but),(2,.ref 0 0 0),(7,tTruth.lst x2_7),(8,iI x1_8),(9,.row 1 a3_1.length),(10,iI x2_10),(11,tint.lst (((x2_7.getD (x2_10).toNat tTruth.zero).haves).getD (x1_8).toNat (tlist tint).zero)),(12,tPair.lst (pairsR (b.lines.getD (x1_8).toNat tLine.zero))),(13,iI x3_13)],[.cells (cC b),.rows 85 2 a3_1.length (rowsRev tTruth a3_1)],[]⟩)
noncomputable def n51:R51→Exit × St
 |.r0 r0=>(.ret,⟨mk 114 [(4,tTruth.lst r0)],[],[]⟩)
noncomputable def v51:R51→V
 |.r0 r0=>tTruth.lst r0
theorem s51(b:Book)(but:List Int):Sm 0 (g51 b but) (T51 b but) (n51)
 |.e=>⟨400,by kernel_rfl⟩
 |.l0 _ _=>⟨400,by kernel_rfl⟩
 |.l1 _ _=>⟨400,by kernel_rfl⟩
 |.l2 _ _ _ _=>⟨400,by kernel_rfl⟩
 |.l3 _ _ _ _ _=>⟨400,by kernel_rfl⟩
theorem q51:∀r,bodyQ Tryz.prog Tryz.f51 (·=v51 r) (n51 r).1 (n51 r).2
 |.r0 r0=>bq (tTruth.lst r0) (by kernel_rfl)
theorem w51(b:Book)(but:List Int){post:V→Prop}(h:WQ (T51 b but) v51 post .e):PC 51 [.agg (cC b),tint.lst but] post:=
 PCalls.wq Tryz.func51 (s51 b but) q51 h
noncomputable def o51_23:Array Oper:=(regOf 23 (Tryz.f51.body.getD .skip)).getD #[]
@[reducible] noncomputable def st51_23 (b:Book) (but:List Int) (o:List Truth) (i:Int) (n:Int) (hv:List Int) (ps:List Pair) (m:Int) (af:List Int) (A:List Truth) (c:Nat→Bool):St:=⟨[uU,tint.lst but,.ref 0 0 0,uU,uU,uU,uU,tTruth.lst o,iI i,.row 1 A.length,iI n,tint.lst hv,tPair.lst ps,iI m,tint.lst af,uU,uU,uU,uU,uU,uU,uU,uU,uU,uU,uU,uU,uU,uU,uU,uU,uU,uU,uU,uU,uU,uU,uU,uU,uU,uU,uU,uU,uU,uU,uU,uU,uU,uU,uU,uU,uU,uU,uU,uU,uU,uU,uU,uU,uU,uU,uU,uU,uU,uU,uU,uU,uU,uU,uU,uU,uU,uU,uU,uU,uU,uU,uU,uU,uU,uU,uU,uU,uU,uU,(bif c 0 then .row 1 A.length else(uU)),(bif c 1 then .nils else(uU)),(bif c 2 then tTruth.lst o else(uU)),(bif c 3 then iI n else(uU)),(bif c 4 then .cref 2 fun q=>([tPair.lst ((o.getD (n).toNat tTruth.zero).pairs),(tlist tint).lst ((o.getD (n).toNat tTruth.zero).haves)]:List V).getD q uU else(uU)),(bif c 5 then .cref 2 fun q=>([tPair.lst ((o.getD (n).toNat tTruth.zero).pairs),(tlist tint).lst ((o.getD (n).toNat tTruth.zero).haves)]:List V).getD q uU else(uU)),(bif c 6 then tPair.lst ((o.getD (n).toNat tTruth.zero).pairs)else(uU)),(bif c 13 then uU else(bif c 7 then .row 2 ((o.getD (n).toNat tTruth.zero).pairs.length)else(uU))),(bif c 8 then tPair.lst ps else(uU)),(bif c 9 then iI m else(uU)),(bif c 10 then .cref 2 fun q=>([iI ((ps.getD (m).toNat tPair.zero).a),iI ((ps.getD (m).toNat tPair.zero).b)]:List V).getD q uU else(uU)),(bif c 11 then .agg [iI ((ps.getD (m).toNat tPair.zero).a),iI ((ps.getD (m).toNat tPair.zero).b)]else(uU)),(bif c 12 then .list 2 1 (litC 2 1 [iI ((ps.getD (m).toNat tPair.zero).a),iI ((ps.getD (m).toNat tPair.zero).b)])else(uU)),(bif c 24 then tPair.lst (((o.getD (n).toNat tTruth.zero).pairs)++ [(ps.getD (m).toNat tPair.zero)])else(bif c 13 then .row 2 ((o.getD (n).toNat tTruth.zero).pairs.length+1)else(uU))),(bif c 14 then .nils else(uU)),(bif c 15 then tTruth.lst o else(uU)),(bif c 16 then iI n else(uU)),(bif c 17 then .cref 2 fun q=>([tPair.lst ((o.getD (n).toNat tTruth.zero).pairs),(tlist tint).lst ((o.getD (n).toNat tTruth.zero).haves)]:List V).getD q uU else(uU)),(bif c 18 then rR ((tlist tint).lst ((o.getD (n).toNat tTruth.zero).haves))else(uU)),(bif c 19 then(tlist tint).lst ((o.getD (n).toNat tTruth.zero).haves)else(uU)),(bif c 23 then uU else(bif c 20 then .row 3 ((o.getD (n).toNat tTruth.zero).haves.length)else(uU))),(bif c 21 then tint.lst af else(uU)),(bif c 22 then .list 1 1 (litC 1 1 [tint.lst af])else(uU)),(bif c 24 then(tlist tint).lst (((o.getD (n).toNat tTruth.zero).haves)++ [af])else(bif c 23 then .row 3 ((o.getD (n).toNat tTruth.zero).haves.length+1)else(uU))),(bif c 24 then .agg [tPair.lst (((o.getD (n).toNat tTruth.zero).pairs)++ [(ps.getD (m).toNat tPair.zero)]),(tlist tint).lst (((o.getD (n).toNat tTruth.zero).haves)++ [af])]else(uU)),(bif c 25 then .list 2 1 (litC 2 1 [tPair.lst (((o.getD (n).toNat tTruth.zero).pairs)++ [(ps.getD (m).toNat tPair.zero)]),(tlist tint).lst (((o.getD (n).toNat tTruth.zero).haves)++ [af])])else(uU)),uU,uU,uU],[.cells (cC b),.rows 85 2 A.length (rowsRev tTruth A),(bif c 24 then .gone else(bif c 13 then .rows 95 2 ((o.getD (n).toNat tTruth.zero).pairs.length+1) (appC ((o.getD (n).toNat tTruth.zero).pairs.length) (rowsOf tPair ((o.getD (n).toNat tTruth.zero).pairs)) (litC 2 1 [iI ((ps.getD (m).toNat tPair.zero).a),iI ((ps.getD (m).toNat tPair.zero).b)]))else(bif c 7 then .rows 95 2 ((o.getD (n).toNat tTruth.zero).pairs.length) (rowsOf tPair ((o.getD (n).toNat tTruth.zero).pairs))else(.void)))),(bif c 24 then .gone else(bif c 23 then .rows 37 1 ((o.getD (n).toNat tTruth.zero).haves.length+1) (appC ((o.getD (n).toNat tTruth.zero).haves.length) (rowsOf (tlist tint) ((o.getD (n).toNat tTruth.zero).haves)) (litC 1 1 [tint.lst af]))else(bif c 20 then .rows 37 1 ((o.getD (n).toNat tTruth.zero).haves.length) (rowsOf (tlist tint) ((o.getD (n).toNat tTruth.zero).haves))else(.void))))],[]⟩
def t51_23:Tab:=[([],[1,2,3,4,5,6,7,8,9,10,11,12,13,14,15,16,17,18,19,20,21,22,23,24,25]),([],[0,2,3,4,5,6,8,9,10,11,12,14,15,16,17,18,19,21,22]),([],[0,1,3,8,9,10,11,12,14,15,16,17,18,19,21,22]),([],[0,1,2,8,9,10,11,12,14,15,16,17,18,19,21,22]),([2,3],[0,1,8,9,10,11,12,14,15,16,17,18,19,21,22]),([2,3,4],[0,1,8,9,10,11,12,14,15,16,17,18,19,21,22]),([2,3,4,5],[0,1,8,9,10,11,12,14,15,16,17,18,19,21,22]),([1,2,3,4,5,6],[0,8,9,10,11,12,14,15,16,17,18,19,21,22]),([],[0,1,2,3,4,5,6,7,9,14,15,16,17,18,19,21,22]),([],[0,1,2,3,4,5,6,7,8,14,15,16,17,18,19,21,22]),([8,9],[0,1,2,3,4,5,6,7,14,15,16,17,18,19,21,22]),([8,9,10],[0,1,2,3,4,5,6,7,14,15,16,17,18,19,21,22]),([8,9,10,11],[0,1,2,3,4,5,6,7,14,15,16,17,18,19,21,22]),([1,2,3,4,5,6,7,8,9,10,11,12],[0,14,15,16,17,18,19,21,22]),([],[0,1,2,3,4,5,6,7,8,9,10,11,12,13,15,16,17,18,19,21,22]),([],[0,1,2,3,4,5,6,7,8,9,10,11,12,13,14,16,21,22]),([],[0,1,2,3,4,5,6,7,8,9,10,11,12,13,14,15,21,22]),([15,16],[0,1,2,3,4,5,6,7,8,9,10,11,12,13,14,21,22]),([15,16,17],[0,1,2,3,4,5,6,7,8,9,10,11,12,13,14,21,22]),([15,16,17,18],[0,1,2,3,4,5,6,7,8,9,10,11,12,13,14,21,22]),([1,2,3,4,5,6,7,8,9,10,11,12,13,14,15,16,17,18,19],[0,21,22]),([],[0,1,2,3,4,5,6,7,8,9,10,11,12,13,14,15,16,17,18,19,20]),([21],[0,1,2,3,4,5,6,7,8,9,10,11,12,13,14,15,16,17,18,19,20]),([1,2,3,4,5,6,7,8,9,10,11,12,13,14,15,16,17,18,19,20,21,22],[0]),([1,2,3,4,5,6,7,8,9,10,11,12,13,14,15,16,17,18,19,20,21,22,23],[0]),([1,2,3,4,5,6,7,8,9,10,11,12,13,14,15,16,17,18,19,20,21,22,23,24],[0])]
theorem ov51_23(b:Book)(but:List Int)(o:List Truth)(i:Int)(n:Int)(hv:List Int)(ps:List Pair)(m:Int)(af:List Int)(A:List Truth)(h1:(decide (0≤n)&&decide (n<(o.length:Int)))=true)(h2:(decide (0≤m)&&decide (m<(ps.length:Int)))=true)(h3:(o.getD n.toNat tTruth.zero).pairs.length+1≤4294967296)(h4:(o.getD n.toNat tTruth.zero).haves.length+1≤4294967296)(h5:A.length+1≤4294967296):AWP Tryz.prog ⟨none,0⟩ (regionOf Tryz.f51 23) ⟨[uU,tint.lst but,.ref 0 0 0,uU,uU,uU,uU,tTruth.lst o,iI i,.row 1 A.length,iI n,tint.lst hv,tPair.lst ps,iI m,tint.lst af,uU,uU,uU,uU,uU,uU,uU,uU,uU,uU,uU,uU,uU,uU,uU,uU,uU,uU,uU,uU,uU,uU,uU,uU,uU,uU,uU,uU,uU,uU,uU,uU,uU,uU,uU,uU,uU,uU,uU,uU,uU,uU,uU,uU,uU,uU,uU,uU,uU,uU,uU,uU,uU,uU,uU,uU,uU,uU,uU,uU,uU,uU,uU,uU,uU,uU,uU,uU,uU,uU,uU,uU,uU,uU,uU,uU,uU,uU,uU,uU,uU,uU,uU,uU,uU,uU,uU,uU,uU,uU,uU,uU,uU,uU,uU,uU,uU,uU,uU],[.cells (cC b),.rows 85 2 A.length (rowsRev tTruth A)],[]⟩ (fun e T=>e=.normal∧T=⟨[uU,tint.lst but,.ref 0 0 0,uU,uU,uU,uU,tTruth.lst o,iI i,.row 1 (A.length+1),iI n,tint.lst hv,tPair.lst ps,iI m,tint.lst af,uU,uU,uU,uU,uU,uU,uU,uU,uU,uU,uU,uU,uU,uU,uU,uU,uU,uU,uU,uU,uU,uU,uU,uU,uU,uU,uU,uU,uU,uU,uU,uU,uU,uU,uU,uU,uU,uU,uU,uU,uU,uU,uU,uU,uU,uU,uU,uU,uU,uU,uU,uU,uU,uU,uU,uU,uU,uU,uU,uU,uU,uU,uU,uU,uU,uU,uU,uU,uU,uU,uU,.nils,tTruth.lst o,iI n,.cref 2 fun q=>([tPair.lst ((o.getD (n).toNat tTruth.zero).pairs),(tlist tint).lst ((o.getD (n).toNat tTruth.zero).haves)]:List V).getD q uU,.cref 2 fun q=>([tPair.lst ((o.getD (n).toNat tTruth.zero).pairs),(tlist tint).lst ((o.getD (n).toNat tTruth.zero).haves)]:List V).getD q uU,tPair.lst ((o.getD (n).toNat tTruth.zero).pairs),uU,tPair.lst ps,iI m,.cref 2 fun q=>([iI ((ps.getD (m).toNat tPair.zero).a),iI ((ps.getD (m).toNat tPair.zero).b)]:List V).getD q uU,.agg [iI ((ps.getD (m).toNat tPair.zero).a),iI ((ps.getD (m).toNat tPair.zero).b)],.list 2 1 (litC 2 1 [iI ((ps.getD (m).toNat tPair.zero).a),iI ((ps.getD (m).toNat tPair.zero).b)]),tPair.lst (((o.getD (n).toNat tTruth.zero).pairs)++ [(ps.getD (m).toNat tPair.zero)]),.nils,tTruth.lst o,iI n,.cref 2 fun q=>([tPair.lst ((o.getD (n).toNat tTruth.zero).pairs),(tlist tint).lst ((o.getD (n).toNat tTruth.zero).haves)]:List V).getD q uU,rR ((tlist tint).lst ((o.getD (n).toNat tTruth.zero).haves)),(tlist tint).lst ((o.getD (n).toNat tTruth.zero).haves),uU,tint.lst af,.list 1 1 (litC 1 1 [tint.lst af]),(tlist tint).lst (((o.getD (n).toNat tTruth.zero).haves)++ [af]),.agg [tPair.lst (((o.getD (n).toNat tTruth.zero).pairs)++ [(ps.getD (m).toNat tPair.zero)]),(tlist tint).lst (((o.getD (n).toNat tTruth.zero).haves)++ [af])],.list 2 1 (litC 2 1 [tPair.lst (((o.getD (n).toNat tTruth.zero).pairs)++ [(ps.getD (m).toNat tPair.zero)]),(tlist tint).lst (((o.getD (n).toNat tTruth.zero).haves)++ [af])]),.row 1 (A.length+1),uU,uU],[.cells (cC b),.rows 85 2 (A.length+1) (rowsRev tTruth ((⟨(((o.getD (n).toNat tTruth.zero).pairs)++ [(ps.getD (m).toNat tPair.zero)]),(((o.getD (n).toNat tTruth.zero).haves)++ [af])⟩:Truth)::A)),.gone,.gone],[]⟩):=by
 refine AWP.region_bits (ops:=o51_23) 26 2 t51_23 mx (st51_23 b but o i n hv ps m af A) (fun z_i z_h c=> ?_) ?_
 ·rcases show z_i=0∨z_i=1∨z_i=2∨z_i=3∨z_i=4∨z_i=5∨z_i=6∨z_i=7∨z_i=8∨z_i=9∨z_i=10∨z_i=11∨z_i=12∨z_i=13∨z_i=14∨z_i=15∨z_i=16∨z_i=17∨z_i=18∨z_i=19∨z_i=20∨z_i=21∨z_i=22∨z_i=23∨z_i=24∨z_i=25 by omega with rfl|rfl|rfl|rfl|rfl|rfl|rfl|rfl|rfl|rfl|rfl|rfl|rfl|rfl|rfl|rfl|rfl|rfl|rfl|rfl|rfl|rfl|rfl|rfl|rfl|rfl
  ·exact AStep.rd true (.row 1 A.length) rfl
  ·exact AStep.lt 30 95 0 #[] [iI 0,iI 0] []
  ·exact AStep.rd true (tTruth.lst o) rfl
  ·exact AStep.rd true (iI n) rfl
  ·refine AStep.rd ((decide (0≤n)&&decide (n<(o.length:Int)))) (.cref 2 fun q=>([tPair.lst ((o.getD (n).toNat tTruth.zero).pairs),(tlist tint).lst ((o.getD (n).toNat tTruth.zero).haves)]:List V).getD q uU) ?_
   first|assumption|rfl|(simp[*];done)|(simp;omega)|(simp only[Bool.and_eq_true,decide_eq_true_eq];omega)
  ·exact AStep.rd true (.cref 2 fun q=>([tPair.lst ((o.getD (n).toNat tTruth.zero).pairs),(tlist tint).lst ((o.getD (n).toNat tTruth.zero).haves)]:List V).getD q uU) rfl
  ·exact AStep.rd true (tPair.lst ((o.getD (n).toNat tTruth.zero).pairs)) rfl
  ·refine AStep.ap0 (.tmp 86) (.tmp 91) 30 95 2 2 ((o.getD (n).toNat tTruth.zero).pairs.length) (rowsOf tPair ((o.getD (n).toNat tTruth.zero).pairs)) [iI 0,iI 0] ?_ ?_
   ·first|omega|(simp;done)|(simp;omega)
   ·intro r hr j hj;first|(have hj0:j=0:=by omega;subst hj0;rfl)|(rcases show j=0∨j=1 by omega with rfl|rfl<;>rfl)
  ·exact AStep.rd true (tPair.lst ps) rfl
  ·exact AStep.rd true (iI m) rfl
  ·refine AStep.rd ((decide (0≤m)&&decide (m<(ps.length:Int)))) (.cref 2 fun q=>([iI ((ps.getD (m).toNat tPair.zero).a),iI ((ps.getD (m).toNat tPair.zero).b)]:List V).getD q uU) ?_
   first|assumption|rfl|(simp[*];done)|(simp;omega)|(simp only[Bool.and_eq_true,decide_eq_true_eq];omega)
  ·exact AStep.rd true (.agg [iI ((ps.getD (m).toNat tPair.zero).a),iI ((ps.getD (m).toNat tPair.zero).b)]) rfl
  ·exact AStep.lt 30 95 1 #[(0,.tmp 96)] [iI 0,iI 0] [iI ((ps.getD (m).toNat tPair.zero).a),iI ((ps.getD (m).toNat tPair.zero).b)]
  ·refine AStep.ap 30 (.tmp 92) (.tmp 97) 2 (.rows 95 2 ((o.getD (n).toNat tTruth.zero).pairs.length+1) (appC ((o.getD (n).toNat tTruth.zero).pairs.length) (rowsOf tPair ((o.getD (n).toNat tTruth.zero).pairs)) (litC 2 1 [iI ((ps.getD (m).toNat tPair.zero).a),iI ((ps.getD (m).toNat tPair.zero).b)]))) ((decide ((o.getD (n).toNat tTruth.zero).pairs.length=(o.getD (n).toNat tTruth.zero).pairs.length)&&decide ((o.getD (n).toNat tTruth.zero).pairs.length+1≤4294967296))&&true) (fun _=>true) (.row 2 ((o.getD (n).toNat tTruth.zero).pairs.length+1)) ?_ ?_ ?_
   ·first|(simp;done)|(simp;omega)|(simp[*];done)|(simp[-List.getD_eq_getElem?_getD];omega)
   ·intro r;rfl
   ·simp only[killS,List.map_cons,List.map_nil,killV_bif,killB_bif];kernel_rfl
  ·exact AStep.lt 61 37 0 #[] [.nils] []
  ·exact AStep.rd true (tTruth.lst o) rfl
  ·exact AStep.rd true (iI n) rfl
  ·refine AStep.rd ((decide (0≤n)&&decide (n<(o.length:Int)))) (.cref 2 fun q=>([tPair.lst ((o.getD (n).toNat tTruth.zero).pairs),(tlist tint).lst ((o.getD (n).toNat tTruth.zero).haves)]:List V).getD q uU) ?_
   first|assumption|rfl|(simp[*];done)|(simp;omega)|(simp only[Bool.and_eq_true,decide_eq_true_eq];omega)
  ·exact AStep.rd true (rR ((tlist tint).lst ((o.getD (n).toNat tTruth.zero).haves))) rfl
  ·exact AStep.rd true ((tlist tint).lst ((o.getD (n).toNat tTruth.zero).haves)) rfl
  ·refine AStep.ap0 (.tmp 99) (.tmp 104) 61 37 3 1 ((o.getD (n).toNat tTruth.zero).haves.length) (rowsOf (tlist tint) ((o.getD (n).toNat tTruth.zero).haves)) [.nils] ?_ ?_
   ·first|omega|(simp;done)|(simp;omega)
   ·intro r hr j hj;first|(have hj0:j=0:=by omega;subst hj0;rfl)|(rcases show j=0 by omega with rfl<;>rfl)
  ·exact AStep.rd true (tint.lst af) rfl
  ·exact AStep.lt 61 37 1 #[(0,.tmp 106)] [.nils] [tint.lst af]
  ·refine AStep.ap 61 (.tmp 105) (.tmp 107) 3 (.rows 37 1 ((o.getD (n).toNat tTruth.zero).haves.length+1) (appC ((o.getD (n).toNat tTruth.zero).haves.length) (rowsOf (tlist tint) ((o.getD (n).toNat tTruth.zero).haves)) (litC 1 1 [tint.lst af]))) ((decide ((o.getD (n).toNat tTruth.zero).haves.length=(o.getD (n).toNat tTruth.zero).haves.length)&&decide ((o.getD (n).toNat tTruth.zero).haves.length+1≤4294967296))&&true) (fun _=>true) (.row 3 ((o.getD (n).toNat tTruth.zero).haves.length+1)) ?_ ?_ ?_
   ·first|(simp;done)|(simp;omega)|(simp[*];done)|(simp[-List.getD_eq_getElem?_getD];omega)
   ·intro r;rfl
   ·simp only[killS,List.map_cons,List.map_nil,killV_bif,killB_bif];kernel_rfl
  ·rw[mkb_free t51_23 24 false c [0] rfl,mkb_free t51_23 24 true c [0] rfl]
   simp only[List.map_cons,List.map_nil]
   generalize c 0=c0
   cases c0
   ·refine AStep.tree (g:=(.wait 0 (.frz 2 ((decide (((o.getD (n).toNat tTruth.zero).pairs.length+1)≤((o.getD (n).toNat tTruth.zero).pairs.length+1)))&&true) (.wait 0 (.vle 98 (.list 2 ((o.getD (n).toNat tTruth.zero).pairs.length+1) (appC ((o.getD (n).toNat tTruth.zero).pairs.length) (rowsOf tPair ((o.getD (n).toNat tTruth.zero).pairs)) (litC 2 1 [iI ((ps.getD (m).toNat tPair.zero).a),iI ((ps.getD (m).toNat tPair.zero).b)]))) (tPair.lst (((o.getD (n).toNat tTruth.zero).pairs)++ [(ps.getD (m).toNat tPair.zero)])) (.wait 0 (.frz 3 ((decide (((o.getD (n).toNat tTruth.zero).haves.length+1)≤((o.getD (n).toNat tTruth.zero).haves.length+1)))&&true) (.wait 0 (.vle 108 (.list 1 ((o.getD (n).toNat tTruth.zero).haves.length+1) (appC ((o.getD (n).toNat tTruth.zero).haves.length) (rowsOf (tlist tint) ((o.getD (n).toNat tTruth.zero).haves)) (litC 1 1 [tint.lst af]))) ((tlist tint).lst (((o.getD (n).toNat tTruth.zero).haves)++ [af])) (.done .normal (st51_23 b but o i n hv ps m af A (mkb t51_23 24 true fun j=>([false]:List Bool).getD (([0]:List Nat).findIdx (Nat.beq j)) false)))))))))))) (by kernel_rfl) ?_
    simp only[DT.holds]
    have z_v:= @VLe.refl
    repeat' (first|exact rfl|refine And.intro ?_ ?_)
    all_goals first|(simp;done)|(exact VLe.appS _ _ _ (by kernel_rfl) (by first|rfl|(simp;done)))
   ·refine AStep.tree (g:=(.wait 0 (.frz 2 ((decide (((o.getD (n).toNat tTruth.zero).pairs.length+1)≤((o.getD (n).toNat tTruth.zero).pairs.length+1)))&&true) (.wait 0 (.vle 98 (.list 2 ((o.getD (n).toNat tTruth.zero).pairs.length+1) (appC ((o.getD (n).toNat tTruth.zero).pairs.length) (rowsOf tPair ((o.getD (n).toNat tTruth.zero).pairs)) (litC 2 1 [iI ((ps.getD (m).toNat tPair.zero).a),iI ((ps.getD (m).toNat tPair.zero).b)]))) (tPair.lst (((o.getD (n).toNat tTruth.zero).pairs)++ [(ps.getD (m).toNat tPair.zero)])) (.wait 0 (.frz 3 ((decide (((o.getD (n).toNat tTruth.zero).haves.length+1)≤((o.getD (n).toNat tTruth.zero).haves.length+1)))&&true) (.wait 0 (.vle 108 (.list 1 ((o.getD (n).toNat tTruth.zero).haves.length+1) (appC ((o.getD (n).toNat tTruth.zero).haves.length) (rowsOf (tlist tint) ((o.getD (n).toNat tTruth.zero).haves)) (litC 1 1 [tint.lst af]))) ((tlist tint).lst (((o.getD (n).toNat tTruth.zero).haves)++ [af])) (.done .normal (st51_23 b but o i n hv ps m af A (mkb t51_23 24 true fun j=>([true]:List Bool).getD (([0]:List Nat).findIdx (Nat.beq j)) false)))))))))))) (by kernel_rfl) ?_
    simp only[DT.holds]
    have z_v:= @VLe.refl
    repeat' (first|exact rfl|refine And.intro ?_ ?_)
    all_goals first|(simp;done)|(exact VLe.appS _ _ _ (by kernel_rfl) (by first|rfl|(simp;done)))
  ·exact AStep.lt 82 85 1 #[(0,.tmp 109)] [.nils,.nils] [tPair.lst (((o.getD (n).toNat tTruth.zero).pairs)++ [(ps.getD (m).toNat tPair.zero)]),(tlist tint).lst (((o.getD (n).toNat tTruth.zero).haves)++ [af])]
 ·refine AOps.tree (g:=(.need ((decide (A.length=A.length)&&decide (A.length+1≤4294967296))&&true) (.scal (fun _=>true) (.done .normal ⟨[uU,tint.lst but,.ref 0 0 0,uU,uU,uU,uU,tTruth.lst o,iI i,.row 1 (A.length+1),iI n,tint.lst hv,tPair.lst ps,iI m,tint.lst af,uU,uU,uU,uU,uU,uU,uU,uU,uU,uU,uU,uU,uU,uU,uU,uU,uU,uU,uU,uU,uU,uU,uU,uU,uU,uU,uU,uU,uU,uU,uU,uU,uU,uU,uU,uU,uU,uU,uU,uU,uU,uU,uU,uU,uU,uU,uU,uU,uU,uU,uU,uU,uU,uU,uU,uU,uU,uU,uU,uU,uU,uU,uU,uU,uU,uU,uU,uU,uU,uU,uU,.nils,tTruth.lst o,iI n,.cref 2 fun q=>([tPair.lst ((o.getD (n).toNat tTruth.zero).pairs),(tlist tint).lst ((o.getD (n).toNat tTruth.zero).haves)]:List V).getD q uU,.cref 2 fun q=>([tPair.lst ((o.getD (n).toNat tTruth.zero).pairs),(tlist tint).lst ((o.getD (n).toNat tTruth.zero).haves)]:List V).getD q uU,tPair.lst ((o.getD (n).toNat tTruth.zero).pairs),uU,tPair.lst ps,iI m,.cref 2 fun q=>([iI ((ps.getD (m).toNat tPair.zero).a),iI ((ps.getD (m).toNat tPair.zero).b)]:List V).getD q uU,.agg [iI ((ps.getD (m).toNat tPair.zero).a),iI ((ps.getD (m).toNat tPair.zero).b)],.list 2 1 (litC 2 1 [iI ((ps.getD (m).toNat tPair.zero).a),iI ((ps.getD (m).toNat tPair.zero).b)]),tPair.lst (((o.getD (n).toNat tTruth.zero).pairs)++ [(ps.getD (m).toNat tPair.zero)]),.nils,tTruth.lst o,iI n,.cref 2 fun q=>([tPair.lst ((o.getD (n).toNat tTruth.zero).pairs),(tlist tint).lst ((o.getD (n).toNat tTruth.zero).haves)]:List V).getD q uU,rR ((tlist tint).lst ((o.getD (n).toNat tTruth.zero).haves)),(tlist tint).lst ((o.getD (n).toNat tTruth.zero).haves),uU,tint.lst af,.list 1 1 (litC 1 1 [tint.lst af]),(tlist tint).lst (((o.getD (n).toNat tTruth.zero).haves)++ [af]),.agg [tPair.lst (((o.getD (n).toNat tTruth.zero).pairs)++ [(ps.getD (m).toNat tPair.zero)]),(tlist tint).lst (((o.getD (n).toNat tTruth.zero).haves)++ [af])],.list 2 1 (litC 2 1 [tPair.lst (((o.getD (n).toNat tTruth.zero).pairs)++ [(ps.getD (m).toNat tPair.zero)]),(tlist tint).lst (((o.getD (n).toNat tTruth.zero).haves)++ [af])]),.row 1 (A.length+1),uU,uU],[.cells (cC b),.rows 85 2 (A.length+1) (rowsRev tTruth ((⟨(((o.getD (n).toNat tTruth.zero).pairs)++ [(ps.getD (m).toNat tPair.zero)]),(((o.getD (n).toNat tTruth.zero).haves)++ [af])⟩:Truth)::A)),.gone,.gone],[]⟩)))) (by kernel_rfl) ?_
  simp only[DT.holds]
  repeat' (first|exact rfl|refine And.intro ?_ ?_)
  all_goals first|(simp;done)|(simp;omega)
theorem truthsTo_next(b:Book)(but:List Int)(i:Nat):truthsTo b but (i+1)=(truthsTo b but i).flatMap fun t=>stepTo b but i t (pairsR (b.lines.getD i zLine)).length:=rfl
def firstTo(i:Nat):List Int:=(List.range i).map fun(i:Nat)=>(i:Int)
theorem firstTo_next(i:Nat):(firstTo (i+1)).reverse=(i:Int)::(firstTo i).reverse:=by unfold firstTo;rw[List.range_succ];simp
theorem rev1(n:Int)(r j:Nat)(hr:r<1)(hj:j<1):VLe (litC 1 1 [iI n] r j) (rowsRev tint [n] r j):=by
 obtain rfl:r=0:=by omega
 obtain rfl:j=0:=by omega
 exact VLe.refl _
theorem lit1L(l:List Int):VLe (.list 1 1 (litC 1 1 [tint.lst l])) ((tlist tint).lst [l]):=VLe.lit (tlist tint) [l] rfl rfl (fun _=>rfl)
theorem litT(hs:List (List Int)):VLe (.list 2 1 (litC 2 1 [.nils,(tlist tint).lst hs])) (tTruth.lst [⟨[],hs⟩]):=fun G β x hx=>by
 cases hx with
 |list hG hs2 hc hn h=>
  refine .list hG hs2 hc hn fun i j hi hj=> ?_
  have q:=h i j hi hj
  have hi':i<1:=hi
  have hj':j<2:=hj
  obtain rfl:i=0:=by omega
  rcases show j=0∨j=1 by omega with rfl|rfl
  ·exact VLe.nils _ _ _ q
  ·exact q
theorem c51(b:Book)(but:List Int)(h:OkBook b):PC 51 [.agg (tBook.cells b),tint.lst but] (·=tTruth.lst (truthsR b but)):=by
 have hnb:=h.nb
 have hnl:=h.nl
 have hmain:WP Tryz.prog ⟨none,0⟩ (T51 b but) (Ends' fun r=>v51 r=tTruth.lst (truthsR b but)) (.l1 (truthsTo b but 0) 0):=by
  refine WP.run (fun i=>.l1 (truthsTo b but i) (i:Int)) rfl b.lines.length (fun i hi=> ?_) ?_
  ·have hr:inR .i64 ((i:Int)+1)=true:=inR64 (by omega) (by omega)
   have hi':(i:Int)<b.lines.length:=by omega
   have hok:=truthsTo_ok b but i
   have hsm:=truthsTo_small b but (i:=i) (by omega)
   have hln:=h.line hi
   rw[truthsTo_next]
   refine WP.step ?_
   simp only[T51,Go,Ends',v51,Tr.sure,SS,hi']
   repeat' with_reducible first|intro _|apply And.intro
   have hP:=pairs_len (b.lines.getD i zLine)
   have k56:=c56 (b.lines.getD i zLine)
   generalize hL:truthsTo b but i=L at*
   refine WP.run (fun k=>.l2 (i:Int) L (k:Int) ((L.take k).flatMap fun t=>stepTo b but i t (pairsR (b.lines.getD i zLine)).length).reverse) rfl L.length (fun k hk=> ?_) ?_
   ·have hr':inR .i64 ((k:Int)+1)=true:=inR64 (by omega) (by omega)
    have hk':(k:Int)<L.length:=by omega
    have hT:=hok _ (getD_mem zTruth L k hk)
    have hft:=flat_take (fun t=>stepTo b but i t (pairsR (b.lines.getD i zLine)).length) zTruth L k hk
    have hal:=flat_le (l:=L.take k) (f:=fun t=>stepTo b but i t (pairsR (b.lines.getD i zLine)).length) (b:=10) fun x _=>Nat.le_trans (stepTo_len b but i x _) hP
    simp only[List.length_take]at hal
    generalize hacc:((L.take k).flatMap fun t=>stepTo b but i t (pairsR (b.lines.getD i zLine)).length).reverse=acc at*
    have hacl:acc.length≤1000000000:=by rw[←hacc,List.length_reverse];omega
    generalize hX:L.getD k zTruth=X at*
    have hh1:(i:Int)<X.haves.length:=by rw[hT.nh];omega
    refine WP.step ?_
    simp only[T51,Go,Ends',v51,Tr.sure,SS,hk',hi',z5,z10,hX]
    repeat' with_reducible first|intro _|apply And.intro
    all_goals first|exact k56|(simp_all [hh1,Go,Ends',v51,-List.getD_eq_getElem?_getD];done)|skip
    have hhv:(X.haves.getD i []).length=b.bodies.length:=hT.have_ _ (getD_mem [] _ i (by rw[hT.nh];omega))
    have hxp:X.pairs.length+1≤4294967296:=by rw[hT.np];omega
    have hxh:X.haves.length+1≤4294967296:=by rw[hT.nh];omega
    refine WP.run (fun p=>.l3 (i:Int) L (k:Int) (p:Int) ((stepTo b but i X p).reverse++acc)) (by simp[stepTo]) (pairsR (b.lines.getD i zLine)).length (fun p hp=> ?_) ?_
    ·have hr2:inR .i64 ((p:Int)+1)=true:=inR64 (by omega) (by omega)
     have hp':(p:Int)<(pairsR (b.lines.getD i zLine)).length:=by omega
     have hsl:=stepTo_len b but i X p
     have hlen:((stepTo b but i X p).reverse++acc).length+1≤4294967296:=by simp only[List.length_append,List.length_reverse];omega
     have hpm:=getD_mem zPair _ p hp
     have k98:=c98 (X.haves.getD i []) (b.lines.getD i zLine) ((pairsR (b.lines.getD i zLine)).getD p zPair) (fun q=>by rw[hhv];exact(hln.ab (by omega)).1) (fun q=>by
      have hk0:=hln.kind
      have:=pairs_in hln hpm (by omega)
      rw[hhv];omega) (by omega)
     rw[stepTo_next,List.reverse_append,List.append_assoc]
     unfold waysR
     generalize hY:(pairsR (b.lines.getD i zLine)).getD p zPair=Y at*
     generalize(stepTo b but i X p).reverse++acc=B at*
     have kov:=fun(af:List Int)=>ov51_23 b but L (i:Int) (k:Int) (X.haves.getD i []) (pairsR (b.lines.getD i zLine)) (p:Int) af B (by rw[Bool.and_eq_true,decide_eq_true_eq,decide_eq_true_eq];omega) (by rw[Bool.and_eq_true,decide_eq_true_eq,decide_eq_true_eq];omega) (by rw[Int.toNat_natCast,z10,hX];exact hxp) (by rw[Int.toNat_natCast,z10,hX];exact hxh) hlen
     simp only[Int.toNat_natCast,z10,z8,hX,hY]at kov
     cases hb:hasN but (i:Int)with
     |true=>
      refine WP.once ?_
      simp only[T51,Tr.sure,SS,hp',hi',hk',z5,z10,z8,z6,hX,hY]
      repeat' with_reducible first|intro _|apply And.intro
      all_goals first|exact(c44 _ _)|exact k98|exact(kov _)|(simp[hr2,Go,Ends',v51,-List.getD_eq_getElem?_getD, *];done)|(simp_all [hr2,Go,Ends',v51,-List.getD_eq_getElem?_getD];done)
     |false=>
      refine WP.once ?_
      simp only[T51,Tr.sure,SS,hp',hi',hk',z5,z10,z8,z6,hX,hY]
      repeat' with_reducible first|intro _|apply And.intro
      all_goals first|exact(c44 _ _)|exact k98|exact(kov _)|(simp[hr2,Go,Ends',v51,-List.getD_eq_getElem?_getD, *];done)|(simp_all [hr2,Go,Ends',v51,-List.getD_eq_getElem?_getD];done)
    ·rw[hft]
     refine WP.once ?_
     simp only[T51,Tr.sure,SS,z5,Int.lt_irrefl]
     repeat' with_reducible first|intro _|apply And.intro
     all_goals simp[hr',Go,Ends',v51,-List.getD_eq_getElem?_getD, *]
   ·refine WP.once ?_
    simp only[T51,Tr.sure,SS,hL,Int.lt_irrefl]
    repeat' with_reducible first|intro _|apply And.intro
    all_goals first|exact VLe.rev tTruth _|(simp[hr,Go,Ends',v51,-List.getD_eq_getElem?_getD, *];done)
  ·refine WP.step ?_
   simp only[T51,Go,Ends',v51,Tr.sure,SS,Int.lt_irrefl]
   repeat' with_reducible first|intro _|apply And.intro
   all_goals simp[truthsR,Go,Ends',v51,-List.getD_eq_getElem?_getD, *]
 refine w51 b but (WP.step ?_)
 simp only[T51,Go,Ends',v51,Tr.sure,SS]
 repeat' with_reducible first|intro _|apply And.intro
 refine WP.run (fun i=>.l0 (i:Int) (firstTo i).reverse) rfl b.bodies.length (fun i hi=> ?_) ?_
 ·have hr:inR .i64 ((i:Int)+1)=true:=inR64 (by omega) (by omega)
  have hi':(i:Int)<b.bodies.length:=by omega
  have hl:(firstTo i).reverse.length+1≤4294967296:=by simp[firstTo];omega
  rw[firstTo_next]
  generalize(firstTo i).reverse=A at*
  refine WP.once ?_
  simp only[T51,Tr.sure,SS,hi']
  repeat' with_reducible first|intro _|apply And.intro
  all_goals first|exact(by with_reducible exact rev1 _ _ _ ‹_› ‹_›)|(simp[hr,hl,Go,Ends',v51,-List.getD_eq_getElem?_getD, *];done)
 have hm2:WP Tryz.prog ⟨none,0⟩ (T51 b but) (Ends' fun r=>v51 r=tTruth.lst (truthsR b but)) (.l1 [⟨[],[(firstTo b.bodies.length).reverse.reverse]⟩] 0):=by rw[List.reverse_reverse];exact hmain
 refine WP.step ?_
 simp only[T51,Go,Ends',v51,Tr.sure,SS,Int.lt_irrefl]
 repeat' with_reducible first|intro _|apply And.intro
 all_goals first|exact hm2|exact VLe.rev tint _|exact(by with_reducible exact litT _)|exact(by with_reducible exact lit1L _)|(simp[Go,Ends',v51,-List.getD_eq_getElem?_getD, *];done)
end
noncomputable section
theorem VLe.litNil{τ:Type}{E:Ty τ}:VLe (.list 1 1 (litC 1 1 [.nils])) ((tlist E).lst ([[]]:List (List τ))):=fun G β x hx=>by
 cases hx with
 |list hG hs hc hn h=>
  refine .list hG hs hc hn fun i j hi hj=> ?_
  have hj0:j=0:=by have:j<1:=hj;omega
  have hi0:i=0:=by have:i<1:=hi;omega
  subst hj0;subst hi0
  exact VLe.nils _ _ _ (h 0 0 (by omega) (by omega))
theorem VLe.snoc{τ:Type}(E:Ty τ)(l:List τ)(x:τ):VLe (.list E.w (l.length+1) (rowsOf E (l++ [x]))) (E.lst (l++ [x])):=by
 show VLe _ (.list E.w (l++ [x]).length _)
 rw[List.length_append];exact VLe.refl _
theorem pickF_len{b:Int}{l:List Int}(hb:b≤8)(h: -1≤lastI l):(pickF b l).length≤8:=by simp only[pickF,List.length_map,List.length_range];omega
theorem flat_len{b:Int}(hb:b≤8):∀(L:List (List Int)),(∀l∈L,-1≤lastI l)→(L.flatMap (pickF b)).length≤L.length*8
 |[],_=>by simp
 |l::L,h=>by
  have h1:=pickF_len hb (h l (by simp))
  have h2:=flat_len hb L fun m hm=>h m (by simp[hm])
  simp only[List.flatMap_cons,List.length_append,List.length_cons];omega
theorem picks_len{b:Int}(hb:b≤8):∀n:Nat,(picks b n).length≤8^n
 |0=>by simp[picks]
 |n+1=>by
  have h1:=flat_len hb (picks b n) fun l hl=>((picks_ok b n l).1 hl).last
  have h2:=picks_len hb n
  rw[picks_succ,Nat.pow_succ];omega
def picksI(b m:Int):List (List Int):=picks b m.toNat
inductive P91
 |e
 |l0 (x0_7:Int) (a0_0:List (List Int))
 |l1 (x0_7:Int) (x1_9:Int) (a1_0:List (List Int))
inductive R91
 |r0
 |r1 (r0:List (List Int))
noncomputable def T91(b:Int)(m:Int):P91→Tr P91 R91
 |.e=>let c1:=m-(1:Int);(.br (m==(0:Int)) (.out (.r0)) (.wait 3 (.own 5 37 1 (.need (inR .i64 c1) (.call 91 [iI b,iI c1] ((tlist tint).lst (picksI b c1)) true true (.go (.l0 0 ([]))))))))
 |.l0 x0_7 a0_0=>let c1:=(picksI b (m-(1:Int))).getD (x0_7).toNat (tlist tint).zero;let c2:=decide (0≤x0_7)&&decide (x0_7<(((picksI b (m-(1:Int))).length):Int));let c3:=((c1.length):Int)-(1:Int);let c4:=(c1.getD (c3).toNat tint.zero)+(1:Int);(.br (decide (x0_7<(((picksI b (m-(1:Int))).length):Int))) (.need c2 (.br (decide (((c1.length):Int)>(0:Int))) (.front [] [] ((c2&&(c2&&((inR .i64 c3)&&((decide (0≤c3)&&decide (c3<((c1.length):Int)))&&true))))&&true) true (.need (inR .i64 c4) (.go (.l1 x0_7 c4 a0_0)))) (.need (inR .i64 ((-1)+(1:Int))) (.go (.l1 x0_7 ((-1)+(1:Int)) a0_0))))) (.out (.r1 a0_0)))
 |.l1 x0_7 x1_9 a1_0=>let c1:=(picksI b (m-(1:Int))).getD (x0_7).toNat (tlist tint).zero;let c2:=(0+c1.length)+1;(.br (decide (x1_9<b)) (.need (decide (0≤x0_7)&&decide (x0_7<(((picksI b (m-(1:Int))).length):Int))) (.need ((decide (0=0)&&decide (0+c1.length≤4294967296))&&true) (.scal (fun r=>(List.range 1).all fun j=>((rowsOf tint c1) r j).scalar) (.need ((decide ((0+c1.length)=(0+c1.length))&&decide ((0+c1.length)+1≤4294967296))&&decide (1≤1)) (.scal (fun _=>true) (.wait 0 (.frz 1 ((decide (c2≤c2))&&true) (.wait 0 (.vle 57 (.list 1 c2 (appC (0+c1.length) (appC 0 (litC 1 0 []) (rowsOf tint c1)) (litC 1 1 [iI x1_9]))) (tint.lst (c1++ [x1_9])) (.need ((decide (a1_0.length=a1_0.length)&&decide (a1_0.length+1≤4294967296))&&decide (1≤1)) (.scal (fun _=>true) (.need (inR .i64 (x1_9+(1:Int))) (.go (.l1 x0_7 (x1_9+(1:Int)) ((c1++ [x1_9])::a1_0))))))))))))))) (.need (inR .i64 (x0_7+(1:Int))) (.go (.l0 (x0_7+(1:Int)) a1_0))))
noncomputable def g91(b:Int)(m:Int):P91→List Item × St
 |.e=>bd Tryz.f91 [iI b,iI m] 59
 |.l0 x0_7 a0_0=>(cutOf Tryz.f91 0,⟨mk 61 [(0,iI b),(5,.row 0 a0_0.length),(6,(tlist tint).lst (picksI b (m-(1:Int)))),(7,iI x0_7)],[.rows 37 1 a0_0.length (rowsRev (tlist tint) a0_0)],[]⟩)
 |.l1 x0_7 x1_9 a1_0=>(cutOf Tryz.f91 1,⟨mk 61 [(0,iI b),(5,.row 0 a1_0.length),(6,(tlist tint).lst (picksI b (m-(1:Int)))),(7,iI x0_7),(9,iI x1_9)],[.rows 37 1 a1_0.length (rowsRev (tlist tint) a1_0)],[]⟩)
noncomputable def n91:R91→Exit × St
 |.r0=>(.ret,⟨mk 61 [(4,.row 0 1)],[.rows 37 1 1 (litC 1 1 [.nils])],[]⟩)
 |.r1 r0=>(.ret,⟨mk 61 [(4,.row 0 r0.length)],[.rows 37 1 r0.length (rowsRev (tlist tint) r0)],[]⟩)
noncomputable def v91:R91→V
 |.r0=>(tlist tint).lst ([[]]:List (List Int))
 |.r1 r0=>(tlist tint).lst r0.reverse
theorem s91(b:Int)(m:Int):Sm 0 (g91 b m) (T91 b m) (n91)
 |.e=>⟨400,by kernel_rfl⟩
 |.l0 _ _=>⟨400,by kernel_rfl⟩
 |.l1 _ _ _=>⟨400,by kernel_rfl⟩
theorem q91:∀r,bodyQ Tryz.prog Tryz.f91 (·=v91 r) (n91 r).1 (n91 r).2
 |.r0=>⟨.inr rfl,by simp[n91],(.row 0 1),((tlist tint).lst ([[]]:List (List Int))),by kernel_rfl,(.weak (.row rfl (Nat.le_refl _)) VLe.litNil),rfl⟩
 |.r1 r0=>⟨.inr rfl,by simp[n91],(.row 0 r0.length),((tlist tint).lst r0.reverse),by kernel_rfl,(.weak (.row rfl (Nat.le_refl _)) (VLe.rev (tlist tint) r0)),rfl⟩
theorem w91(b:Int)(m:Int){post:V→Prop}(h:WQ (T91 b m) v91 post .e):PC 91 [iI b,iI m] post:=
 PCalls.wq Tryz.func91 (s91 b m) q91 h
theorem VLe.app1(l:List Int)(x:Int){cells:List V}(hc:cells=[iI x]):VLe (.list 1 (0+l.length+1) (appC (0+l.length) (appC 0 (litC 1 0 []) (rowsOf tint l)) (litC 1 1 cells))) (tint.lst (l++ [x])):=by
 subst hc
 rw[Nat.zero_add]
 have e:appC 0 (litC 1 0 []) (rowsOf tint l)=rowsOf tint l:=by funext r j;unfold appC;rw[if_neg (Nat.not_lt_zero r),Nat.sub_zero]
 rw[e]
 intro G β x' hx
 refine VLe.snoc tint l x _ _ _ ?_
 refine VLe.list (fun i j hi hj=> ?_) _ _ _ hx
 unfold appC
 by_cases h:i<l.length
 ·rw[if_pos h];simp only[rowsOf,List.getD_eq_getElem?_getD,List.getElem?_append_left h]
 ·have hi':i=l.length:=by omega
  have hj1:j<1:=hj
  have hj':j=0:=by omega
  subst hi';subst hj'
  rw[if_neg h,Nat.sub_self]
  simp only[rowsOf,List.getD_eq_getElem?_getD,List.getElem?_append_right (Nat.le_refl _),Nat.sub_self]
  rfl
theorem c91(b:Int)(hb:0≤b∧b≤8):∀n:Nat,n≤8→PC 91 [iI b,iI (n:Int)] (·=(tlist tint).lst (picks b n))
 |0,_=>by
  refine w91 _ _ (WP.step ?_)
  simp only[T91,Go,Ends',v91,Tr.sure,SS]
  repeat' with_reducible first|intro _|apply And.intro
  all_goals simp[picks,Go,Ends',v91,-List.getD_eq_getElem?_getD, *]
 |n+1,hn=>by
  have ih:=c91 b hb n (by omega)
  have e:((n+1:Nat):Int)-1=n:=by omega
  have hr:inR .i64 (((n+1:Nat):Int)-1)=true:=inR64 (by omega) (by omega)
  have hne:¬((n+1:Nat):Int)=0:=by omega
  refine w91 _ _ (WP.step ?_)
  simp only[T91,Go,Ends',v91,Tr.sure,SS,hr,hne,e]
  repeat' with_reducible first|intro _|apply And.intro
  all_goals first|exact ih|(simp_all [e,Go,Ends',v91,-List.getD_eq_getElem?_getD];done)|skip
  have eL:picksI b (n:Int)=picks b n:=by simp only[picksI,Int.toNat_natCast]
  have hL:=fun l hl=>(picks_ok b n l).1 hl
  have hlen:=picks_len hb.2 n
  have h8:8^n≤8^7:=Nat.pow_le_pow_right (by omega) (by omega)
  generalize hLL:picks b n=L at*
  refine WP.count (fun i=>.l0 (i:Int) ((L.take i).flatMap (pickF b)).reverse) rfl L.length (fun _=>True) trivial (fun i hi _=> ?_) fun _=> ?_
  ·have hm:L.getD i []∈L:=by rw[List.getD_eq_getElem?_getD,List.getElem?_eq_getElem hi];exact List.getElem_mem _
   have hp:=hL _ hm
   have ht:L.take (i+1)=L.take i++ [L.getD i []]:=take_snoc _ _ _ hi
   have hz:(tlist tint).zero=([]:List Int):=rfl
   have hfl:=flat_len hb.2 (L.take i) fun l hl=>(hL l (List.mem_of_mem_take hl)).last
   have htl:(L.take i).length≤i:=by simp;omega
   have hla:=hp.last
   generalize hl:L.getD i []=l at*
   have hln:=hp.len
   have hi':((i:Nat):Int)<L.length:=by omega
   generalize hA:(L.take i).flatMap (pickF b)=A at*
   have hB:(L.take (i+1)).flatMap (pickF b)=A++pickF b l:=by rw[ht,List.flatMap_append,hA];simp
   have hAl:A.length≤8^7*8:=by omega
   have go:WP Tryz.prog ⟨none,0⟩ (T91 b ((n+1:Nat):Int)) (fun x=>(x=.inl (.l0 ((i+1:Nat):Int) (A++pickF b l).reverse)∧True)∨Go Tryz.prog ⟨none,0⟩ (T91 b ((n+1:Nat):Int)) (Ends' fun r=>v91 r=(tlist tint).lst (picks b (n+1))) x) (.l1 (i:Int) (lastI l+1) A.reverse):=by
    refine WP.run (fun k=>.l1 (i:Int) (lastI l+1+(k:Int)) (A++(List.range k).map fun(q:Nat)=>l++ [lastI l+1+(q:Int)]).reverse) (by simp) (b-(lastI l+1)).toNat (fun k hk=> ?_) ?_
    ·have hk':lastI l+1+(k:Int)<b:=by omega
     have hrk:inR .i64 (lastI l+1+(k:Int)+1)=true:=inR64 (by omega) (by omega)
     have hq:lastI l+1+((k:Int)+1)=lastI l+1+(k:Int)+1:=by omega
     generalize hC:(A++(List.range k).map fun(q:Nat)=>l++ [lastI l+1+(q:Int)]).reverse=C
     have hCl:C.length≤8^7*8+8:=by subst hC;simp;omega
     have hD:(A++(List.range (k+1)).map fun(q:Nat)=>l++ [lastI l+1+(q:Int)]).reverse=(l++ [lastI l+1+(k:Int)])::C:=by subst hC;simp[List.range_succ]
     rw[hD]
     refine WP.once ?_
     simp only[T91,Tr.sure,SS,hz,e,eL,hl,hk',hi']
     repeat' with_reducible first|intro _|apply And.intro
     all_goals first|exact(VLe.app1 _ _ rfl)|exact(show((List.range 1).all fun j=>(rowsOf tint l _ j).scalar)=true from rfl)|(simp[hrk,Go,Ends',v91,-List.getD_eq_getElem?_getD, *];done)|skip
     all_goals omega
    ·have hr1:inR .i64 ((i:Int)+1)=true:=inR64 (by omega) (by omega)
     have hge:¬lastI l+1+(((b-(lastI l+1)).toNat:Nat):Int)<b:=by omega
     refine WP.once ?_
     simp only[T91,hge,Tr.sure,decide_false]
     simp[hr1,pickF]
   have main:∀φ,WP Tryz.prog ⟨none,0⟩ (T91 b ((n+1:Nat):Int)) φ (.l1 (i:Int) (lastI l+1) A.reverse)→WP Tryz.prog ⟨none,0⟩ (T91 b ((n+1:Nat):Int)) φ (.l0 (i:Int) A.reverse):=fun φ h=>by
    have hr2:inR .i64 ((l.length:Int)-1)=true:=inR64 (by omega) (by omega)
    have hr3:inR .i64 (lastI l+1)=true:=by
     by_cases e0:l=[]
     ·subst e0;decide
     ·have:=hp.hi _ (lastI_mem e0);exact inR64 (by omega) (by omega)
    have hla1:0<l.length→l.getD ((l.length:Int)-1).toNat tint.zero=lastI l:=fun h0=>by
     rw[lastI,if_neg (by omega),show((l.length:Int)-1).toNat=l.length-1 by omega];rfl
    have hla0:l.length=0→lastI l= -1:=fun h0=>by rw[lastI,if_pos h0]
    refine WP.step ?_
    simp only[T91,Go,Ends',v91,Tr.sure,SS,hz,hl,eL,e,hi']
    repeat' with_reducible first|intro _|apply And.intro
    all_goals first|(simp_all [hr2,Go,Ends',v91,-List.getD_eq_getElem?_getD];done)|skip
    all_goals omega
    all_goals first
     |(have h0:0<l.length:=by omega
       rw[hla1 h0];first|exact hr3|exact h)
     |(have h0:l.length=0:=by omega
       rw[hla0 h0]at h;exact h)
   simp only[hB,hA]
   exact main _ go
  ·refine WP.step ?_
   simp only[T91,Go,Ends',v91,Tr.sure,SS,e,eL]
   repeat' with_reducible first|intro _|apply And.intro
   all_goals simp[eL,picks_succ,Go,Ends',v91,-List.getD_eq_getElem?_getD, *]
end
noncomputable section
inductive P37
 |e
 |l0 (x0_7:Int)
 |l1 (x0_7:Int) (x1_9:Int)
inductive R37
 |r0 (r1:Int)
 |r1 (r0:List Int) (r1:Int)
noncomputable def T37(b:Book):P37→Tr P37 R37
 |.e=>let c1:=bookCheck b;(.call 17 [.agg (cC b)] (.tuple [iI (c1.1),iI (c1.2.1),iI (c1.2.2)]) true true (.br (c1.2.2 !=(0:Int)) (.out (.r0 (c1.2.2))) (.go (.l0 0))))
 |.l0 x0_7=>let c1:=(b.lines.length:Int);(.br (decide (x0_7<c1)) (.call 91 [iI c1,iI x0_7] ((tlist tint).lst (picksI c1 x0_7)) true true (.go (.l1 x0_7 0))) (.call 91 [iI c1,iI c1] ((tlist tint).lst (picksI c1 c1)) true true (.need (decide (0≤(0:Int))&&decide ((0:Int)<(((picksI c1 c1).length):Int))) (.out (.r1 ((picksI c1 c1).getD ((0:Int)).toNat (tlist tint).zero) 0)))))
 |.l1 x0_7 x1_9=>let c1:=(picksI (b.lines.length:Int) x0_7).getD (x1_9).toNat (tlist tint).zero;let c2:=x1_9<(((picksI (b.lines.length:Int) x0_7).length):Int);let c3:=decide (0≤x1_9)&&decide c2;(.br (decide c2) (.front [] [] ((c3&&true)&&true) true (.call 51 [.agg (cC b),tint.lst c1] (tTruth.lst (truthsR b c1)) true true (.br (decide ((((truthsR b c1).length):Int)>(0:Int))) (.need c3 (.out (.r1 c1 0))) (.need (inR .i64 (x1_9+(1:Int))) (.go (.l1 x0_7 (x1_9+(1:Int)))))))) (.need (inR .i64 (x0_7+(1:Int))) (.go (.l0 (x0_7+(1:Int))))))
noncomputable def g37(b:Book):P37→List Item × St
 |.e=>bd Tryz.f37 [.agg (cC b)] 57
 |.l0 x0_7=>(cutOf Tryz.f37 0,⟨mk 58 [(1,.ref 0 0 0),(7,iI x0_7)],[.cells (cC b)],[]⟩)
 |.l1 x0_7 x1_9=>(cutOf Tryz.f37 1,⟨mk 58 [(1,.ref 0 0 0),(7,iI x0_7),(8,(tlist tint).lst (picksI (b.lines.length:Int) x0_7)),(9,iI x1_9)],[.cells (cC b)],[]⟩)
noncomputable def n37:R37→Exit × St
 |.r0 r1=>(.ret,⟨mk 58 [(2,.nils),(3,iI r1)],[],[]⟩)
 |.r1 r0 r1=>(.ret,⟨mk 58 [(2,tint.lst r0),(3,iI r1)],[],[]⟩)
noncomputable def v37:R37→V
 |.r0 r1=>.tuple [tint.lst ([]:List Int),iI r1]
 |.r1 r0 r1=>.tuple [tint.lst r0,iI r1]
theorem s37(b:Book):Sm 0 (g37 b) (T37 b) (n37)
 |.e=>⟨400,by kernel_rfl⟩
 |.l0 _=>⟨400,by kernel_rfl⟩
 |.l1 _ _=>⟨400,by kernel_rfl⟩
theorem q37:∀r,bodyQ Tryz.prog Tryz.f37 (·=v37 r) (n37 r).1 (n37 r).2
 |.r0 r1=>⟨.inr rfl,by simp[n37],(.tuple [.nils,iI r1]),(.tuple [tint.lst ([]:List Int),iI r1]),by kernel_rfl,(.tuple rfl fun j hj=>match j,hj with|0,_=>.weak (.imm rfl) VLe.nils|1,_=>.imm rfl),rfl⟩
 |.r1 r0 r1=>bq (.tuple [tint.lst r0,iI r1]) (by kernel_rfl)
theorem w37(b:Book){post:V→Prop}(h:WQ (T37 b) v37 post .e):PC 37 [.agg (cC b)] post:=
 PCalls.wq Tryz.func37 (s37 b) q37 h
theorem c37(b:Book):PC 37 [.agg (tBook.cells b)] (·=.tuple [tint.lst (wrongR b).1,iI (wrongR b).2]):=by
 have k17:=c17 b
 by_cases h:(bookCheck b).2.2=0
 ·have hok:=okBook h
  have hnl:=hok.nl
  have e:wrongR b=(wrongFrom b b.lines.length b.lines.length 0,0):=by unfold wrongR;rw[if_neg (fun q=>q h)]
  have k91:=fun n=>c91 (b.lines.length:Int) ⟨by omega,by omega⟩ n
  have hpI:∀n:Nat,picksI (b.lines.length:Int) (n:Int)=picks (b.lines.length:Int) n:=fun n=>by simp only[picksI,Int.toNat_natCast]
  have hpp:=picks_pos b.lines.length
  have hpl:=fun n=>picks_len (b:=(b.lines.length:Int)) (by omega) n
  have k51:=fun l=>c51 b l hok
  have hcan:∀l,(0:Int)<((truthsR b l).length:Int)↔canR b l=true:=fun l=>by unfold canR;rw[decide_eq_true_eq];omega
  rw[h]at k17
  have hmain:WP Tryz.prog ⟨none,0⟩ (T37 b) (Ends' fun r=>v37 r=.tuple [tint.lst (wrongFrom b b.lines.length b.lines.length 0),iI 0]) (.l0 0):=by
   generalize hN:b.lines.length=N at*
   generalize hW:wrongFrom b N N 0=W at*
   refine WP.count (fun i=>.l0 (i:Int)) rfl N (fun i=>W=wrongFrom b N (N-i) i) hW.symm (fun i hi hI=> ?_) fun hI=> ?_
   ·have hr:inR .i64 ((i:Int)+1)=true:=inR64 (by omega) (by omega)
    have hi':(i:Int)<N:=by omega
    have q1:=hpI i
    have q2:=k91 i (by omega)
    have q3:=hpl i
    have q4:8^i≤8^8:=Nat.pow_le_pow_right (by decide) (by omega)
    have hst:wrongFrom b N (N-i) i=match(picks (N:Int) i).find? (canR b)with|some l=>l|none=>wrongFrom b N (N-(i+1)) (i+1):=by
     rw[show N-i=(N-(i+1))+1 by omega];rfl
    rw[hst]at hI
    generalize hnx:wrongFrom b N (N-(i+1)) (i+1)=W2 at*
    generalize hP:picks (N:Int) i=P at*
    have hin:WP Tryz.prog ⟨none,0⟩ (T37 b) (fun x=>(x=.inl (.l0 ((i+1:Nat):Int))∧W=W2)∨Go Tryz.prog ⟨none,0⟩ (T37 b) (Ends' fun r=>v37 r=.tuple [tint.lst W,iI 0]) x) (.l1 (i:Int) 0):=by
     refine WP.count (fun k=>.l1 (i:Int) (k:Int)) rfl P.length (fun k=>P.find? (canR b)=(P.drop k).find? (canR b)) rfl (fun k hk hJ=> ?_) fun hJ=> ?_
     ·have hr2:inR .i64 ((k:Int)+1)=true:=inR64 (by omega) (by omega)
      have hk':(k:Int)<P.length:=by omega
      have q5:=k51 (P.getD k [])
      have q6:=hcan (P.getD k [])
      rw[drop_cons [] P k hk,List.find?_cons]at hJ
      cases hc:canR b (P.getD k [])with
      |true=>
       rw[hc]at hJ q6
       simp only at hJ
       rw[hJ]at hI
       simp only at hI
       have q7:(0:Int)<((truthsR b (P.getD k [])).length:Int):=q6.2 rfl
       refine WP.once ?_
       simp only[T37,Tr.sure,SS,hk',hN,q1,z6,q7]
       repeat' with_reducible first|intro _|apply And.intro
       all_goals first|exact q5|(simp[hr2,hI,Go,Ends',v37,-List.getD_eq_getElem?_getD, *];done)
      |false=>
       rw[hc]at hJ q6
       simp only at hJ
       have q7:¬(0:Int)<((truthsR b (P.getD k [])).length:Int):=fun q=>by have:=q6.1 q;cases this
       refine WP.once ?_
       simp only[T37,Tr.sure,SS,hk',hN,q1,z6,q7]
       repeat' with_reducible first|intro _|apply And.intro
       all_goals first|exact q5|exact(Or.inl ⟨rfl,hJ⟩)|(simp[hr2,Go,Ends',v37,-List.getD_eq_getElem?_getD, *];done)
     ·rw[List.drop_length]at hJ
      simp only[List.find?_nil]at hJ
      rw[hJ]at hI
      simp only at hI
      refine WP.step ?_
      simp only[T37,Go,Ends',v37,Tr.sure,SS,hN,q1,Int.lt_irrefl]
      repeat' with_reducible first|intro _|apply And.intro
      all_goals first|exact(WP.stop (.inl ⟨rfl,hI⟩))|(simp[hr,Go,Ends',v37,-List.getD_eq_getElem?_getD, *];done)
    refine WP.step ?_
    simp only[T37,Go,Ends',v37,Tr.sure,SS,hi',hN,q1]
    repeat' with_reducible first|intro _|apply And.intro
    all_goals first|exact q2|exact hin
   ·have q1:=hpI N
    have q2:=k91 N (by omega)
    rw[Nat.sub_self]at hI
    have hI':W=(picks N N).getD 0 []:=hI
    have q8:(0:Int)<((picks (N:Int) N).length:Int):=by omega
    refine WP.step ?_
    simp only[T37,Go,Ends',v37,Tr.sure,SS,hN,q1,Int.lt_irrefl,z6,q8,Int.toNat_zero]
    repeat' with_reducible first|intro _|apply And.intro
    all_goals first|exact q2|(simp[hI',Go,Ends',v37,-List.getD_eq_getElem?_getD, *];done)
  rw[e]
  refine w37 _ (WP.step ?_)
  simp only[T37,Go,Ends',v37,Tr.sure,SS,h]
  repeat' with_reducible first|intro _|apply And.intro
  all_goals first|exact k17|exact hmain
 ·have e:wrongR b=([],(bookCheck b).2.2):=by unfold wrongR;rw[if_pos h]
  rw[e]
  refine w37 _ (WP.step ?_)
  simp only[T37,Go,Ends',v37,Tr.sure,SS]
  repeat' with_reducible first|intro _|apply And.intro
  all_goals first|exact k17|(simp_all [h,Go,Ends',v37,-List.getD_eq_getElem?_getD];done)
end
noncomputable section
inductive P6
 |e
inductive R6
 |r0 (r0:Bool)
noncomputable def T6(b:Book):P6→Tr P6 R6
 |.e=>let c1:=(wrongR b).1;let c2:V:=.tuple [tint.lst c1,iI ((wrongR b).2)];(.call 36 [.agg (cC b)] c2 true true (.call 37 [.agg (cC b)] c2 true true (.call 24 [tint.lst c1,tint.lst c1] (.bool (sameI c1 c1)) true true (.br (sameI c1 c1) (.br ((wrongR b).2==(wrongR b).2) (.call 21 [] (.bool true) true true (.out (.r0 true))) (.out (.r0 false))) (.lit false (.out (.r0 false)))))))
noncomputable def g6(b:Book):P6→List Item × St
 |.e=>bd Tryz.f6 [.agg (cC b)] 27
noncomputable def n6:R6→Exit × St
 |.r0 r0=>(.ret,⟨mk 28 [(2,.bool r0)],[],[]⟩)
noncomputable def v6:R6→V
 |.r0 r0=>.bool r0
theorem s6(b:Book):Sm 0 (g6 b) (T6 b) (n6)
 |.e=>⟨400,by kernel_rfl⟩
theorem q6:∀r,bodyQ Tryz.prog Tryz.f6 (·=v6 r) (n6 r).1 (n6 r).2
 |.r0 r0=>bq (.bool r0) (by kernel_rfl)
theorem w6(b:Book){post:V→Prop}(h:WQ (T6 b) v6 post .e):PC 6 [.agg (cC b)] post:=
 PCalls.wq Tryz.func6 (s6 b) q6 h
theorem sameI_self(l:List Int):sameI l l=true:=by simp[sameI]
theorem c6(b:Book):PC 6 [.agg (tBook.cells b)] (·=.bool true):=by
 refine w6 b (WP.step ?_)
 simp only[T6,Go,Ends',v6,Tr.sure,SS]
 repeat' with_reducible first|intro _|apply And.intro
 all_goals first|exact(c36 b)|exact(c37 b)|exact(c24 _ _)|exact c21|(simp_all [sameI_self,Go,Ends',v6,-List.getD_eq_getElem?_getD];done)
end
end Go.Proofs.YtemgodefhcbleaaGreat
