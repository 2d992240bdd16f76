/-
  Part of the proof of HeadPlaces. Conditions: those that stand in each theorem.
-/
import Derived.Test.YtemgodefhcbleaaGreatChecked
import Derived.KernelRfl
import Derived.Laws.Strings
import Derived.Test.YtemgodefhcbleaaGreatB16
set_option linter.unusedSimpArgs false
set_option linter.unusedVariables false
set_option maxRecDepth 100000
namespace Ab
theorem any_of_firstI{τ:Type}{p:τ→Bool}{l:List τ}{i:Nat}:firstI p 0 l=some i→l.any p=true:=fun h=>by
 rw[←firstI_any p l 0,h];rfl
theorem any_of_none{τ:Type}{p:τ→Bool}{l:List τ}:firstI p 0 l=none→l.any p=false:=fun h=>by
 rw[←firstI_any p l 0,h];rfl
theorem flat_take{τ υ:Type}(f:τ→List υ)(d:τ)(l:List τ)(i:Nat)(hi:i<l.length):((l.take (i+1)).flatMap f).reverse=(f (l.getD i d)).reverse++((l.take i).flatMap f).reverse:=by
 rw[List.take_succ_eq_append_getElem hi,List.flatMap_append,List.reverse_append]
 simp[List.getD_eq_getElem?_getD,hi]
end Ab
namespace Go.Proofs.YtemgodefhcbleaaGreat
open Ab
def tTruth:Ty Truth:=⟨2,fun x=>[tPair.lst x.pairs,(tlist tint).lst x.haves],zTruth⟩
theorem z10:tTruth.zero=zTruth:=rfl
end Go.Proofs.YtemgodefhcbleaaGreat
namespace Ab
open Go
section
variable {P:Program} {ro:Env} {ops:Array Oper} {S:St} {i:Nat} {o:Oper}
theorem AStep.app0(hi:ops[i]? =some o)(hw:wantedV ops S o=some true){s x:Operand}{t e:TypeId}{wd k q:Nat}{c:Nat→Nat→V}{zs:List V}
  (hop:o.op=.call {callee:=.builtin .append,args:= #[s,x],argTypes:= #[t,t]}) (hsv:S.eval s=.nils) (hxv:S.eval x=.list wd k c) (hu:P.underlying t=some (.slice e)) (hz:zeroCs P e=some zs)
  (hc:decide (hasT P e=true∧szOf P e=wd∧0<wd∧zs.length=wd∧P.bytesOf e≤32768)=true) (hvd:S.h[q]? =some .void)
  (hk:k≤4294967296) (hsc:∀r,r<k→∀j,j<wd→(c r j).scalar=true):
  AStep P ro ops i S ({S with h:=S.h.set q (.rows e wd k c)}.put o.dst (.row q k)):=by
 obtain⟨hT,hsz,h0,hzl,hby⟩:=of_decide_eq_true hc
 refine AStep.of_val hi hw (fun c hcc=>by rw[hop]at hcc;cases hcc) fun β G K a w r=> ?_
 have hs:=r.eval s
 rw[hsv]at hs
 have hx:=r.eval x
 rw[hxv]at hx
 have hlt:q<β.length:=by rw[r.h.len];exact(List.getElem?_eq_some_iff.1 hvd).1
 generalize hsx:a.eval s=sv at hs
 cases hs with
 |nils=>
  rename_i a0
  obtain⟨v',w',r1,r2,r3,r5,r4⟩:=run_fresh (ty:=o.type) hu hT hsz h0 hz hzl hby r.h (a0:=a0) hx hk hsc
  have hrun:(execOp a.eval o).run P w=.ok (.value v') w':=by
   simp only[execOp,hop,resolve,Sem.run_bind,Sem.run_pure,Result.andThen_ok,invoke,builtin,List.map_toArray,List.map_cons,List.map_nil,hsx,r1]
  rcases r4 with⟨rfl,rfl,rfl⟩|⟨hpos,g,cap',cur,rfl,hge,hcur,hnc,hcm,hcsz,hrel⟩
  ·have hle:=le_set_void (x:=.nil) (r.h.void_home hvd)
   have q1:=r.refill hvd hle (r.h.fillNil hvd e c h0)
   exact⟨_,_,_,G,K,hrun,hle.low _,G.ext_refl K,K.le_refl,q1,.row0 (List.getElem?_set_self hlt)⟩
  ·have hle:=le_set_void (x:=.lie ⟨g,wd,cap'⟩) (r.h.void_home hvd)
   have hmn:k≤maxn:=by unfold maxn;omega
   have hg':g<w'.heap.size:=(Array.getElem?_eq_some_iff.1 hcur).1
   have q1:=r.refill hvd hle (r.h.fillG r2 r3 (k:=.rows e wd k c) (x:=⟨g,wd,cap'⟩) hvd hge hg' ⟨rfl,h0,hcm,cur,hcur,hcsz,hnc,hmn,hrel⟩ r5)
   exact⟨_,_,_,G,K,hrun,hle.low _,G.ext_refl K,K.le_refl,q1,.row (List.getElem?_set_self hlt) hnc (Nat.le_refl _) hmn⟩
end
end Ab
namespace Ab
open Go
theorem VLe.appS{τ:Type}(E:Ty τ)(L:List τ)(x:τ){n w:Nat}{cs:List V}(hc:cs=E.cells x)(hn:n=L.length)(hw:w=E.w:=by rfl):VLe (.list w (n+1) (appC n (rowsOf E L) (litC w 1 cs))) (E.lst (L++ [x])):=by
 subst hc;subst hn;subst hw
 show VLe _ (.list E.w (L++ [x]).length (rowsOf E (L++ [x])))
 rw[List.length_append,List.length_singleton]
 refine VLe.list fun r j hr hj=> ?_
 unfold appC
 by_cases h:r<L.length
 ·rw[if_pos h];simp only[rowsOf,List.getD_eq_getElem?_getD,List.getElem?_append_left h]
 ·have e:r=L.length:=by omega
  subst e
  rw[if_neg h,Nat.sub_self]
  simp only[rowsOf,List.getD_eq_getElem?_getD,List.getElem?_append_right (Nat.le_refl _),Nat.sub_self]
  rfl
end Ab
namespace Ab
open Go
section
variable {P:Program} {ro:Env} {ops:Array Oper} {i:Nat} {S S2:St}
theorem AStep.ap0(s x:Operand)(t e q wd k:Nat)(c:Nat→Nat→V)(zs:List V)(hk:k≤4294967296)(hsc:∀r,r<k→∀j,j<wd→(c r j).scalar=true)(hi:ops[i]? =some (ops.getD i default):=by kernel_rfl)(hw:wantedV ops S (ops.getD i default)=some true:=by kernel_rfl)
  (hop:(ops.getD i default).op=.call {callee:=.builtin .append,args:= #[s,x],argTypes:= #[t,t]}:=by kernel_rfl) (hsv:S.eval s=.nils:=by kernel_rfl) (hxv:S.eval x=.list wd k c:=by kernel_rfl) (hu:P.underlying t=some (.slice e):=by kernel_rfl) (hz:zeroCs P e=some zs:=by kernel_rfl)
  (hc:decide (hasT P e=true∧szOf P e=wd∧0<wd∧zs.length=wd∧P.bytesOf e≤32768)=true:=by kernel_rfl) (hvd:S.h[q]? =some .void:=by kernel_rfl)
  (h2:({S with h:=S.h.set q (.rows e wd k c)}.put (ops.getD i default).dst (.row q k))=S2:=by kernel_rfl):AStep P ro ops i S S2:=AStep.to (AStep.app0 hi hw hop hsv hxv hu hz hc hvd hk hsc) h2
end
end Ab
namespace Go.Proofs.YtemgodefhcbleaaGreat
open Ab Go
noncomputable section
inductive P44
 |e
 |l0 (x0_5:Int)
inductive R44
 |r0 (r0:Bool)
noncomputable def T44(p0:List Int)(p1:Int):P44→Tr P44 R44
 |.e=>(.go (.l0 0))
 |.l0 x0_5=>let c1:=x0_5<(p0.length:Int);(.br (decide c1) (.need (decide (0≤x0_5)&&decide c1) (.br ((p0.getD (x0_5).toNat tint.zero)==p1) (.out (.r0 true)) (.need (inR .i64 (x0_5+(1:Int))) (.go (.l0 (x0_5+(1:Int))))))) (.out (.r0 false)))
noncomputable def g44(p0:List Int)(p1:Int):P44→List Item × St
 |.e=>bd Tryz.f44 [tint.lst p0,iI p1] 16
 |.l0 x0_5=>(cutOf Tryz.f44 0,⟨mk 18 [(0,tint.lst p0),(1,iI p1),(4,.bool false),(5,iI x0_5)],[],[]⟩)
noncomputable def n44:R44→Exit × St
 |.r0 r0=>(.ret,⟨mk 18 [(4,.bool r0)],[],[]⟩)
noncomputable def v44:R44→V
 |.r0 r0=>.bool r0
theorem s44(p0:List Int)(p1:Int):Sm 0 (g44 p0 p1) (T44 p0 p1) (n44)
 |.e=>⟨400,by kernel_rfl⟩
 |.l0 _=>⟨400,by kernel_rfl⟩
theorem q44:∀r,bodyQ Tryz.prog Tryz.f44 (·=v44 r) (n44 r).1 (n44 r).2
 |.r0 r0=>bq (.bool r0) (by kernel_rfl)
theorem w44(p0:List Int)(p1:Int){post:V→Prop}(h:WQ (T44 p0 p1) v44 post .e):PC 44 [tint.lst p0,iI p1] post:=
 PCalls.wq Tryz.func44 (s44 p0 p1) q44 h
theorem e44:∀xs w,(callFunc 44 xs).run Tryz.prog w=.ok (.enter 44 xs) w:=PCalls.enters Tryz.func44 (c:=Tryz.f44.body.getD .skip) (by kernel_rfl) (by kernel_rfl)
theorem c44(l:List Int)(n:Int):PC 44 [tint.lst l,iI n] (·=.bool (hasN l n)):=by
 refine PCalls.assume e44 0 (by simp) .list fun hl=> ?_
 refine w44 _ _ (WP.step ?_)
 simp only[T44,Go,Ends',v44,Tr.sure,SS]
 repeat' with_reducible first|intro _|apply And.intro
 refine WP.findI (fun i=>.l0 i) rfl l 0 (·==n) (fun i hi=> ?_) fun hI=> ?_
 ·have hr:=inRi hi hl
  have ha:firstI (·==n) 0 l=some i→l.any (·==n)=true:=any_of_firstI
  refine WP.once ?_
  simp only[T44,Tr.sure,SS,hi,z1]
  repeat' with_reducible first|intro _|apply And.intro
  all_goals first|(simp[hr,hasN,Go,Ends',v44,-List.getD_eq_getElem?_getD, *];done)|(simp_all [hr,hasN,Go,Ends',v44,-List.getD_eq_getElem?_getD];done)
 ·have ha:=any_of_none hI
  refine WP.step ?_
  simp only[T44,Go,Ends',v44,Tr.sure,SS,Int.lt_irrefl]
  repeat' with_reducible first|intro _|apply And.intro
  all_goals simp[hasN,ha,Go,Ends',v44,-List.getD_eq_getElem?_getD, *]
end
noncomputable section
inductive P99
 |e
inductive R99
 |r0 (r0_0:Int) (r0_1:Int)
noncomputable def T99(n:Int)(m:Int):P99→Tr P99 R99
 |.e=>(.out (.r0 (min n m) (max n m)))
noncomputable def g99(n:Int)(m:Int):P99→List Item × St
 |.e=>bd Tryz.f99 [iI n,iI m] 10
noncomputable def n99:R99→Exit × St
 |.r0 r0_0 r0_1=>(.ret,⟨mk 12 [(4,.ref 0 0 0)],[.cells [iI r0_0,iI r0_1]],[]⟩)
noncomputable def v99:R99→V
 |.r0 r0_0 r0_1=>.agg [iI r0_0,iI r0_1]
theorem s99(n:Int)(m:Int):Sm 0 (g99 n m) (T99 n m) (n99)
 |.e=>⟨400,by kernel_rfl⟩
theorem q99:∀r,bodyQ Tryz.prog Tryz.f99 (·=v99 r) (n99 r).1 (n99 r).2
 |.r0 r0_0 r0_1=>bq (.agg [iI r0_0,iI r0_1]) (by kernel_rfl)
theorem w99(n:Int)(m:Int){post:V→Prop}(h:WQ (T99 n m) v99 post .e):PC 99 [iI n,iI m] post:=
 PCalls.wq Tryz.func99 (s99 n m) q99 h
theorem c99(n m:Int):PC 99 [iI n,iI m] (·=.agg (tPair.cells (pairR n m))):=by
 refine w99 _ _ (WP.step ?_)
 simp only[T99,Go,Ends',v99,Tr.sure,SS]
 repeat' with_reducible first|intro _|apply And.intro
 all_goals simp[pairR,tPair,Go,Ends',v99,-List.getD_eq_getElem?_getD, *]
inductive P100
 |e
inductive R100
 |r0 (r0:Bool)
noncomputable def T100(p:Pair)(q:Pair):P100→Tr P100 R100
 |.e=>(.br (decide (p.a<q.a)) (.lit true (.out (.r0 true))) (.br (p.a==q.a) (.lit false (.out (.r0 (decide (p.b<q.b))))) (.lit false (.out (.r0 false)))))
noncomputable def g100(p:Pair)(q:Pair):P100→List Item × St
 |.e=>bd Tryz.f100 [.agg [iI p.a,iI p.b],.agg [iI q.a,iI q.b]] 22
noncomputable def n100:R100→Exit × St
 |.r0 r0=>(.ret,⟨mk 24 [(4,.bool r0)],[],[]⟩)
noncomputable def v100:R100→V
 |.r0 r0=>.bool r0
theorem s100(p:Pair)(q:Pair):Sm 0 (g100 p q) (T100 p q) (n100)
 |.e=>⟨400,by kernel_rfl⟩
theorem q100:∀r,bodyQ Tryz.prog Tryz.f100 (·=v100 r) (n100 r).1 (n100 r).2
 |.r0 r0=>bq (.bool r0) (by kernel_rfl)
theorem w100(p:Pair)(q:Pair){post:V→Prop}(h:WQ (T100 p q) v100 post .e):PC 100 [.agg [iI p.a,iI p.b],.agg [iI q.a,iI q.b]] post:=
 PCalls.wq Tryz.func100 (s100 p q) q100 h
theorem c100(p q:Pair):PC 100 [.agg (tPair.cells p),.agg (tPair.cells q)] (·=.bool (beforeR p q)):=by
 refine w100 _ _ (WP.step ?_)
 simp only[T100,Go,Ends',v100,Tr.sure,SS]
 repeat' with_reducible first|intro _|apply And.intro
 all_goals simp[beforeR,Go,Ends',v100,-List.getD_eq_getElem?_getD, *]
theorem someAt_next(l:List Int)(i k:Nat)(h:i<k):someAt l i (k+1)=someAt l i k++ [⟨l.getD i 0,l.getD k 0⟩]:=by
 unfold someAt;rw[List.range_succ,List.drop_append_of_le_length (by rw[List.length_range];omega),List.map_append];rfl
theorem someAt_len(l:List Int)(i k:Nat):(someAt l i k).length≤k:=by unfold someAt;simp only[List.length_map,List.length_drop,List.length_range];omega
theorem someTo2_len(l:List Int)(h:l.length≤5):∀i,(someTo2 l i).length≤5*i
 |0=>by simp[someTo2]
 |i+1=>by
  rw[someTo2_next,List.length_append]
  have:=someTo2_len l h i
  have:=someAt_len l i l.length
  omega
inductive P56
 |e
 |l0 (x0_7:Int) (a0_1:List Pair)
 |l1 (x0_7:Int) (x1_8:Int) (a1_1:List Pair)
inductive R56
 |r0 (r0_0:Int) (r0_1:Int)
 |r1 (r0_0:Int) (r0_1:Int)
 |r2 (r0_0:Int) (r0_1:Int) (r0_2:Int) (r0_3:Int)
 |r3 (r0:List Pair)
noncomputable def T56(x:Line):P56→Tr P56 R56
 |.e=>let c1:=pairR x.a x.b;let c2:=pairR x.c x.d;let c3:List V:=[iI (c1.a),iI (c1.b)];(.br (x.kind==(0:Int)) (.call 99 [iI x.a,iI x.b] (.agg c3) true true (.out (.r0 (c1.a) (c1.b)))) (.br (x.kind==(1:Int)) (.front [(4,99,[iI x.a,iI x.b],.agg c3),(9,99,[iI x.c,iI x.d],.agg [iI (c2.a),iI (c2.b)])] [] true true (.br ((c1.a==c2.a)&&((c1.b==c2.b)&&true)) (.out (.r1 (c1.a) (c1.b))) (.call 100 [.agg [iI (c2.a),iI (c2.b)],.agg c3] (.bool (beforeR c2 c1)) true true (.br (beforeR c2 c1) (.out (.r2 (c2.a) (c2.b) (c1.a) (c1.b))) (.out (.r2 (c1.a) (c1.b) (c2.a) (c2.b))))))) (.br (x.kind==(2:Int)) (.wait 2 (.own 5 95 2 (.call 101 [iI x.set] (tint.lst (bitsR x.set)) true true (.go (.l0 0 ([])))))) (.out (.r0 0 0)))))
 |.l0 x0_7 a0_1=>(.br (decide (x0_7<(((bitsR x.set).length):Int))) (.need (inR .i64 (x0_7+(1:Int))) (.go (.l1 x0_7 (x0_7+(1:Int)) a0_1))) (.out (.r3 a0_1)))
 |.l1 x0_7 x1_8 a1_1=>let c1:=(((bitsR x.set).length):Int);(.br (decide (x1_8<c1)) (.front [] [] (((decide (0≤x0_7)&&decide (x0_7<c1))&&((decide (0≤x1_8)&&decide (x1_8<c1))&&true))&&true) true (.need ((decide (a1_1.length=a1_1.length)&&decide (a1_1.length+1≤4294967296))&&true) (.scal (fun _=>true) (.need (inR .i64 (x1_8+(1:Int))) (.go (.l1 x0_7 (x1_8+(1:Int)) ((⟨((bitsR x.set).getD (x0_7).toNat tint.zero),((bitsR x.set).getD (x1_8).toNat tint.zero)⟩:Pair)::a1_1))))))) (.need (inR .i64 (x0_7+(1:Int))) (.go (.l0 (x0_7+(1:Int)) a1_1))))
noncomputable def g56(x:Line):P56→List Item × St
 |.e=>bd Tryz.f56 [.agg [iI x.day,iI x.kind,iI x.a,iI x.b,iI x.c,iI x.d,iI x.set]] 78
 |.l0 x0_7 a0_1=>(cutOf Tryz.f56 0,⟨mk 79 [(5,.row 1 a0_1.length),(6,tint.lst (bitsR x.set)),(7,iI x0_7)],[.gone,.rows 95 2 a0_1.length (rowsRev tPair a0_1)],[]⟩)
 |.l1 x0_7 x1_8 a1_1=>(cutOf Tryz.f56 1,⟨mk 79 [(5,.row 1 a1_1.length),(6,tint.lst (bitsR x.set)),(7,iI x0_7),(8,iI x1_8)],[.gone,.rows 95 2 a1_1.length (rowsRev tPair a1_1)],[]⟩)
noncomputable def n56:R56→Exit × St
 |.r0 r0_0 r0_1=>(.ret,⟨mk 79 [(2,.row 1 1)],[.gone,.rows 95 2 1 (litC 2 1 [iI r0_0,iI r0_1])],[]⟩)
 |.r1 r0_0 r0_1=>(.ret,⟨mk 79 [(2,.row 3 1)],[.gone,.gone,.gone,.rows 95 2 1 (litC 2 1 [iI r0_0,iI r0_1])],[]⟩)
 |.r2 r0_0 r0_1 r0_2 r0_3=>(.ret,⟨mk 79 [(2,.row 3 2)],[.gone,.gone,.gone,.rows 95 2 2 (litC 2 2 [iI r0_0,iI r0_1,iI r0_2,iI r0_3])],[]⟩)
 |.r3 r0=>(.ret,⟨mk 79 [(2,.row 1 r0.length)],[.gone,.rows 95 2 r0.length (rowsRev tPair r0)],[]⟩)
noncomputable def v56:R56→V
 |.r0 r0_0 r0_1=>tPair.lst ([(⟨r0_0,r0_1⟩:Pair)]:List Pair)
 |.r1 r0_0 r0_1=>tPair.lst ([(⟨r0_0,r0_1⟩:Pair)]:List Pair)
 |.r2 r0_0 r0_1 r0_2 r0_3=>tPair.lst ([(⟨r0_0,r0_1⟩:Pair),(⟨r0_2,r0_3⟩:Pair)]:List Pair)
 |.r3 r0=>tPair.lst r0.reverse
theorem s56(x:Line):Sm 0 (g56 x) (T56 x) (n56)
 |.e=>⟨400,by kernel_rfl⟩
 |.l0 _ _=>⟨400,by kernel_rfl⟩
 |.l1 _ _ _=>⟨400,by kernel_rfl⟩
theorem q56:∀r,bodyQ Tryz.prog Tryz.f56 (·=v56 r) (n56 r).1 (n56 r).2
 |.r0 r0_0 r0_1=>⟨.inr rfl,by simp[n56],(.row 1 1),(tPair.lst ([(⟨r0_0,r0_1⟩:Pair)]:List Pair)),by kernel_rfl,(.weak (.row rfl (Nat.le_refl _)) (VLe.lit tPair _ rfl rfl (fun _=>rfl))),rfl⟩
 |.r1 r0_0 r0_1=>⟨.inr rfl,by simp[n56],(.row 3 1),(tPair.lst ([(⟨r0_0,r0_1⟩:Pair)]:List Pair)),by kernel_rfl,(.weak (.row rfl (Nat.le_refl _)) (VLe.lit tPair _ rfl rfl (fun _=>rfl))),rfl⟩
 |.r2 r0_0 r0_1 r0_2 r0_3=>⟨.inr rfl,by simp[n56],(.row 3 2),(tPair.lst ([(⟨r0_0,r0_1⟩:Pair),(⟨r0_2,r0_3⟩:Pair)]:List Pair)),by kernel_rfl,(.weak (.row rfl (Nat.le_refl _)) (VLe.lit tPair _ rfl rfl (fun _=>rfl))),rfl⟩
 |.r3 r0=>⟨.inr rfl,by simp[n56],(.row 1 r0.length),(tPair.lst r0.reverse),by kernel_rfl,(.weak (.row rfl (Nat.le_refl _)) (VLe.rev tPair r0)),rfl⟩
theorem w56(x:Line){post:V→Prop}(h:WQ (T56 x) v56 post .e):PC 56 [.agg [iI x.day,iI x.kind,iI x.a,iI x.b,iI x.c,iI x.d,iI x.set]] post:=
 PCalls.wq Tryz.func56 (s56 x) q56 h
theorem c56(x:Line):PC 56 [.agg (tLine.cells x)] (·=tPair.lst (pairsR x)):=by
 by_cases h0:x.kind=0
 ·have e:pairsR x=[pairR x.a x.b]:=by unfold pairsR;rw[if_pos h0]
  rw[e]
  refine w56 _ (WP.step ?_)
  simp only[T56,Go,Ends',v56,Tr.sure,SS]
  repeat' with_reducible first|intro _|apply And.intro
  all_goals first|exact c99 _ _|(simp_all [h0,Go,Ends',v56,-List.getD_eq_getElem?_getD];done)
 by_cases h1:x.kind=1
 ·have e:pairsR x=if pairR x.a x.b=pairR x.c x.d then[pairR x.a x.b]else if beforeR (pairR x.c x.d) (pairR x.a x.b)=true then[pairR x.c x.d,pairR x.a x.b]else[pairR x.a x.b,pairR x.c x.d]:=by unfold pairsR;rw[if_neg h0,if_pos h1]
  have k1:=c99 x.a x.b
  have k2:=c99 x.c x.d
  generalize hp:pairR x.a x.b=p at*
  generalize hq:pairR x.c x.d=q at*
  obtain⟨p1,p2⟩:=p
  obtain⟨q1,q2⟩:=q
  have hpe:((⟨p1,p2⟩:Pair)=⟨q1,q2⟩)↔(p1=q1∧p2=q2):=by simp
  have k3:=c100 ⟨q1,q2⟩ ⟨p1,p2⟩
  rw[e]
  simp only[hpe]
  refine w56 _ (WP.step ?_)
  simp only[T56,Go,Ends',v56,Tr.sure,SS,hp,hq]
  repeat' with_reducible first|intro _|apply And.intro
  all_goals first|exact k1|exact k2|exact k3|(simp[h0,h1,Go,Ends',v56,-List.getD_eq_getElem?_getD, *];done)|(simp_all [h0,h1,Go,Ends',v56,-List.getD_eq_getElem?_getD];done)|skip
  all_goals
   rename_i g1 g2
   have g:¬(p1=q1∧p2=q2):=fun h=>by rw[h.1,h.2]at g1;simp at g1
   rw[if_neg g];simp[g2]
 by_cases h2:x.kind=2
 ·have e:pairsR x=(someTo2 (bitsR x.set) (bitsR x.set).length):=by unfold pairsR;rw[if_neg h0,if_neg h1,if_pos h2];rfl
  rw[e]
  have hb:=bitsR_len x.set
  have k1:=c101 x.set
  refine w56 _ (WP.step ?_)
  simp only[T56,Go,Ends',v56,Tr.sure,SS]
  repeat' with_reducible first|intro _|apply And.intro
  all_goals first|exact k1|(simp_all [h0,h1,h2,Go,Ends',v56,-List.getD_eq_getElem?_getD];done)|skip
  generalize hl:bitsR x.set=l at*
  refine WP.run (fun i=>.l0 (i:Int) (someTo2 l i).reverse) rfl l.length (fun i hi=> ?_) ?_
  ·have hr:inR .i64 ((i:Int)+1)=true:=inR64 (by omega) (by omega)
   have hi':(i:Int)<l.length:=by omega
   have hl2:=someTo2_len l hb i
   refine WP.step ?_
   simp only[T56,Go,Ends',v56,Tr.sure,SS,hl,hi']
   repeat' with_reducible first|intro _|apply And.intro
   all_goals first|(simp[hr,Go,Ends',v56,-List.getD_eq_getElem?_getD, *];done)|skip
   refine WP.run (fun q=>.l1 (i:Int) ((i:Int)+1+(q:Int)) ((someAt l i (i+1+q)).reverse++(someTo2 l i).reverse)) (by simp[someAt]) (l.length-(i+1)) (fun q hq=> ?_) ?_
   ·have hr2:inR .i64 ((i:Int)+1+(q:Int)+1)=true:=inR64 (by omega) (by omega)
    have hq':(i:Int)+1+(q:Int)<l.length:=by omega
    have hq0:(0:Int)≤(i:Int)+1+(q:Int):=by omega
    have hqn:((i:Int)+1+(q:Int)).toNat=i+1+q:=by omega
    have hl3:=someAt_len l i (i+1+q)
    have hlen:((someAt l i (i+1+q)).reverse++(someTo2 l i).reverse).length+1≤4294967296:=by simp only[List.length_append,List.length_reverse];omega
    have hcast:(i:Int)+1+((q+1:Nat):Int)=(i:Int)+1+(q:Int)+1:=by omega
    have hnx:(someAt l i (i+1+(q+1))).reverse++(someTo2 l i).reverse=(⟨l.getD i 0,l.getD (i+1+q) 0⟩:Pair)::((someAt l i (i+1+q)).reverse++(someTo2 l i).reverse):=by
     rw[show i+1+(q+1)=i+1+q+1 by omega,someAt_next l i (i+1+q) (by omega),List.reverse_append];rfl
    rw[hcast,hnx]
    generalize(someAt l i (i+1+q)).reverse++(someTo2 l i).reverse=B at*
    refine WP.once ?_
    simp only[T56,Tr.sure,SS,hl,hi',hq',hq0,hqn,z1]
    repeat' with_reducible first|intro _|apply And.intro
    all_goals simp[hr2,hlen,Go,Ends',v56,-List.getD_eq_getElem?_getD, *]
   ·have hno:¬(i:Int)+1+((l.length-(i+1):Nat):Int)<l.length:=by omega
    have he:(someAt l i (i+1+(l.length-(i+1)))).reverse++(someTo2 l i).reverse=(someTo2 l (i+1)).reverse:=by rw[show i+1+(l.length-(i+1))=l.length by omega,someTo2_next,List.reverse_append]
    rw[he]
    refine WP.once ?_
    simp only[T56,Tr.sure,SS,hl,hno]
    repeat' with_reducible first|intro _|apply And.intro
    all_goals simp[hr,Go,Ends',v56,-List.getD_eq_getElem?_getD, *]
  ·refine WP.step ?_
   simp only[T56,Go,Ends',v56,Tr.sure,SS,hl,Int.lt_irrefl,List.reverse_reverse]
   repeat' with_reducible first|intro _|apply And.intro
 ·have e:pairsR x=[zPair]:=by unfold pairsR;rw[if_neg h0,if_neg h1,if_neg h2]
  rw[e]
  refine w56 _ (WP.step ?_)
  simp only[T56,Go,Ends',v56,Tr.sure,SS]
  repeat' with_reducible first|intro _|apply And.intro
  all_goals first|(simp[h0,h1,h2,zPair,Go,Ends',v56,-List.getD_eq_getElem?_getD, *];done)|(simp_all [h0,h1,h2,zPair,Go,Ends',v56,-List.getD_eq_getElem?_getD];done)
inductive P98
 |e
inductive R98
 |r0 (r0:List Int) (r1:Bool)
noncomputable def T98(hv:List Int)(x:Line)(p:Pair):P98→Tr P98 R98
 |.e=>let c2:=(0+hv.length)≤(0+hv.length);let c3:=hv.getD (p.b).toNat tint.zero;let c1:=(hv.set ((p.a).toNat) c3).set ((p.b).toNat) (hv.getD (p.a).toNat tint.zero);let c4:=([iI (hv.getD (p.a).toNat tint.zero)]:List V);let c5:V:=.list 1 (0+hv.length) (rowsOf tint c1);let c6:=((decide (0≤x.a)&&decide (x.a<(hv.length:Int)))&&true)&&true;let c7:=([iI c3]:List V);let c8:=rowsOf tint hv;let c9:=rowsOf tint (hv.set ((p.a).toNat) c3);let c10:=tint.lst c1;let c11:=hv.getD (x.a).toNat tint.zero;(.br (x.kind==(3:Int)) (.front [] [] c6 true (.out (.r0 hv (c11==x.b)))) (.br (x.kind==(4:Int)) (.front [] [] c6 true (.out (.r0 hv (c11 !=x.b)))) (.need ((decide (0=0)&&decide (0+hv.length≤4294967296))&&true) (.scal (fun r=>(List.range 1).all fun j=>(c8 r j).scalar) (.telb 2 1 (0+hv.length) (appC 0 (litC 1 0 []) c8) c8 (.front [] [] (((decide (0≤p.b)&&decide (p.b<(hv.length:Int)))&&true)&&true) true (.need ((decide (0≤p.a)&&decide (p.a<((0+hv.length):Int)))&&decide c2) (.need ((decide ((p.a).toNat<(0+hv.length))&&decide (0+c7.length≤1))&&underL 0 c7) (.telb 2 1 (0+hv.length) (fun r' j=>if r'=(p.a).toNat∧0≤j∧j<0+c7.length then c7.getD (j-0) uU else c8 r' j) c9 (.front [] [] (((decide (0≤p.a)&&decide (p.a<(hv.length:Int)))&&true)&&true) true (.need ((decide (0≤p.b)&&decide (p.b<((0+hv.length):Int)))&&decide c2) (.need ((decide ((p.b).toNat<(0+hv.length))&&decide (0+c4.length≤1))&&underL 0 c4) (.telb 2 1 (0+hv.length) (fun r' j=>if r'=(p.b).toNat∧0≤j∧j<0+c4.length then c4.getD (j-0) uU else c9 r' j) (rowsOf tint c1) (.wait 1 (.frz 2 ((decide c2)&&((decide c2)&&((decide c2)&&((decide c2)&&true)))) (.vle 8 c5 c10 (.vle 35 c5 c10 (.vle 36 c5 c10 (.vle 45 c5 c10 (.out (.r0 c1 true)))))))))))))))))))))
noncomputable def g98(hv:List Int)(x:Line)(p:Pair):P98→List Item × St
 |.e=>bd Tryz.f98 [tint.lst hv,.agg [iI x.day,iI x.kind,iI x.a,iI x.b,iI x.c,iI x.d,iI x.set],.agg [iI p.a,iI p.b]] 52
noncomputable def n98:R98→Exit × St
 |.r0 r0 r1=>(.ret,⟨mk 55 [(6,tint.lst r0),(7,.bool r1)],[],[]⟩)
noncomputable def v98:R98→V
 |.r0 r0 r1=>.tuple [tint.lst r0,.bool r1]
theorem s98(hv:List Int)(x:Line)(p:Pair):Sm 0 (g98 hv x p) (T98 hv x p) (n98)
 |.e=>⟨400,by kernel_rfl⟩
theorem q98:∀r,bodyQ Tryz.prog Tryz.f98 (·=v98 r) (n98 r).1 (n98 r).2
 |.r0 r0 r1=>bq (.tuple [tint.lst r0,.bool r1]) (by kernel_rfl)
theorem w98(hv:List Int)(x:Line)(p:Pair){post:V→Prop}(h:WQ (T98 hv x p) v98 post .e):PC 98 [tint.lst hv,.agg [iI x.day,iI x.kind,iI x.a,iI x.b,iI x.c,iI x.d,iI x.set],.agg [iI p.a,iI p.b]] post:=
 PCalls.wq Tryz.func98 (s98 hv x p) q98 h
theorem tel_setI(l:List Int)(i:Nat)(v:Int){n:Nat}(hn:n=l.length)(r j:Nat)(hr:r<n)(hj:j<1):
  VLe (if r=i∧0≤j∧j<0+([iI v]:List V).length then([iI v]:List V).getD (j-0) uU else rowsOf tint l r j) (rowsOf tint (l.set i v) r j):=tel_set tint l i v [iI v] rfl rfl hn r j hr hj
theorem lst0(l:List Int){n:Nat}(hn:n=l.length):VLe (.list 1 (0+n) (rowsOf tint l)) (tint.lst l):=by subst hn;rw[Nat.zero_add];exact VLe.refl _
theorem scal_int(l:List Int)(r:Nat):((List.range 1).all fun j=>(rowsOf tint l r j).scalar)=true:=rfl
theorem VLe.app0{c0 c:Nat→Nat→V}(r j:Nat):VLe (appC 0 c0 c r j) (c r j):=by
 have:appC 0 c0 c r j=c r j:=by unfold appC;simp
 rw[this];exact VLe.refl _
theorem c98(hv:List Int)(x:Line)(p:Pair)(h1:x.kind=3∨x.kind=4→0≤x.a∧x.a<hv.length)(h2:¬(x.kind=3∨x.kind=4)→(0≤p.a∧p.a<hv.length)∧0≤p.b∧p.b<hv.length)(hl:hv.length≤1000):
  PC 98 [tint.lst hv,.agg (tLine.cells x),.agg (tPair.cells p)] (·=.tuple [tint.lst (doneR hv x p).1,.bool (doneR hv x p).2]):=by
 by_cases g3:x.kind=3
 ·obtain⟨q1,q2⟩:=h1 (.inl g3)
  have e:doneR hv x p=(hv,hv.getD x.a.toNat 0==x.b):=by unfold doneR;rw[if_pos g3]
  rw[e]
  refine w98 _ _ _ (WP.step ?_)
  simp only[T98,Go,Ends',v98,Tr.sure,SS,z1]
  repeat' with_reducible first|intro _|apply And.intro
  all_goals first|(simp[g3,q1,q2,Go,Ends',v98,-List.getD_eq_getElem?_getD, *];done)|(simp_all [g3,q1,q2,Go,Ends',v98,-List.getD_eq_getElem?_getD];done)
 by_cases g4:x.kind=4
 ·obtain⟨q1,q2⟩:=h1 (.inr g4)
  have e:doneR hv x p=(hv,hv.getD x.a.toNat 0 !=x.b):=by unfold doneR;rw[if_neg g3,if_pos g4]
  rw[e]
  refine w98 _ _ _ (WP.step ?_)
  simp only[T98,Go,Ends',v98,Tr.sure,SS,z1]
  repeat' with_reducible first|intro _|apply And.intro
  all_goals first|(simp[g3,g4,q1,q2,Go,Ends',v98,-List.getD_eq_getElem?_getD, *];done)|(simp_all [g3,g4,q1,q2,Go,Ends',v98,-List.getD_eq_getElem?_getD];done)
 obtain⟨⟨q1,q2⟩,q3,q4⟩:=h2 (fun h=>by cases h<;>contradiction)
 have e:doneR hv x p=(swapR hv p,true):=by unfold doneR;rw[if_neg g3,if_neg g4]
 have q2':p.a.toNat<hv.length:=by omega
 have q4':p.b.toNat<hv.length:=by omega
 have q5:0+hv.length≤4294967296:=by omega
 rw[e]
 refine w98 _ _ _ (WP.step ?_)
 simp only[T98,Go,Ends',v98,Tr.sure,SS,z1]
 repeat' with_reducible first|intro _|apply And.intro
 all_goals first|exact(by with_reducible exact scal_int _ _)|exact(by with_reducible exact VLe.app0 _ _)|exact(by with_reducible exact tel_setI (n:=0+hv.length) _ _ _ (by simp) _ _ ‹_› ‹_›)|exact(by with_reducible exact lst0 _ (by simp))|exact rfl|(simp[g3,g4,q1,q2,q3,q4,q2',q4',q5,Go,Ends',v98,-List.getD_eq_getElem?_getD, *];done)|(simp_all [g3,g4,q1,q2,q3,q4,q2',q4',q5,Go,Ends',v98,-List.getD_eq_getElem?_getD];done)
end
noncomputable section
inductive P51
 |e
 |l0 (x0_6:Int) (a0_1:List Int)
 |l1 (x1_7:List Truth) (x1_8:Int)
 |l2 (x1_8:Int) (x2_7:List Truth) (x2_10:Int) (a2_1:List Truth)
 |l3 (x1_8:Int) (x2_7:List Truth) (x2_10:Int) (x3_13:Int) (a3_1:List Truth)
inductive R51
 |r0 (r0:List Truth)
noncomputable def T51(b:Book)(but:List Int):P51→Tr P51 R51
 |.e=>(.wait 4 (.own 5 3 1 (.go (.l0 0 ([])))))
 |.l0 x0_6 a0_1=>let c1:=([a0_1.reverse]:List (List Int));let c2:V:=.list 2 1 (litC 2 1 [.nils,(tlist tint).lst c1]);let c3:=(⟨[],c1⟩:Truth);let c4:=([c3]:List Truth);let c5:=decide (1≤1);(.br (decide (x0_6<(b.bodies.length:Int))) (.need ((decide (a0_1.length=a0_1.length)&&decide (a0_1.length+1≤4294967296))&&decide (1≤1)) (.scal (fun _=>true) (.need (inR .i64 (x0_6+(1:Int))) (.telb 2 1 1 (litC 1 1 [iI x0_6]) (rowsRev tint ([x0_6])) (.go (.l0 (x0_6+(1:Int)) (x0_6::a0_1))))))) (.wait 2 (.frz 1 ((decide (a0_1.length≤a0_1.length))&&true) (.vle 5 (.list 1 a0_1.length (rowsRev tint a0_1)) (tint.lst a0_1.reverse) (.wait 1 (.frz 2 (c5&&true) (.wait 0 (.vle 28 (.list 1 1 (litC 1 1 [tint.lst a0_1.reverse])) ((tlist tint).lst c1) (.wait 4 (.frz 3 (c5&&(c5&&true)) (.vle 7 c2 (tTruth.lst c4) (.vle 30 c2 (tTruth.lst c4) (.go (.l1 c4 0))))))))))))))
 |.l1 x1_7 x1_8=>(.br (decide (x1_8<(b.lines.length:Int))) (.wait 5 (.own 9 85 2 (.go (.l2 x1_8 x1_7 0 ([]))))) (.out (.r0 x1_7)))
 |.l2 x1_8 x2_7 x2_10 a2_1=>let c1:=b.lines.getD (x1_8).toNat tLine.zero;let c2:V:=.list 2 a2_1.length (rowsRev tTruth a2_1);let c3:=decide (a2_1.length≤a2_1.length);let c4:=tTruth.lst a2_1.reverse;let c5:=x2_10<(x2_7.length:Int);(.br (decide c5) (.need (decide (0≤x2_10)&&decide c5) (.need (decide (0≤x1_8)&&decide (x1_8<(((x2_7.getD (x2_10).toNat tTruth.zero).haves.length):Int))) (.need (decide (0≤x1_8)&&decide (x1_8<(b.lines.length:Int))) (.call 56 [.agg [iI (c1.day),iI (c1.kind),iI (c1.a),iI (c1.b),iI (c1.c),iI (c1.d),iI (c1.set)]] (tPair.lst (pairsR c1)) true true (.go (.l3 x1_8 x2_7 x2_10 0 a2_1)))))) (.need (inR .i64 (x1_8+(1:Int))) (.frz 1 (c3&&(c3&&(c3&&true))) (.vle 7 c2 c4 (.vle 9 c2 c4 (.vle 112 c2 c4 (.go (.l1 a2_1.reverse (x1_8+(1:Int))))))))))
 |.l3 x1_8 x2_7 x2_10 x3_13 a3_1=>let c2:=x2_7.getD (x2_10).toNat tTruth.zero;let c4:=b.lines.getD (x1_8).toNat tLine.zero;let c1:=(pairsR c4).getD (x3_13).toNat tPair.zero;let c5:List V:=[uU,.nil,.nil,uU,uU,uU,uU,.nil,.nil,.nil,.nil,.nil,.nil,.nil,.nil,uU,uU,uU,uU,uU,uU,uU,uU,uU,uU,uU,uU,uU,uU,uU,uU,uU,uU,uU,uU,uU,uU,uU,uU,uU,uU,uU,uU,uU,uU,uU,uU,uU,uU,uU,uU,uU,uU,uU,uU,uU,uU,uU,uU,uU,uU,uU,uU,uU,uU,uU,uU,uU,uU,uU,uU,uU,uU,uU,uU,uU,uU,uU,uU,uU,uU,uU,uU,uU,uU,uU,uU,uU,uU,uU,uU,uU,uU,uU,uU,uU,uU,uU,uU,uU,uU,uU,uU,uU,uU,uU,uU,uU,uU,uU,uU,uU,uU,uU];let c6:=(c2.pairs)++ [c1];let c8:=tlist tint;let c3:=(c2.haves).getD (x1_8).toNat c8.zero;let c7:=doneR c3 c4 c1;let c9:List V:=[iI (c1.a),iI (c1.b)];let c10:=x3_13+(1:Int);let c11:=(c2.haves)++ [c7.1];let c12:=a3_1.length+1;let c13:=(c2.haves)++ [c3];let c14:List Blk:=[.cells (cC b),.rows 85 2 a3_1.length (rowsRev tTruth a3_1)];let c15:Tr P51 R51:=.need (inR .i64 c10) (.go (.l3 x1_8 x2_7 x2_10 c10 a3_1));let c16:=x3_13<(((pairsR c4).length):Int);let c17:=(⟨c6,c13⟩:Truth)::a3_1;let c18:=(⟨c6,c11⟩:Truth)::a3_1;(.br (decide c16) (.front [(10,98,[tint.lst c3,.agg [iI (c4.day),iI (c4.kind),iI (c4.a),iI (c4.b),iI (c4.c),iI (c4.d),iI (c4.set)],.agg c9],.tuple [tint.lst (c7.1),.bool (c7.2)])] [] (((decide (0≤x1_8)&&decide (x1_8<(b.lines.length:Int)))&&((decide (0≤x3_13)&&decide c16)&&true))&&true) true (.call 44 [tint.lst but,iI x1_8] (.bool (hasN but x1_8)) true true (.br (hasN but x1_8) (.br (x3_13==(0:Int)) (.drop ⟨c5,[.void,.void],[]⟩ (.over (regionOf Tryz.f51 23) ⟨[uU,tint.lst but,.ref 0 0 0,uU,uU,uU,uU,tTruth.lst x2_7,iI x1_8,.row 1 a3_1.length,iI x2_10,tint.lst c3,tPair.lst (pairsR c4),iI x3_13,tint.lst c3,uU,uU,uU,uU,uU,uU,uU,uU,uU,uU,uU,uU,uU,uU,uU,uU,uU,uU,uU,uU,uU,uU,uU,uU,uU,uU,uU,uU,uU,uU,uU,uU,uU,uU,uU,uU,uU,uU,uU,uU,uU,uU,uU,uU,uU,uU,uU,uU,uU,uU,uU,uU,uU,uU,uU,uU,uU,uU,uU,uU,uU,uU,uU,uU,uU,uU,uU,uU,uU,uU,uU,uU,uU,uU,uU,uU,uU,uU,uU,uU,uU,uU,uU,uU,uU,uU,uU,uU,uU,uU,uU,uU,uU,uU,uU,uU,uU,uU,uU],c14,[]⟩ .normal ⟨[uU,tint.lst but,.ref 0 0 0,uU,uU,uU,uU,tTruth.lst x2_7,iI x1_8,.row 1 c12,iI x2_10,tint.lst c3,tPair.lst (pairsR c4),iI x3_13,tint.lst c3,uU,uU,uU,uU,uU,uU,uU,uU,uU,uU,uU,uU,uU,uU,uU,uU,uU,uU,uU,uU,uU,uU,uU,uU,uU,uU,uU,uU,uU,uU,uU,uU,uU,uU,uU,uU,uU,uU,uU,uU,uU,uU,uU,uU,uU,uU,uU,uU,uU,uU,uU,uU,uU,uU,uU,uU,uU,uU,uU,uU,uU,uU,uU,uU,uU,uU,uU,uU,uU,uU,uU,.nils,tTruth.lst x2_7,iI x2_10,.cref 2 fun q=>([tPair.lst (c2.pairs),c8.lst (c2.haves)]:List V).getD q uU,.cref 2 fun q=>([tPair.lst (c2.pairs),c8.lst (c2.haves)]:List V).getD q uU,tPair.lst (c2.pairs),uU,tPair.lst (pairsR c4),iI x3_13,.cref 2 fun q=>(c9:List V).getD q uU,.agg c9,.list 2 1 (litC 2 1 c9),tPair.lst c6,.nils,tTruth.lst x2_7,iI x2_10,.cref 2 fun q=>([tPair.lst (c2.pairs),c8.lst (c2.haves)]:List V).getD q uU,rR (c8.lst (c2.haves)),c8.lst (c2.haves),uU,tint.lst c3,.list 1 1 (litC 1 1 [tint.lst c3]),c8.lst c13,.agg [tPair.lst c6,c8.lst c13],.list 2 1 (litC 2 1 [tPair.lst c6,c8.lst c13]),.row 1 c12,uU,uU],[.cells (cC b),.rows 85 2 c12 (rowsRev tTruth c17),.gone,.gone],[]⟩ true (.need (inR .i64 c10) (.go (.l3 x1_8 x2_7 x2_10 c10 c17))))) c15) (.br (c7.2) (.drop ⟨c5,[.void,.void],[]⟩ (.over (regionOf Tryz.f51 23) ⟨[uU,tint.lst but,.ref 0 0 0,uU,uU,uU,uU,tTruth.lst x2_7,iI x1_8,.row 1 a3_1.length,iI x2_10,tint.lst c3,tPair.lst (pairsR c4),iI x3_13,tint.lst (c7.1),uU,uU,uU,uU,uU,uU,uU,uU,uU,uU,uU,uU,uU,uU,uU,uU,uU,uU,uU,uU,uU,uU,uU,uU,uU,uU,uU,uU,uU,uU,uU,uU,uU,uU,uU,uU,uU,uU,uU,uU,uU,uU,uU,uU,uU,uU,uU,uU,uU,uU,uU,uU,uU,uU,uU,uU,uU,uU,uU,uU,uU,uU,uU,uU,uU,uU,uU,uU,uU,uU,uU,uU,uU,uU,uU,uU,uU,uU,uU,uU,uU,uU,uU,uU,uU,uU,uU,uU,uU,uU,uU,uU,uU,uU,uU,uU,uU,uU,uU],c14,[]⟩ .normal ⟨[uU,tint.lst but,.ref 0 0 0,uU,uU,uU,uU,tTruth.lst x2_7,iI x1_8,.row 1 c12,iI x2_10,tint.lst c3,tPair.lst (pairsR c4),iI x3_13,tint.lst (c7.1),uU,uU,uU,uU,uU,uU,uU,uU,uU,uU,uU,uU,uU,uU,uU,uU,uU,uU,uU,uU,uU,uU,uU,uU,uU,uU,uU,uU,uU,uU,uU,uU,uU,uU,uU,uU,uU,uU,uU,uU,uU,uU,uU,uU,uU,uU,uU,uU,uU,uU,uU,uU,uU,uU,uU,uU,uU,uU,uU,uU,uU,uU,uU,uU,uU,uU,uU,uU,uU,uU,uU,.nils,tTruth.lst x2_7,iI x2_10,.cref 2 fun q=>([tPair.lst (c2.pairs),c8.lst (c2.haves)]:List V).getD q uU,.cref 2 fun q=>([tPair.lst (c2.pairs),c8.lst (c2.haves)]:List V).getD q uU,tPair.lst (c2.pairs),uU,tPair.lst (pairsR c4),iI x3_13,.cref 2 fun q=>(c9:List V).getD q uU,.agg c9,.list 2 1 (litC 2 1 c9),tPair.lst c6,.nils,tTruth.lst x2_7,iI x2_10,.cref 2 fun q=>([tPair.lst (c2.pairs),c8.lst (c2.haves)]:List V).getD q uU,rR (c8.lst (c2.haves)),c8.lst (c2.haves),uU,tint.lst (c7.1),.list 1 1 (litC 1 1 [tint.lst (c7.1)]),c8.lst c11,.agg [tPair.lst c6,c8.lst c11],.list 2 1 (litC 2 1 [tPair.lst c6,c8.lst c11]),.row 1 c12,uU,uU],[.cells (cC b),.rows 85 2 c12 (rowsRev tTruth c18),.gone,.gone],[]⟩ true (.need (inR .i64 c10) (.go (.l3 x1_8 x2_7 x2_10 c10 c18))))) c15)))) (.need (inR .i64 (x2_10+(1:Int))) (.go (.l2 x1_8 x2_7 (x2_10+(1:Int)) a3_1))))
noncomputable def g51(b:Book)(but:List Int):P51→List Item × St
 |.e=>bd Tryz.f51 [.agg (cC b),tint.lst but] 112
 |.l0 x0_6 a0_1=>(cutOf Tryz.f51 0,⟨mk 114 [(1,tint.lst but),(2,.ref 0 0 0),(5,.row 1 a0_1.length),(6,iI x0_6)],[.cells (cC b),.rows 3 1 a0_1.length (rowsRev tint a0_1)],[]⟩)
 |.l1 x1_7 x1_8=>(cutOf Tryz.f51 1,⟨mk 114 [(1,tint.lst but),(2,.ref 0 0 0),(7,tTruth.lst x1_7),(8,iI x1_8)],[.cells (cC b)],[]⟩)
 |.l2 x1_8 x2_7 x2_10 a2_1=>(cutOf Tryz.f51 2,⟨mk 114 [(1,tint.lst but),(2,.ref 0 0 0),(7,tTruth.lst x2_7),(8,iI x1_8),(9,.row 1 a2_1.length),(10,iI x2_10)],[.cells (cC b),.rows 85 2 a2_1.length (rowsRev tTruth a2_1)],[]⟩)
 |.l3 x1_8 x2_7 x2_10 x3_13 a3_1=>(cutOf Tryz.f51 3,⟨mk 114 [(1,tint.lst but),(2,.ref 0 0 0),(7,tTruth.lst x2_7),(8,iI x1_8),(9,.row 1 a3_1.length),(10,iI x2_10),(11,tint.lst (((x2_7.getD (x2_10).toNat tTruth.zero).haves).getD (x1_8).toNat (tlist tint).zero)),(12,tPair.lst (pairsR (b.lines.getD (x1_8).toNat tLine.zero))),(13,iI x3_13)],[.cells (cC b),.rows 85 2 a3_1.length (rowsRev tTruth a3_1)],[]⟩)
noncomputable def n51:R51→Exit × St
 |.r0 r0=>(.ret,⟨mk 114 [(4,tTruth.lst r0)],[],[]⟩)
noncomputable def v51:R51→V
 |.r0 r0=>tTruth.lst r0
theorem s51(b:Book)(but:List Int):Sm 0 (g51 b but) (T51 b but) (n51)
 |.e=>⟨400,by kernel_rfl⟩
 |.l0 _ _=>⟨400,by kernel_rfl⟩
 |.l1 _ _=>⟨400,by kernel_rfl⟩
 |.l2 _ _ _ _=>⟨400,by kernel_rfl⟩
 |.l3 _ _ _ _ _=>⟨400,by kernel_rfl⟩
theorem q51:∀r,bodyQ Tryz.prog Tryz.f51 (·=v51 r) (n51 r).1 (n51 r).2
 |.r0 r0=>bq (tTruth.lst r0) (by kernel_rfl)
theorem w51(b:Book)(but:List Int){post:V→Prop}(h:WQ (T51 b but) v51 post .e):PC 51 [.agg (cC b),tint.lst but] post:=
 PCalls.wq Tryz.func51 (s51 b but) q51 h
noncomputable def o51_23:Array Oper:=(regOf 23 (Tryz.f51.body.getD .skip)).getD #[]
@[reducible] noncomputable def st51_23 (b:Book) (but:List Int) (o:List Truth) (i:Int) (n:Int) (hv:List Int) (ps:List Pair) (m:Int) (af:List Int) (A:List Truth) (c:Nat→Bool):St:=⟨[uU,tint.lst but,.ref 0 0 0,uU,uU,uU,uU,tTruth.lst o,iI i,.row 1 A.length,iI n,tint.lst hv,tPair.lst ps,iI m,tint.lst af,uU,uU,uU,uU,uU,uU,uU,uU,uU,uU,uU,uU,uU,uU,uU,uU,uU,uU,uU,uU,uU,uU,uU,uU,uU,uU,uU,uU,uU,uU,uU,uU,uU,uU,uU,uU,uU,uU,uU,uU,uU,uU,uU,uU,uU,uU,uU,uU,uU,uU,uU,uU,uU,uU,uU,uU,uU,uU,uU,uU,uU,uU,uU,uU,uU,uU,uU,uU,uU,uU,(bif c 0 then .row 1 A.length else(uU)),(bif c 1 then .nils else(uU)),(bif c 2 then tTruth.lst o else(uU)),(bif c 3 then iI n else(uU)),(bif c 4 then .cref 2 fun q=>([tPair.lst ((o.getD (n).toNat tTruth.zero).pairs),(tlist tint).lst ((o.getD (n).toNat tTruth.zero).haves)]:List V).getD q uU else(uU)),(bif c 5 then .cref 2 fun q=>([tPair.lst ((o.getD (n).toNat tTruth.zero).pairs),(tlist tint).lst ((o.getD (n).toNat tTruth.zero).haves)]:List V).getD q uU else(uU)),(bif c 6 then tPair.lst ((o.getD (n).toNat tTruth.zero).pairs)else(uU)),(bif c 13 then uU else(bif c 7 then .row 2 ((o.getD (n).toNat tTruth.zero).pairs.length)else(uU))),(bif c 8 then tPair.lst ps else(uU)),(bif c 9 then iI m else(uU)),(bif c 10 then .cref 2 fun q=>([iI ((ps.getD (m).toNat tPair.zero).a),iI ((ps.getD (m).toNat tPair.zero).b)]:List V).getD q uU else(uU)),(bif c 11 then .agg [iI ((ps.getD (m).toNat tPair.zero).a),iI ((ps.getD (m).toNat tPair.zero).b)]else(uU)),(bif c 12 then .list 2 1 (litC 2 1 [iI ((ps.getD (m).toNat tPair.zero).a),iI ((ps.getD (m).toNat tPair.zero).b)])else(uU)),(bif c 24 then tPair.lst (((o.getD (n).toNat tTruth.zero).pairs)++ [(ps.getD (m).toNat tPair.zero)])else(bif c 13 then .row 2 ((o.getD (n).toNat tTruth.zero).pairs.length+1)else(uU))),(bif c 14 then .nils else(uU)),(bif c 15 then tTruth.lst o else(uU)),(bif c 16 then iI n else(uU)),(bif c 17 then .cref 2 fun q=>([tPair.lst ((o.getD (n).toNat tTruth.zero).pairs),(tlist tint).lst ((o.getD (n).toNat tTruth.zero).haves)]:List V).getD q uU else(uU)),(bif c 18 then rR ((tlist tint).lst ((o.getD (n).toNat tTruth.zero).haves))else(uU)),(bif c 19 then(tlist tint).lst ((o.getD (n).toNat tTruth.zero).haves)else(uU)),(bif c 23 then uU else(bif c 20 then .row 3 ((o.getD (n).toNat tTruth.zero).haves.length)else(uU))),(bif c 21 then tint.lst af else(uU)),(bif c 22 then .list 1 1 (litC 1 1 [tint.lst af])else(uU)),(bif c 24 then(tlist tint).lst (((o.getD (n).toNat tTruth.zero).haves)++ [af])else(bif c 23 then .row 3 ((o.getD (n).toNat tTruth.zero).haves.length+1)else(uU))),(bif c 24 then .agg [tPair.lst (((o.getD (n).toNat tTruth.zero).pairs)++ [(ps.getD (m).toNat tPair.zero)]),(tlist tint).lst (((o.getD (n).toNat tTruth.zero).haves)++ [af])]else(uU)),(bif c 25 then .list 2 1 (litC 2 1 [tPair.lst (((o.getD (n).toNat tTruth.zero).pairs)++ [(ps.getD (m).toNat tPair.zero)]),(tlist tint).lst (((o.getD (n).toNat tTruth.zero).haves)++ [af])])else(uU)),uU,uU,uU],[.cells (cC b),.rows 85 2 A.length (rowsRev tTruth A),(bif c 24 then .gone else(bif c 13 then .rows 95 2 ((o.getD (n).toNat tTruth.zero).pairs.length+1) (appC ((o.getD (n).toNat tTruth.zero).pairs.length) (rowsOf tPair ((o.getD (n).toNat tTruth.zero).pairs)) (litC 2 1 [iI ((ps.getD (m).toNat tPair.zero).a),iI ((ps.getD (m).toNat tPair.zero).b)]))else(bif c 7 then .rows 95 2 ((o.getD (n).toNat tTruth.zero).pairs.length) (rowsOf tPair ((o.getD (n).toNat tTruth.zero).pairs))else(.void)))),(bif c 24 then .gone else(bif c 23 then .rows 37 1 ((o.getD (n).toNat tTruth.zero).haves.length+1) (appC ((o.getD (n).toNat tTruth.zero).haves.length) (rowsOf (tlist tint) ((o.getD (n).toNat tTruth.zero).haves)) (litC 1 1 [tint.lst af]))else(bif c 20 then .rows 37 1 ((o.getD (n).toNat tTruth.zero).haves.length) (rowsOf (tlist tint) ((o.getD (n).toNat tTruth.zero).haves))else(.void))))],[]⟩
def t51_23:Tab:=[([],[1,2,3,4,5,6,7,8,9,10,11,12,13,14,15,16,17,18,19,20,21,22,23,24,25]),([],[0,2,3,4,5,6,8,9,10,11,12,14,15,16,17,18,19,21,22]),([],[0,1,3,8,9,10,11,12,14,15,16,17,18,19,21,22]),([],[0,1,2,8,9,10,11,12,14,15,16,17,18,19,21,22]),([2,3],[0,1,8,9,10,11,12,14,15,16,17,18,19,21,22]),([2,3,4],[0,1,8,9,10,11,12,14,15,16,17,18,19,21,22]),([2,3,4,5],[0,1,8,9,10,11,12,14,15,16,17,18,19,21,22]),([1,2,3,4,5,6],[0,8,9,10,11,12,14,15,16,17,18,19,21,22]),([],[0,1,2,3,4,5,6,7,9,14,15,16,17,18,19,21,22]),([],[0,1,2,3,4,5,6,7,8,14,15,16,17,18,19,21,22]),([8,9],[0,1,2,3,4,5,6,7,14,15,16,17,18,19,21,22]),([8,9,10],[0,1,2,3,4,5,6,7,14,15,16,17,18,19,21,22]),([8,9,10,11],[0,1,2,3,4,5,6,7,14,15,16,17,18,19,21,22]),([1,2,3,4,5,6,7,8,9,10,11,12],[0,14,15,16,17,18,19,21,22]),([],[0,1,2,3,4,5,6,7,8,9,10,11,12,13,15,16,17,18,19,21,22]),([],[0,1,2,3,4,5,6,7,8,9,10,11,12,13,14,16,21,22]),([],[0,1,2,3,4,5,6,7,8,9,10,11,12,13,14,15,21,22]),([15,16],[0,1,2,3,4,5,6,7,8,9,10,11,12,13,14,21,22]),([15,16,17],[0,1,2,3,4,5,6,7,8,9,10,11,12,13,14,21,22]),([15,16,17,18],[0,1,2,3,4,5,6,7,8,9,10,11,12,13,14,21,22]),([1,2,3,4,5,6,7,8,9,10,11,12,13,14,15,16,17,18,19],[0,21,22]),([],[0,1,2,3,4,5,6,7,8,9,10,11,12,13,14,15,16,17,18,19,20]),([21],[0,1,2,3,4,5,6,7,8,9,10,11,12,13,14,15,16,17,18,19,20]),([1,2,3,4,5,6,7,8,9,10,11,12,13,14,15,16,17,18,19,20,21,22],[0]),([1,2,3,4,5,6,7,8,9,10,11,12,13,14,15,16,17,18,19,20,21,22,23],[0]),([1,2,3,4,5,6,7,8,9,10,11,12,13,14,15,16,17,18,19,20,21,22,23,24],[0])]
theorem ov51_23(b:Book)(but:List Int)(o:List Truth)(i:Int)(n:Int)(hv:List Int)(ps:List Pair)(m:Int)(af:List Int)(A:List Truth)(h1:(decide (0≤n)&&decide (n<(o.length:Int)))=true)(h2:(decide (0≤m)&&decide (m<(ps.length:Int)))=true)(h3:(o.getD n.toNat tTruth.zero).pairs.length+1≤4294967296)(h4:(o.getD n.toNat tTruth.zero).haves.length+1≤4294967296)(h5:A.length+1≤4294967296):AWP Tryz.prog ⟨none,0⟩ (regionOf Tryz.f51 23) ⟨[uU,tint.lst but,.ref 0 0 0,uU,uU,uU,uU,tTruth.lst o,iI i,.row 1 A.length,iI n,tint.lst hv,tPair.lst ps,iI m,tint.lst af,uU,uU,uU,uU,uU,uU,uU,uU,uU,uU,uU,uU,uU,uU,uU,uU,uU,uU,uU,uU,uU,uU,uU,uU,uU,uU,uU,uU,uU,uU,uU,uU,uU,uU,uU,uU,uU,uU,uU,uU,uU,uU,uU,uU,uU,uU,uU,uU,uU,uU,uU,uU,uU,uU,uU,uU,uU,uU,uU,uU,uU,uU,uU,uU,uU,uU,uU,uU,uU,uU,uU,uU,uU,uU,uU,uU,uU,uU,uU,uU,uU,uU,uU,uU,uU,uU,uU,uU,uU,uU,uU,uU,uU,uU,uU,uU,uU,uU,uU],[.cells (cC b),.rows 85 2 A.length (rowsRev tTruth A)],[]⟩ (fun e T=>e=.normal∧T=⟨[uU,tint.lst but,.ref 0 0 0,uU,uU,uU,uU,tTruth.lst o,iI i,.row 1 (A.length+1),iI n,tint.lst hv,tPair.lst ps,iI m,tint.lst af,uU,uU,uU,uU,uU,uU,uU,uU,uU,uU,uU,uU,uU,uU,uU,uU,uU,uU,uU,uU,uU,uU,uU,uU,uU,uU,uU,uU,uU,uU,uU,uU,uU,uU,uU,uU,uU,uU,uU,uU,uU,uU,uU,uU,uU,uU,uU,uU,uU,uU,uU,uU,uU,uU,uU,uU,uU,uU,uU,uU,uU,uU,uU,uU,uU,uU,uU,uU,uU,uU,uU,.nils,tTruth.lst o,iI n,.cref 2 fun q=>([tPair.lst ((o.getD (n).toNat tTruth.zero).pairs),(tlist tint).lst ((o.getD (n).toNat tTruth.zero).haves)]:List V).getD q uU,.cref 2 fun q=>([tPair.lst ((o.getD (n).toNat tTruth.zero).pairs),(tlist tint).lst ((o.getD (n).toNat tTruth.zero).haves)]:List V).getD q uU,tPair.lst ((o.getD (n).toNat tTruth.zero).pairs),uU,tPair.lst ps,iI m,.cref 2 fun q=>([iI ((ps.getD (m).toNat tPair.zero).a),iI ((ps.getD (m).toNat tPair.zero).b)]:List V).getD q uU,.agg [iI ((ps.getD (m).toNat tPair.zero).a),iI ((ps.getD (m).toNat tPair.zero).b)],.list 2 1 (litC 2 1 [iI ((ps.getD (m).toNat tPair.zero).a),iI ((ps.getD (m).toNat tPair.zero).b)]),tPair.lst (((o.getD (n).toNat tTruth.zero).pairs)++ [(ps.getD (m).toNat tPair.zero)]),.nils,tTruth.lst o,iI n,.cref 2 fun q=>([tPair.lst ((o.getD (n).toNat tTruth.zero).pairs),(tlist tint).lst ((o.getD (n).toNat tTruth.zero).haves)]:List V).getD q uU,rR ((tlist tint).lst ((o.getD (n).toNat tTruth.zero).haves)),(tlist tint).lst ((o.getD (n).toNat tTruth.zero).haves),uU,tint.lst af,.list 1 1 (litC 1 1 [tint.lst af]),(tlist tint).lst (((o.getD (n).toNat tTruth.zero).haves)++ [af]),.agg [tPair.lst (((o.getD (n).toNat tTruth.zero).pairs)++ [(ps.getD (m).toNat tPair.zero)]),(tlist tint).lst (((o.getD (n).toNat tTruth.zero).haves)++ [af])],.list 2 1 (litC 2 1 [tPair.lst (((o.getD (n).toNat tTruth.zero).pairs)++ [(ps.getD (m).toNat tPair.zero)]),(tlist tint).lst (((o.getD (n).toNat tTruth.zero).haves)++ [af])]),.row 1 (A.length+1),uU,uU],[.cells (cC b),.rows 85 2 (A.length+1) (rowsRev tTruth ((⟨(((o.getD (n).toNat tTruth.zero).pairs)++ [(ps.getD (m).toNat tPair.zero)]),(((o.getD (n).toNat tTruth.zero).haves)++ [af])⟩:Truth)::A)),.gone,.gone],[]⟩):=by
 refine AWP.region_bits (ops:=o51_23) 26 2 t51_23 mx (st51_23 b but o i n hv ps m af A) (fun z_i z_h c=> ?_) ?_
 ·rcases show z_i=0∨z_i=1∨z_i=2∨z_i=3∨z_i=4∨z_i=5∨z_i=6∨z_i=7∨z_i=8∨z_i=9∨z_i=10∨z_i=11∨z_i=12∨z_i=13∨z_i=14∨z_i=15∨z_i=16∨z_i=17∨z_i=18∨z_i=19∨z_i=20∨z_i=21∨z_i=22∨z_i=23∨z_i=24∨z_i=25 by omega with rfl|rfl|rfl|rfl|rfl|rfl|rfl|rfl|rfl|rfl|rfl|rfl|rfl|rfl|rfl|rfl|rfl|rfl|rfl|rfl|rfl|rfl|rfl|rfl|rfl|rfl
  ·exact AStep.rd true (.row 1 A.length) rfl
  ·exact AStep.lt 30 95 0 #[] [iI 0,iI 0] []
  ·exact AStep.rd true (tTruth.lst o) rfl
  ·exact AStep.rd true (iI n) rfl
  ·refine AStep.rd ((decide (0≤n)&&decide (n<(o.length:Int)))) (.cref 2 fun q=>([tPair.lst ((o.getD (n).toNat tTruth.zero).pairs),(tlist tint).lst ((o.getD (n).toNat tTruth.zero).haves)]:List V).getD q uU) ?_
   first|assumption|rfl|(simp[*];done)|(simp;omega)|(simp only[Bool.and_eq_true,decide_eq_true_eq];omega)
  ·exact AStep.rd true (.cref 2 fun q=>([tPair.lst ((o.getD (n).toNat tTruth.zero).pairs),(tlist tint).lst ((o.getD (n).toNat tTruth.zero).haves)]:List V).getD q uU) rfl
  ·exact AStep.rd true (tPair.lst ((o.getD (n).toNat tTruth.zero).pairs)) rfl
  ·refine AStep.ap0 (.tmp 86) (.tmp 91) 30 95 2 2 ((o.getD (n).toNat tTruth.zero).pairs.length) (rowsOf tPair ((o.getD (n).toNat tTruth.zero).pairs)) [iI 0,iI 0] ?_ ?_
   ·first|omega|(simp;done)|(simp;omega)
   ·intro r hr j hj;first|(have hj0:j=0:=by omega;subst hj0;rfl)|(rcases show j=0∨j=1 by omega with rfl|rfl<;>rfl)
  ·exact AStep.rd true (tPair.lst ps) rfl
  ·exact AStep.rd true (iI m) rfl
  ·refine AStep.rd ((decide (0≤m)&&decide (m<(ps.length:Int)))) (.cref 2 fun q=>([iI ((ps.getD (m).toNat tPair.zero).a),iI ((ps.getD (m).toNat tPair.zero).b)]:List V).getD q uU) ?_
   first|assumption|rfl|(simp[*];done)|(simp;omega)|(simp only[Bool.and_eq_true,decide_eq_true_eq];omega)
  ·exact AStep.rd true (.agg [iI ((ps.getD (m).toNat tPair.zero).a),iI ((ps.getD (m).toNat tPair.zero).b)]) rfl
  ·exact AStep.lt 30 95 1 #[(0,.tmp 96)] [iI 0,iI 0] [iI ((ps.getD (m).toNat tPair.zero).a),iI ((ps.getD (m).toNat tPair.zero).b)]
  ·refine AStep.ap 30 (.tmp 92) (.tmp 97) 2 (.rows 95 2 ((o.getD (n).toNat tTruth.zero).pairs.length+1) (appC ((o.getD (n).toNat tTruth.zero).pairs.length) (rowsOf tPair ((o.getD (n).toNat tTruth.zero).pairs)) (litC 2 1 [iI ((ps.getD (m).toNat tPair.zero).a),iI ((ps.getD (m).toNat tPair.zero).b)]))) ((decide ((o.getD (n).toNat tTruth.zero).pairs.length=(o.getD (n).toNat tTruth.zero).pairs.length)&&decide ((o.getD (n).toNat tTruth.zero).pairs.length+1≤4294967296))&&true) (fun _=>true) (.row 2 ((o.getD (n).toNat tTruth.zero).pairs.length+1)) ?_ ?_ ?_
   ·first|(simp;done)|(simp;omega)|(simp[*];done)|(simp[-List.getD_eq_getElem?_getD];omega)
   ·intro r;rfl
   ·simp only[killS,List.map_cons,List.map_nil,killV_bif,killB_bif];kernel_rfl
  ·exact AStep.lt 61 37 0 #[] [.nils] []
  ·exact AStep.rd true (tTruth.lst o) rfl
  ·exact AStep.rd true (iI n) rfl
  ·refine AStep.rd ((decide (0≤n)&&decide (n<(o.length:Int)))) (.cref 2 fun q=>([tPair.lst ((o.getD (n).toNat tTruth.zero).pairs),(tlist tint).lst ((o.getD (n).toNat tTruth.zero).haves)]:List V).getD q uU) ?_
   first|assumption|rfl|(simp[*];done)|(simp;omega)|(simp only[Bool.and_eq_true,decide_eq_true_eq];omega)
  ·exact AStep.rd true (rR ((tlist tint).lst ((o.getD (n).toNat tTruth.zero).haves))) rfl
  ·exact AStep.rd true ((tlist tint).lst ((o.getD (n).toNat tTruth.zero).haves)) rfl
  ·refine AStep.ap0 (.tmp 99) (.tmp 104) 61 37 3 1 ((o.getD (n).toNat tTruth.zero).haves.length) (rowsOf (tlist tint) ((o.getD (n).toNat tTruth.zero).haves)) [.nils] ?_ ?_
   ·first|omega|(simp;done)|(simp;omega)
   ·intro r hr j hj;first|(have hj0:j=0:=by omega;subst hj0;rfl)|(rcases show j=0 by omega with rfl<;>rfl)
  ·exact AStep.rd true (tint.lst af) rfl
  ·exact AStep.lt 61 37 1 #[(0,.tmp 106)] [.nils] [tint.lst af]
  ·refine AStep.ap 61 (.tmp 105) (.tmp 107) 3 (.rows 37 1 ((o.getD (n).toNat tTruth.zero).haves.length+1) (appC ((o.getD (n).toNat tTruth.zero).haves.length) (rowsOf (tlist tint) ((o.getD (n).toNat tTruth.zero).haves)) (litC 1 1 [tint.lst af]))) ((decide ((o.getD (n).toNat tTruth.zero).haves.length=(o.getD (n).toNat tTruth.zero).haves.length)&&decide ((o.getD (n).toNat tTruth.zero).haves.length+1≤4294967296))&&true) (fun _=>true) (.row 3 ((o.getD (n).toNat tTruth.zero).haves.length+1)) ?_ ?_ ?_
   ·first|(simp;done)|(simp;omega)|(simp[*];done)|(simp[-List.getD_eq_getElem?_getD];omega)
   ·intro r;rfl
   ·simp only[killS,List.map_cons,List.map_nil,killV_bif,killB_bif];kernel_rfl
  ·rw[mkb_free t51_23 24 false c [0] rfl,mkb_free t51_23 24 true c [0] rfl]
   simp only[List.map_cons,List.map_nil]
   generalize c 0=c0
   cases c0
   ·refine AStep.tree (g:=(.wait 0 (.frz 2 ((decide (((o.getD (n).toNat tTruth.zero).pairs.length+1)≤((o.getD (n).toNat tTruth.zero).pairs.length+1)))&&true) (.wait 0 (.vle 98 (.list 2 ((o.getD (n).toNat tTruth.zero).pairs.length+1) (appC ((o.getD (n).toNat tTruth.zero).pairs.length) (rowsOf tPair ((o.getD (n).toNat tTruth.zero).pairs)) (litC 2 1 [iI ((ps.getD (m).toNat tPair.zero).a),iI ((ps.getD (m).toNat tPair.zero).b)]))) (tPair.lst (((o.getD (n).toNat tTruth.zero).pairs)++ [(ps.getD (m).toNat tPair.zero)])) (.wait 0 (.frz 3 ((decide (((o.getD (n).toNat tTruth.zero).haves.length+1)≤((o.getD (n).toNat tTruth.zero).haves.length+1)))&&true) (.wait 0 (.vle 108 (.list 1 ((o.getD (n).toNat tTruth.zero).haves.length+1) (appC ((o.getD (n).toNat tTruth.zero).haves.length) (rowsOf (tlist tint) ((o.getD (n).toNat tTruth.zero).haves)) (litC 1 1 [tint.lst af]))) ((tlist tint).lst (((o.getD (n).toNat tTruth.zero).haves)++ [af])) (.done .normal (st51_23 b but o i n hv ps m af A (mkb t51_23 24 true fun j=>([false]:List Bool).getD (([0]:List Nat).findIdx (Nat.beq j)) false)))))))))))) (by kernel_rfl) ?_
    simp only[DT.holds]
    have z_v:= @VLe.refl
    repeat' (first|exact rfl|refine And.intro ?_ ?_)
    all_goals first|(simp;done)|(exact VLe.appS _ _ _ (by kernel_rfl) (by first|rfl|(simp;done)))
   ·refine AStep.tree (g:=(.wait 0 (.frz 2 ((decide (((o.getD (n).toNat tTruth.zero).pairs.length+1)≤((o.getD (n).toNat tTruth.zero).pairs.length+1)))&&true) (.wait 0 (.vle 98 (.list 2 ((o.getD (n).toNat tTruth.zero).pairs.length+1) (appC ((o.getD (n).toNat tTruth.zero).pairs.length) (rowsOf tPair ((o.getD (n).toNat tTruth.zero).pairs)) (litC 2 1 [iI ((ps.getD (m).toNat tPair.zero).a),iI ((ps.getD (m).toNat tPair.zero).b)]))) (tPair.lst (((o.getD (n).toNat tTruth.zero).pairs)++ [(ps.getD (m).toNat tPair.zero)])) (.wait 0 (.frz 3 ((decide (((o.getD (n).toNat tTruth.zero).haves.length+1)≤((o.getD (n).toNat tTruth.zero).haves.length+1)))&&true) (.wait 0 (.vle 108 (.list 1 ((o.getD (n).toNat tTruth.zero).haves.length+1) (appC ((o.getD (n).toNat tTruth.zero).haves.length) (rowsOf (tlist tint) ((o.getD (n).toNat tTruth.zero).haves)) (litC 1 1 [tint.lst af]))) ((tlist tint).lst (((o.getD (n).toNat tTruth.zero).haves)++ [af])) (.done .normal (st51_23 b but o i n hv ps m af A (mkb t51_23 24 true fun j=>([true]:List Bool).getD (([0]:List Nat).findIdx (Nat.beq j)) false)))))))))))) (by kernel_rfl) ?_
    simp only[DT.holds]
    have z_v:= @VLe.refl
    repeat' (first|exact rfl|refine And.intro ?_ ?_)
    all_goals first|(simp;done)|(exact VLe.appS _ _ _ (by kernel_rfl) (by first|rfl|(simp;done)))
  ·exact AStep.lt 82 85 1 #[(0,.tmp 109)] [.nils,.nils] [tPair.lst (((o.getD (n).toNat tTruth.zero).pairs)++ [(ps.getD (m).toNat tPair.zero)]),(tlist tint).lst (((o.getD (n).toNat tTruth.zero).haves)++ [af])]
 ·refine AOps.tree (g:=(.need ((decide (A.length=A.length)&&decide (A.length+1≤4294967296))&&true) (.scal (fun _=>true) (.done .normal ⟨[uU,tint.lst but,.ref 0 0 0,uU,uU,uU,uU,tTruth.lst o,iI i,.row 1 (A.length+1),iI n,tint.lst hv,tPair.lst ps,iI m,tint.lst af,uU,uU,uU,uU,uU,uU,uU,uU,uU,uU,uU,uU,uU,uU,uU,uU,uU,uU,uU,uU,uU,uU,uU,uU,uU,uU,uU,uU,uU,uU,uU,uU,uU,uU,uU,uU,uU,uU,uU,uU,uU,uU,uU,uU,uU,uU,uU,uU,uU,uU,uU,uU,uU,uU,uU,uU,uU,uU,uU,uU,uU,uU,uU,uU,uU,uU,uU,uU,uU,uU,uU,.nils,tTruth.lst o,iI n,.cref 2 fun q=>([tPair.lst ((o.getD (n).toNat tTruth.zero).pairs),(tlist tint).lst ((o.getD (n).toNat tTruth.zero).haves)]:List V).getD q uU,.cref 2 fun q=>([tPair.lst ((o.getD (n).toNat tTruth.zero).pairs),(tlist tint).lst ((o.getD (n).toNat tTruth.zero).haves)]:List V).getD q uU,tPair.lst ((o.getD (n).toNat tTruth.zero).pairs),uU,tPair.lst ps,iI m,.cref 2 fun q=>([iI ((ps.getD (m).toNat tPair.zero).a),iI ((ps.getD (m).toNat tPair.zero).b)]:List V).getD q uU,.agg [iI ((ps.getD (m).toNat tPair.zero).a),iI ((ps.getD (m).toNat tPair.zero).b)],.list 2 1 (litC 2 1 [iI ((ps.getD (m).toNat tPair.zero).a),iI ((ps.getD (m).toNat tPair.zero).b)]),tPair.lst (((o.getD (n).toNat tTruth.zero).pairs)++ [(ps.getD (m).toNat tPair.zero)]),.nils,tTruth.lst o,iI n,.cref 2 fun q=>([tPair.lst ((o.getD (n).toNat tTruth.zero).pairs),(tlist tint).lst ((o.getD (n).toNat tTruth.zero).haves)]:List V).getD q uU,rR ((tlist tint).lst ((o.getD (n).toNat tTruth.zero).haves)),(tlist tint).lst ((o.getD (n).toNat tTruth.zero).haves),uU,tint.lst af,.list 1 1 (litC 1 1 [tint.lst af]),(tlist tint).lst (((o.getD (n).toNat tTruth.zero).haves)++ [af]),.agg [tPair.lst (((o.getD (n).toNat tTruth.zero).pairs)++ [(ps.getD (m).toNat tPair.zero)]),(tlist tint).lst (((o.getD (n).toNat tTruth.zero).haves)++ [af])],.list 2 1 (litC 2 1 [tPair.lst (((o.getD (n).toNat tTruth.zero).pairs)++ [(ps.getD (m).toNat tPair.zero)]),(tlist tint).lst (((o.getD (n).toNat tTruth.zero).haves)++ [af])]),.row 1 (A.length+1),uU,uU],[.cells (cC b),.rows 85 2 (A.length+1) (rowsRev tTruth ((⟨(((o.getD (n).toNat tTruth.zero).pairs)++ [(ps.getD (m).toNat tPair.zero)]),(((o.getD (n).toNat tTruth.zero).haves)++ [af])⟩:Truth)::A)),.gone,.gone],[]⟩)))) (by kernel_rfl) ?_
  simp only[DT.holds]
  repeat' (first|exact rfl|refine And.intro ?_ ?_)
  all_goals first|(simp;done)|(simp;omega)
theorem truthsTo_next(b:Book)(but:List Int)(i:Nat):truthsTo b but (i+1)=(truthsTo b but i).flatMap fun t=>stepTo b but i t (pairsR (b.lines.getD i zLine)).length:=rfl
def firstTo(i:Nat):List Int:=(List.range i).map fun(i:Nat)=>(i:Int)
theorem firstTo_next(i:Nat):(firstTo (i+1)).reverse=(i:Int)::(firstTo i).reverse:=by unfold firstTo;rw[List.range_succ];simp
theorem rev1(n:Int)(r j:Nat)(hr:r<1)(hj:j<1):VLe (litC 1 1 [iI n] r j) (rowsRev tint [n] r j):=by
 obtain rfl:r=0:=by omega
 obtain rfl:j=0:=by omega
 exact VLe.refl _
theorem lit1L(l:List Int):VLe (.list 1 1 (litC 1 1 [tint.lst l])) ((tlist tint).lst [l]):=VLe.lit (tlist tint) [l] rfl rfl (fun _=>rfl)
theorem litT(hs:List (List Int)):VLe (.list 2 1 (litC 2 1 [.nils,(tlist tint).lst hs])) (tTruth.lst [⟨[],hs⟩]):=fun G β x hx=>by
 cases hx with
 |list hG hs2 hc hn h=>
  refine .list hG hs2 hc hn fun i j hi hj=> ?_
  have q:=h i j hi hj
  have hi':i<1:=hi
  have hj':j<2:=hj
  obtain rfl:i=0:=by omega
  rcases show j=0∨j=1 by omega with rfl|rfl
  ·exact VLe.nils _ _ _ q
  ·exact q
theorem c51(b:Book)(but:List Int)(h:OkBook b):PC 51 [.agg (tBook.cells b),tint.lst but] (·=tTruth.lst (truthsR b but)):=by
 have hnb:=h.nb
 have hnl:=h.nl
 have hmain:WP Tryz.prog ⟨none,0⟩ (T51 b but) (Ends' fun r=>v51 r=tTruth.lst (truthsR b but)) (.l1 (truthsTo b but 0) 0):=by
  refine WP.run (fun i=>.l1 (truthsTo b but i) (i:Int)) rfl b.lines.length (fun i hi=> ?_) ?_
  ·have hr:inR .i64 ((i:Int)+1)=true:=inR64 (by omega) (by omega)
   have hi':(i:Int)<b.lines.length:=by omega
   have hok:=truthsTo_ok b but i
   have hsm:=truthsTo_small b but (i:=i) (by omega)
   have hln:=h.line hi
   rw[truthsTo_next]
   refine WP.step ?_
   simp only[T51,Go,Ends',v51,Tr.sure,SS,hi']
   repeat' with_reducible first|intro _|apply And.intro
   have hP:=pairs_len (b.lines.getD i zLine)
   have k56:=c56 (b.lines.getD i zLine)
   generalize hL:truthsTo b but i=L at*
   refine WP.run (fun k=>.l2 (i:Int) L (k:Int) ((L.take k).flatMap fun t=>stepTo b but i t (pairsR (b.lines.getD i zLine)).length).reverse) rfl L.length (fun k hk=> ?_) ?_
   ·have hr':inR .i64 ((k:Int)+1)=true:=inR64 (by omega) (by omega)
    have hk':(k:Int)<L.length:=by omega
    have hT:=hok _ (getD_mem zTruth L k hk)
    have hft:=flat_take (fun t=>stepTo b but i t (pairsR (b.lines.getD i zLine)).length) zTruth L k hk
    have hal:=flat_le (l:=L.take k) (f:=fun t=>stepTo b but i t (pairsR (b.lines.getD i zLine)).length) (b:=10) fun x _=>Nat.le_trans (stepTo_len b but i x _) hP
    simp only[List.length_take]at hal
    generalize hacc:((L.take k).flatMap fun t=>stepTo b but i t (pairsR (b.lines.getD i zLine)).length).reverse=acc at*
    have hacl:acc.length≤1000000000:=by rw[←hacc,List.length_reverse];omega
    generalize hX:L.getD k zTruth=X at*
    have hh1:(i:Int)<X.haves.length:=by rw[hT.nh];omega
    refine WP.step ?_
    simp only[T51,Go,Ends',v51,Tr.sure,SS,hk',hi',z5,z10,hX]
    repeat' with_reducible first|intro _|apply And.intro
    all_goals first|exact k56|(simp_all [hh1,Go,Ends',v51,-List.getD_eq_getElem?_getD];done)|skip
    have hhv:(X.haves.getD i []).length=b.bodies.length:=hT.have_ _ (getD_mem [] _ i (by rw[hT.nh];omega))
    have hxp:X.pairs.length+1≤4294967296:=by rw[hT.np];omega
    have hxh:X.haves.length+1≤4294967296:=by rw[hT.nh];omega
    refine WP.run (fun p=>.l3 (i:Int) L (k:Int) (p:Int) ((stepTo b but i X p).reverse++acc)) (by simp[stepTo]) (pairsR (b.lines.getD i zLine)).length (fun p hp=> ?_) ?_
    ·have hr2:inR .i64 ((p:Int)+1)=true:=inR64 (by omega) (by omega)
     have hp':(p:Int)<(pairsR (b.lines.getD i zLine)).length:=by omega
     have hsl:=stepTo_len b but i X p
     have hlen:((stepTo b but i X p).reverse++acc).length+1≤4294967296:=by simp only[List.length_append,List.length_reverse];omega
     have hpm:=getD_mem zPair _ p hp
     have k98:=c98 (X.haves.getD i []) (b.lines.getD i zLine) ((pairsR (b.lines.getD i zLine)).getD p zPair) (fun q=>by rw[hhv];exact(hln.ab (by omega)).1) (fun q=>by
      have hk0:=hln.kind
      have:=pairs_in hln hpm (by omega)
      rw[hhv];omega) (by omega)
     rw[stepTo_next,List.reverse_append,List.append_assoc]
     unfold waysR
     generalize hY:(pairsR (b.lines.getD i zLine)).getD p zPair=Y at*
     generalize(stepTo b but i X p).reverse++acc=B at*
     have kov:=fun(af:List Int)=>ov51_23 b but L (i:Int) (k:Int) (X.haves.getD i []) (pairsR (b.lines.getD i zLine)) (p:Int) af B (by rw[Bool.and_eq_true,decide_eq_true_eq,decide_eq_true_eq];omega) (by rw[Bool.and_eq_true,decide_eq_true_eq,decide_eq_true_eq];omega) (by rw[Int.toNat_natCast,z10,hX];exact hxp) (by rw[Int.toNat_natCast,z10,hX];exact hxh) hlen
     simp only[Int.toNat_natCast,z10,z8,hX,hY]at kov
     cases hb:hasN but (i:Int)with
     |true=>
      refine WP.once ?_
      simp only[T51,Tr.sure,SS,hp',hi',hk',z5,z10,z8,z6,hX,hY]
      repeat' with_reducible first|intro _|apply And.intro
      all_goals first|exact(c44 _ _)|exact k98|exact(kov _)|(simp[hr2,Go,Ends',v51,-List.getD_eq_getElem?_getD, *];done)|(simp_all [hr2,Go,Ends',v51,-List.getD_eq_getElem?_getD];done)
     |false=>
      refine WP.once ?_
      simp only[T51,Tr.sure,SS,hp',hi',hk',z5,z10,z8,z6,hX,hY]
      repeat' with_reducible first|intro _|apply And.intro
      all_goals first|exact(c44 _ _)|exact k98|exact(kov _)|(simp[hr2,Go,Ends',v51,-List.getD_eq_getElem?_getD, *];done)|(simp_all [hr2,Go,Ends',v51,-List.getD_eq_getElem?_getD];done)
    ·rw[hft]
     refine WP.once ?_
     simp only[T51,Tr.sure,SS,z5,Int.lt_irrefl]
     repeat' with_reducible first|intro _|apply And.intro
     all_goals simp[hr',Go,Ends',v51,-List.getD_eq_getElem?_getD, *]
   ·refine WP.once ?_
    simp only[T51,Tr.sure,SS,hL,Int.lt_irrefl]
    repeat' with_reducible first|intro _|apply And.intro
    all_goals first|exact VLe.rev tTruth _|(simp[hr,Go,Ends',v51,-List.getD_eq_getElem?_getD, *];done)
  ·refine WP.step ?_
   simp only[T51,Go,Ends',v51,Tr.sure,SS,Int.lt_irrefl]
   repeat' with_reducible first|intro _|apply And.intro
   all_goals simp[truthsR,Go,Ends',v51,-List.getD_eq_getElem?_getD, *]
 refine w51 b but (WP.step ?_)
 simp only[T51,Go,Ends',v51,Tr.sure,SS]
 repeat' with_reducible first|intro _|apply And.intro
 refine WP.run (fun i=>.l0 (i:Int) (firstTo i).reverse) rfl b.bodies.length (fun i hi=> ?_) ?_
 ·have hr:inR .i64 ((i:Int)+1)=true:=inR64 (by omega) (by omega)
  have hi':(i:Int)<b.bodies.length:=by omega
  have hl:(firstTo i).reverse.length+1≤4294967296:=by simp[firstTo];omega
  rw[firstTo_next]
  generalize(firstTo i).reverse=A at*
  refine WP.once ?_
  simp only[T51,Tr.sure,SS,hi']
  repeat' with_reducible first|intro _|apply And.intro
  all_goals first|exact(by with_reducible exact rev1 _ _ _ ‹_› ‹_›)|(simp[hr,hl,Go,Ends',v51,-List.getD_eq_getElem?_getD, *];done)
 have hm2:WP Tryz.prog ⟨none,0⟩ (T51 b but) (Ends' fun r=>v51 r=tTruth.lst (truthsR b but)) (.l1 [⟨[],[(firstTo b.bodies.length).reverse.reverse]⟩] 0):=by rw[List.reverse_reverse];exact hmain
 refine WP.step ?_
 simp only[T51,Go,Ends',v51,Tr.sure,SS,Int.lt_irrefl]
 repeat' with_reducible first|intro _|apply And.intro
 all_goals first|exact hm2|exact VLe.rev tint _|exact(by with_reducible exact litT _)|exact(by with_reducible exact lit1L _)|(simp[Go,Ends',v51,-List.getD_eq_getElem?_getD, *];done)
end
noncomputable section
def lineTo(b:Book)(day:Int)(i:Nat):Int:=natF (fun i n=>if(b.lines.getD i zLine).day≤day then(i:Int)+1 else n) 0 i
theorem lineTo_in(b:Book)(day:Int):∀i:Nat,0≤lineTo b day i∧lineTo b day i≤i
 |0=>⟨Int.le_refl _,Int.le_refl _⟩
 |i+1=>by
  have:=lineTo_in b day i
  have e:lineTo b day (i+1)=if(b.lines.getD i zLine).day≤day then(i:Int)+1 else lineTo b day i:=rfl
  rw[e];split<;>omega
structure TrueOf(b:Book)(t:Truth):Prop where
 np:t.pairs.length=b.lines.length
 nh:t.haves.length=b.lines.length+1
 perm:∀l∈t.haves,l.Perm (firstH b)
theorem trueOf{b:Book}(h:OkBook b){but:List Int}{t:Truth}(ht:t∈truthsR b but):TrueOf b t:=
 ⟨(truthsTo_ok b but _ t ht).np,(truthsTo_ok b but _ t ht).nh,truthsTo_perm h but _ (Nat.le_refl _) t ht⟩
theorem TrueOf.at_{b:Book}{t:Truth}(h:TrueOf b t)(day:Int):(atR b t day).Perm (firstH b):=by
 have h1:0≤lineN b day∧lineN b day≤b.lines.length:=lineTo_in b day b.lines.length
 exact h.perm _ (getD_mem [] _ _ (by rw[h.nh];omega))
theorem TrueOf.len{b:Book}{t:Truth}(h:TrueOf b t)(day:Int):(atR b t day).length=b.bodies.length:=by
 rw[(h.at_ day).length_eq];simp[firstH]
inductive P80
 |e
 |l0 (x0_7:Int) (x0_8:Int)
inductive R80
 |r0 (r0:List Int)
noncomputable def T80(b:Book)(t:Truth)(day:Int):P80→Tr P80 R80
 |.e=>(.go (.l0 0 0))
 |.l0 x0_7 x0_8=>let c1:=x0_8+(1:Int);let c2:=x0_8<(b.lines.length:Int);(.br (decide c2) (.need (decide (0≤x0_8)&&decide c2) (.br (decide ((b.lines.getD (x0_8).toNat tLine.zero).day≤day)) (.need (inR .i64 c1) (.need (inR .i64 c1) (.go (.l0 c1 c1)))) (.need (inR .i64 c1) (.go (.l0 x0_7 c1))))) (.need (decide (0≤x0_7)&&decide (x0_7<(t.haves.length:Int))) (.out (.r0 (t.haves.getD (x0_7).toNat (tlist tint).zero)))))
noncomputable def g80(b:Book)(t:Truth)(day:Int):P80→List Item × St
 |.e=>bd Tryz.f80 [.agg (cC b),.agg [tPair.lst t.pairs,(tlist tint).lst t.haves],iI day] 28
 |.l0 x0_7 x0_8=>(cutOf Tryz.f80 0,⟨mk 31 [(2,iI day),(3,.ref 0 0 0),(4,.ref 1 0 0),(7,iI x0_7),(8,iI x0_8)],[.cells (cC b),.cells [tPair.lst t.pairs,(tlist tint).lst t.haves]],[]⟩)
noncomputable def n80:R80→Exit × St
 |.r0 r0=>(.ret,⟨mk 31 [(6,tint.lst r0)],[],[]⟩)
noncomputable def v80:R80→V
 |.r0 r0=>tint.lst r0
theorem s80(b:Book)(t:Truth)(day:Int):Sm 0 (g80 b t day) (T80 b t day) (n80)
 |.e=>⟨400,by kernel_rfl⟩
 |.l0 _ _=>⟨400,by kernel_rfl⟩
theorem q80:∀r,bodyQ Tryz.prog Tryz.f80 (·=v80 r) (n80 r).1 (n80 r).2
 |.r0 r0=>bq (tint.lst r0) (by kernel_rfl)
theorem w80(b:Book)(t:Truth)(day:Int){post:V→Prop}(h:WQ (T80 b t day) v80 post .e):PC 80 [.agg (cC b),.agg [tPair.lst t.pairs,(tlist tint).lst t.haves],iI day] post:=
 PCalls.wq Tryz.func80 (s80 b t day) q80 h
theorem c80(b:Book)(t:Truth)(day:Int)(h:OkBook b)(ht:TrueOf b t):PC 80 [.agg (tBook.cells b),.agg (tTruth.cells t),iI day] (·=tint.lst (atR b t day)):=by
 have hnl:=h.nl
 have hnh:=ht.nh
 refine w80 _ _ _ (WP.step ?_)
 simp only[T80,Go,Ends',v80,Tr.sure,SS]
 repeat' with_reducible first|intro _|apply And.intro
 refine WP.run (fun i=>.l0 (lineTo b day i) (i:Int)) rfl b.lines.length (fun i hi=> ?_) ?_
 ·have hr:inR .i64 ((i:Int)+1)=true:=inR64 (by omega) (by omega)
  have hi':(i:Int)<b.lines.length:=by omega
  have e:lineTo b day (i+1)=if(b.lines.getD i zLine).day≤day then(i:Int)+1 else lineTo b day i:=rfl
  rw[e]
  by_cases hd:(b.lines.getD i zLine).day≤day
  ·rw[if_pos hd]
   refine WP.once ?_
   simp only[T80,Tr.sure,SS,hi',z5,hd]
   repeat' with_reducible first|intro _|apply And.intro
   all_goals simp[hr,Go,Ends',v80,-List.getD_eq_getElem?_getD, *]
  ·rw[if_neg hd]
   refine WP.once ?_
   simp only[T80,Tr.sure,SS,hi',z5,hd]
   repeat' with_reducible first|intro _|apply And.intro
   all_goals simp[hr,Go,Ends',v80,-List.getD_eq_getElem?_getD, *]
 ·have h1:=lineTo_in b day b.lines.length
  have h2:lineTo b day b.lines.length<t.haves.length:=by omega
  have h3:0≤lineTo b day b.lines.length:=h1.1
  have e:atR b t day=t.haves.getD (lineTo b day b.lines.length).toNat []:=rfl
  rw[e]
  refine WP.step ?_
  simp only[T80,Go,Ends',v80,Tr.sure,SS,Int.lt_irrefl,z6]
  repeat' with_reducible first|intro _|apply And.intro
  all_goals first|(simp[h3,h2,Go,Ends',v80,-List.getD_eq_getElem?_getD, *];done)|(simp_all [h3,h2,Go,Ends',v80,-List.getD_eq_getElem?_getD];done)
theorem c51n(b:Book)(h:OkBook b):PC 51 [.agg (tBook.cells b),.nils] (·=tTruth.lst (truthsR b [])):=PCalls.arg (pre:=[.agg (tBook.cells b)]) (c51 b [] h) VLe.nils
inductive P76
 |e
 |l0 (x0_10:Int) (x0_11:Int)
inductive R76
 |r0 (r1:Int)
 |r1 (r0:List Truth) (r1:Int)
noncomputable def T76(b:Book)(numbers:List Int)(day:Int):P76→Tr P76 R76
 |.e=>let c1:=bookCheck b;(.call 17 [.agg (cC b)] (.tuple [iI (c1.1),iI (c1.2.1),iI (c1.2.2)]) true true (.go (.l0 (c1.2.2) 0)))
 |.l0 x0_10 x0_11=>let c1:Tr P76 R76:=.call 51 [.agg (cC b),.nils] (tTruth.lst (truthsR b ([]))) true true (.br ((((truthsR b ([])).length):Int)==(0:Int)) (.out (.r0 8)) (.out (.r1 (truthsR b ([])) 0)));let c2:Tr P76 R76:=.br (x0_10==(0:Int)) (.call 108 [iI day,iI 0,iI 364] (.bool (within day 0 364)) true true (.br (!(within day 0 364)) (.br ((7:Int) !=(0:Int)) (.out (.r0 7)) c1) (.br (x0_10 !=(0:Int)) (.out (.r0 x0_10)) c1))) (.lit false (.br (x0_10 !=(0:Int)) (.out (.r0 x0_10)) c1));let c3:=numbers.getD (x0_11).toNat tint.zero;let c4:=x0_11+(1:Int);let c5:=x0_11<(numbers.length:Int);(.br (decide c5) (.br (x0_10==(0:Int)) (.front [] [] (((decide (0≤x0_11)&&decide c5)&&true)&&true) true (.call 112 [.agg (cC b),iI c3] (.bool (indexR b c3)) true true (.br (!(indexR b c3)) (.need (inR .i64 c4) (.go (.l0 4 c4))) (.need (inR .i64 c4) (.go (.l0 x0_10 c4)))))) c2) (.lit false c2))
noncomputable def g76(b:Book)(numbers:List Int)(day:Int):P76→List Item × St
 |.e=>bd Tryz.f76 [.agg (cC b),tint.lst numbers,iI day] 49
 |.l0 x0_10 x0_11=>(cutOf Tryz.f76 0,⟨mk 52 [(1,tint.lst numbers),(2,iI day),(3,.ref 0 0 0),(10,iI x0_10),(11,iI x0_11)],[.cells (cC b)],[]⟩)
noncomputable def n76:R76→Exit × St
 |.r0 r1=>(.ret,⟨mk 52 [(6,.nils),(7,iI r1)],[],[]⟩)
 |.r1 r0 r1=>(.ret,⟨mk 52 [(6,tTruth.lst r0),(7,iI r1)],[],[]⟩)
noncomputable def v76:R76→V
 |.r0 r1=>.tuple [tTruth.lst ([]:List Truth),iI r1]
 |.r1 r0 r1=>.tuple [tTruth.lst r0,iI r1]
theorem s76(b:Book)(numbers:List Int)(day:Int):Sm 0 (g76 b numbers day) (T76 b numbers day) (n76)
 |.e=>⟨400,by kernel_rfl⟩
 |.l0 _ _=>⟨400,by kernel_rfl⟩
theorem q76:∀r,bodyQ Tryz.prog Tryz.f76 (·=v76 r) (n76 r).1 (n76 r).2
 |.r0 r1=>⟨.inr rfl,by simp[n76],(.tuple [.nils,iI r1]),(.tuple [tTruth.lst ([]:List Truth),iI r1]),by kernel_rfl,(.tuple rfl fun j hj=>match j,hj with|0,_=>.weak (.imm rfl) VLe.nils|1,_=>.imm rfl),rfl⟩
 |.r1 r0 r1=>bq (.tuple [tTruth.lst r0,iI r1]) (by kernel_rfl)
theorem w76(b:Book)(numbers:List Int)(day:Int){post:V→Prop}(h:WQ (T76 b numbers day) v76 post .e):PC 76 [.agg (cC b),tint.lst numbers,iI day] post:=
 PCalls.wq Tryz.func76 (s76 b numbers day) q76 h
theorem e76:∀xs w,(callFunc 76 xs).run Tryz.prog w=.ok (.enter 76 xs) w:=PCalls.enters Tryz.func76 (c:=Tryz.f76.body.getD .skip) (by kernel_rfl) (by kernel_rfl)
theorem c76(b:Book)(numbers:List Int)(day:Int):PC 76 [.agg (tBook.cells b),tint.lst numbers,iI day] (·=.tuple [tTruth.lst (toldR b numbers day).1,iI (toldR b numbers day).2]):=by
 refine PCalls.assume e76 1 (by simp) .list fun hlen=> ?_
 by_cases h0:(bookCheck b).2.2=0
 ·have hok:=okBook h0
  have k51:=c51n b hok
  have hfin:∀i,(∀k,k<numbers.length→within (numbers.getD k 0) 0 ((b.bodies.length:Int)-1)=true)→i=(numbers.length:Int)→WP Tryz.prog ⟨none,0⟩ (T76 b numbers day) (Ends' fun r=>v76 r=.tuple [tTruth.lst (toldR b numbers day).1,iI (toldR b numbers day).2]) (.l0 0 i):=fun i hall hi=>by
   have hout:outside 0 ((b.bodies.length:Int)-1) numbers=false:=by
    rw[outside,List.any_eq_false]
    intro n hn
    obtain⟨k,hk,rfl⟩:=mem_getD 0 hn
    rw[hall k hk];decide
   have e:toldR b numbers day=if(if within day 0 364=true then(0:Int)else 7)≠0 then([],if within day 0 364=true then(0:Int)else 7)else if(truthsR b []).length=0 then([],8)else(truthsR b [],0):=by
    unfold toldR toldE;simp only[h0,hout,ne_eq,not_true_eq_false,if_false,Bool.false_eq_true]
   subst hi
   rw[e]
   have k108:=c108 day 0 364
   cases hw:within day 0 364 with
   |true=>
    rw[hw]at k108
    refine WP.step ?_
    simp only[T76,Go,Ends',v76,Tr.sure,SS,Int.lt_irrefl,hw]
    repeat' with_reducible first|intro _|apply And.intro
    all_goals first|exact k108|exact k51|(simp[hw,Go,Ends',v76,-List.getD_eq_getElem?_getD, *];done)
   |false=>
    rw[hw]at k108
    refine WP.step ?_
    simp only[T76,Go,Ends',v76,Tr.sure,SS,Int.lt_irrefl,hw]
    repeat' with_reducible first|intro _|apply And.intro
    all_goals first|exact k108|exact k51|(simp[hw,Go,Ends',v76,-List.getD_eq_getElem?_getD, *];done)
  have hbad:outside 0 ((b.bodies.length:Int)-1) numbers=true→∀i,WP Tryz.prog ⟨none,0⟩ (T76 b numbers day) (Ends' fun r=>v76 r=.tuple [tTruth.lst (toldR b numbers day).1,iI (toldR b numbers day).2]) (.l0 4 i):=fun hout i=>by
   have e:toldR b numbers day=([],4):=by
    have:toldE b numbers day=4:=by unfold toldE;simp only[h0,hout,ne_eq,not_true_eq_false,if_false,if_true]
    unfold toldR;rw[this];rfl
   rw[e]
   refine WP.step ?_
   simp only[T76,Go,Ends',v76,Tr.sure,SS]
   repeat' with_reducible first|intro _|apply And.intro
   all_goals first|exact k51|(simp[Go,Ends',v76,-List.getD_eq_getElem?_getD, *];done)|(simp_all [Go,Ends',v76,-List.getD_eq_getElem?_getD];done)
  have k17:=c17 b
  rw[h0]at k17
  refine w76 _ _ _ (WP.step ?_)
  simp only[T76,Go,Ends',v76,Tr.sure,SS,h0]
  repeat' with_reducible first|intro _|apply And.intro
  all_goals first|exact k17|skip
  refine WP.count (fun i=>.l0 0 (i:Int)) rfl numbers.length (fun i=>∀k,k<i→within (numbers.getD k 0) 0 ((b.bodies.length:Int)-1)=true) (fun k hk=>absurd hk (Nat.not_lt_zero _)) (fun i hi hI=> ?_) fun hI=>hfin _ hI rfl
  have hr:=inRi hi hlen
  have hi':(i:Int)<numbers.length:=by omega
  have k112:=c112 b (numbers.getD i 0) hok.nb
  have hix:indexR b (numbers.getD i 0)=within (numbers.getD i 0) 0 ((b.bodies.length:Int)-1):=rfl
  rw[hix]at k112
  cases hw:within (numbers.getD i 0) 0 ((b.bodies.length:Int)-1)with
  |true=>
   rw[hw]at hix k112
   have hI':∀k,k<i+1→within (numbers.getD k 0) 0 ((b.bodies.length:Int)-1)=true:=fun k hk=>by
    rcases Nat.lt_or_ge k i with q|q
    ·exact hI k q
    ·rw[show k=i by omega];exact hw
   refine WP.once ?_
   simp only[T76,Tr.sure,SS,hi',z1,hix]
   repeat' with_reducible first|intro _|apply And.intro
   all_goals first|exact k112|exact(Or.inl ⟨rfl,hI'⟩)|(simp[hr,Go,Ends',v76,-List.getD_eq_getElem?_getD, *];done)
  |false=>
   rw[hw]at hix k112
   have hout:outside 0 ((b.bodies.length:Int)-1) numbers=true:=by
    rw[outside,List.any_eq_true]
    exact⟨_,getD_mem 0 numbers i hi,by rw[hw];rfl⟩
   have hb:=hbad hout ((i:Int)+1)
   refine WP.once ?_
   simp only[T76,Tr.sure,SS,hi',z1,hix]
   repeat' with_reducible first|intro _|apply And.intro
   all_goals first|exact k112|exact(Or.inr hb)|(simp[hr,Go,Ends',v76,-List.getD_eq_getElem?_getD, *];done)
 ·have e:toldR b numbers day=([],(bookCheck b).2.2):=by
   have:toldE b numbers day=(bookCheck b).2.2:=by unfold toldE;rw[if_pos h0]
   unfold toldR;rw[this,if_pos h0]
  rw[e]
  have hst:WP Tryz.prog ⟨none,0⟩ (T76 b numbers day) (Ends' fun r=>v76 r=.tuple [tTruth.lst [],iI (bookCheck b).2.2]) (.l0 (bookCheck b).2.2 0):=by
   refine WP.step ?_
   simp only[T76,Go,Ends',v76,Tr.sure,SS]
   repeat' with_reducible first|intro _|apply And.intro
   all_goals first|(simp[h0,Go,Ends',v76,-List.getD_eq_getElem?_getD, *];done)|(simp_all [h0,Go,Ends',v76,-List.getD_eq_getElem?_getD];done)
  refine w76 _ _ _ (WP.step ?_)
  simp only[T76,Go,Ends',v76,Tr.sure,SS]
  repeat' with_reducible first|intro _|apply And.intro
  all_goals first|exact(c17 _)|exact hst
end
noncomputable section
theorem c76n(b:Book)(day:Int):PC 76 [.agg (tBook.cells b),.nils,iI day] (·=.tuple [tTruth.lst (toldR b [] day).1,iI (toldR b [] day).2]):=PCalls.arg (pre:=[.agg (tBook.cells b)]) (c76 b [] day) VLe.nils
end
noncomputable section
def filtTo(p:Nat→Bool)(i:Nat):List Int:=((List.range i).filter p).map fun(i:Nat)=>(i:Int)
theorem filtTo_next(p:Nat→Bool)(i:Nat):(filtTo p (i+1)).reverse=if p i=true then(i:Int)::(filtTo p i).reverse else(filtTo p i).reverse:=by
 unfold filtTo
 rw[List.range_succ,List.filter_append,List.map_append,List.reverse_append]
 by_cases h:p i=true
 ·simp[h]
 ·simp[h]
theorem filtTo_len(p:Nat→Bool)(i:Nat):(filtTo p i).length≤i:=by
 unfold filtTo
 have:=List.length_filter_le p (List.range i)
 simp only[List.length_map,List.length_range]at*;omega
theorem any_take{τ:Type}(d:τ)(p:τ→Bool)(l:List τ)(i:Nat)(hi:i<l.length):(l.take (i+1)).any p=((l.take i).any p||p (l.getD i d)):=by
 rw[take_snoc d l i hi,List.any_append];simp
theorem lit_int1(n:Int):VLe (.list 1 1 (litC 1 1 [iI n])) (tint.lst [n]):=VLe.lit tint [n] rfl rfl (fun _=>rfl)
inductive P23
 |e
 |l0 (x0_11:Int) (a0_2:List Int)
 |l1 (x0_11:Int) (a0_2:List Int) (x1_12:Bool) (x1_13:Int)
inductive R23
 |r0 (r1:Int)
 |r1 (r0:List Int) (r1:Int)
noncomputable def T23(b:Book)(head:Int)(day:Int):P23→Tr P23 R23
 |.e=>let c1:=toldR b ([head]:List Int) day;(.wait 4 (.frz 1 ((decide (1≤1))&&true) (.wait 0 (.vle 17 (.list 1 1 (litC 1 1 [iI head])) (tint.lst ([head]:List Int)) (.call 76 [.agg (cC b),tint.lst ([head]:List Int),iI day] (.tuple [tTruth.lst (c1.1),iI (c1.2)]) true true (.br (c1.2 !=(0:Int)) (.out (.r0 (c1.2))) (.wait 3 (.own 10 3 1 (.go (.l0 0 ([])))))))))))
 |.l0 x0_11 a0_2=>(.br (decide (x0_11<(b.bodies.length:Int))) (.go (.l1 x0_11 a0_2 false 0)) (.out (.r1 a0_2 0)))
 |.l1 x0_11 a0_2 x1_12 x1_13=>let c1:=((toldR b ([head]:List Int) day).1).getD (x1_13).toNat tTruth.zero;let c2:=x1_13<(((toldR b ([head]:List Int) day).1.length):Int);let c3:=x1_13+(1:Int);let c4:=x0_11+(1:Int);(.br (decide c2) (.br x1_12 (.front [] [(1,true)] (((x1_12==true)&&true)&&true) true (.need (inR .i64 c3) (.go (.l1 x0_11 a0_2 true c3)))) (.front [(8,80,[.agg (cC b),.agg [tPair.lst (c1.pairs),(tlist tint).lst (c1.haves)],iI day],tint.lst (atR b c1 day))] [(1,false)] (((x1_12==false)&&((decide (0≤x1_13)&&decide c2)&&((decide (0≤x0_11)&&decide (x0_11<(((atR b c1 day).length):Int)))&&true)))&&true) true (.need (inR .i64 c3) (.go (.l1 x0_11 a0_2 (((atR b c1 day).getD (x0_11).toNat tint.zero)==head) c3))))) (.br x1_12 (.need ((decide (a0_2.length=a0_2.length)&&decide (a0_2.length+1≤4294967296))&&decide (1≤1)) (.scal (fun _=>true) (.need (inR .i64 c4) (.go (.l0 c4 (x0_11::a0_2)))))) (.need (inR .i64 c4) (.go (.l0 c4 a0_2)))))
noncomputable def g23(b:Book)(head:Int)(day:Int):P23→List Item × St
 |.e=>bd Tryz.f23 [.agg (cC b),iI head,iI day] 56
 |.l0 x0_11 a0_2=>(cutOf Tryz.f23 0,⟨mk 59 [(1,iI head),(2,iI day),(3,.ref 0 0 0),(8,tTruth.lst ((toldR b ([head]:List Int) day).1)),(10,.row 2 a0_2.length),(11,iI x0_11)],[.cells (cC b),.gone,.rows 3 1 a0_2.length (rowsRev tint a0_2)],[]⟩)
 |.l1 x0_11 a0_2 x1_12 x1_13=>(cutOf Tryz.f23 1,⟨mk 59 [(1,iI head),(2,iI day),(3,.ref 0 0 0),(8,tTruth.lst ((toldR b ([head]:List Int) day).1)),(10,.row 2 a0_2.length),(11,iI x0_11),(12,.bool x1_12),(13,iI x1_13)],[.cells (cC b),.gone,.rows 3 1 a0_2.length (rowsRev tint a0_2)],[]⟩)
noncomputable def n23:R23→Exit × St
 |.r0 r1=>(.ret,⟨mk 59 [(6,.nils),(7,iI r1)],[],[]⟩)
 |.r1 r0 r1=>(.ret,⟨mk 59 [(6,.row 2 r0.length),(7,iI r1)],[.gone,.gone,.rows 3 1 r0.length (rowsRev tint r0)],[]⟩)
noncomputable def v23:R23→V
 |.r0 r1=>.tuple [tint.lst ([]:List Int),iI r1]
 |.r1 r0 r1=>.tuple [tint.lst r0.reverse,iI r1]
theorem s23(b:Book)(head:Int)(day:Int):Sm 0 (g23 b head day) (T23 b head day) (n23)
 |.e=>⟨400,by kernel_rfl⟩
 |.l0 _ _=>⟨400,by kernel_rfl⟩
 |.l1 _ _ _ _=>⟨400,by kernel_rfl⟩
theorem q23:∀r,bodyQ Tryz.prog Tryz.f23 (·=v23 r) (n23 r).1 (n23 r).2
 |.r0 r1=>⟨.inr rfl,by simp[n23],(.tuple [.nils,iI r1]),(.tuple [tint.lst ([]:List Int),iI r1]),by kernel_rfl,(.tuple rfl fun j hj=>match j,hj with|0,_=>.weak (.imm rfl) VLe.nils|1,_=>.imm rfl),rfl⟩
 |.r1 r0 r1=>⟨.inr rfl,by simp[n23],(.tuple [.row 2 r0.length,iI r1]),(.tuple [tint.lst r0.reverse,iI r1]),by kernel_rfl,(.tuple rfl fun j hj=>match j,hj with|0,_=>.weak (.row rfl (Nat.le_refl _)) (VLe.rev tint r0)|1,_=>.imm rfl),rfl⟩
theorem w23(b:Book)(head:Int)(day:Int){post:V→Prop}(h:WQ (T23 b head day) v23 post .e):PC 23 [.agg (cC b),iI head,iI day] post:=
 PCalls.wq Tryz.func23 (s23 b head day) q23 h
theorem c23(b:Book)(head day:Int):PC 23 [.agg (tBook.cells b),iI head,iI day] (·=.tuple [tint.lst (whereR b head day).1,iI (whereR b head day).2]):=by
 have k76:=c76 b [head] day
 by_cases h:(toldR b [head] day).2=0
 ·obtain⟨h1,h2,h3,h4,h5⟩:=told_ok h
  have e:whereR b head day=(filtTo (fun i=>anyT b day (truthsR b []) i head) b.bodies.length,0):=by unfold whereR;rw[if_neg (fun q=>q h)];rfl
  have hT:∀t∈truthsR b [],TrueOf b t:=fun t ht=>trueOf h1 ht
  have hlen:=truths_len8 h1 []
  have hnb:=h1.nb
  rw[h,h5]at k76
  generalize hL:truthsR b []=L at*
  have hmain:WP Tryz.prog ⟨none,0⟩ (T23 b head day) (Ends' fun r=>v23 r=.tuple [tint.lst (filtTo (fun i=>anyT b day L i head) b.bodies.length),iI 0]) (.l0 0 []):=by
   refine WP.run (fun i=>.l0 (i:Int) (filtTo (fun i=>anyT b day L i head) i).reverse) rfl b.bodies.length (fun i hi=> ?_) ?_
   ·have hr:inR .i64 ((i:Int)+1)=true:=inR64 (by omega) (by omega)
    have hi':(i:Int)<b.bodies.length:=by omega
    have hl:=filtTo_len (fun i=>anyT b day L i head) i
    have hl2:(filtTo (fun i=>anyT b day L i head) i).reverse.length+1≤4294967296:=by rw[List.length_reverse];omega
    have ea:anyT b day L i head=L.any fun t=>(atR b t day).getD i 0==head:=rfl
    rw[filtTo_next,ea]
    generalize(filtTo (fun i=>anyT b day L i head) i).reverse=acc at*
    refine WP.step ?_
    simp only[T23,Go,Ends',v23,Tr.sure,SS,hi']
    repeat' with_reducible first|intro _|apply And.intro
    refine WP.run (fun k=>.l1 (i:Int) acc ((L.take k).any fun t=>(atR b t day).getD i 0==head) (k:Int)) rfl L.length (fun k hk=> ?_) ?_
    ·have hr2:inR .i64 ((k:Int)+1)=true:=inR64 (by omega) (by omega)
     have hk':(k:Int)<L.length:=by omega
     have hTk:=hT _ (getD_mem zTruth L k hk)
     have k80:=c80 b (L.getD k zTruth) day h1 hTk
     have hat:(i:Int)<(atR b (L.getD k zTruth) day).length:=by rw[hTk.len];omega
     rw[any_take zTruth _ L k hk]
     generalize((L.take k).any fun t=>(atR b t day).getD i 0==head)=A at*
     cases A with
     |true=>
      refine WP.once ?_
      simp only[T23,Tr.sure,SS,hk',h5,z10,z1,hat]
      repeat' with_reducible first|intro _|apply And.intro
      all_goals simp[hr2,Go,Ends',v23,-List.getD_eq_getElem?_getD, *]
     |false=>
      refine WP.once ?_
      simp only[T23,Tr.sure,SS,hk',h5,z10,z1,hat]
      repeat' with_reducible first|intro _|apply And.intro
      all_goals first|exact k80|(simp[hr2,Go,Ends',v23,-List.getD_eq_getElem?_getD, *];done)
    ·rw[List.take_length]
     cases hA:(L.any fun t=>(atR b t day).getD i 0==head)with
     |true=>
      refine WP.once ?_
      simp only[T23,Tr.sure,SS,h5,Int.lt_irrefl]
      repeat' with_reducible first|intro _|apply And.intro
      all_goals simp[hr,hl2,Go,Ends',v23,-List.getD_eq_getElem?_getD, *]
     |false=>
      refine WP.once ?_
      simp only[T23,Tr.sure,SS,h5,Int.lt_irrefl]
      repeat' with_reducible first|intro _|apply And.intro
      all_goals simp[hr,hl2,Go,Ends',v23,-List.getD_eq_getElem?_getD, *]
   ·refine WP.step ?_
    simp only[T23,Go,Ends',v23,Tr.sure,SS,Int.lt_irrefl,List.reverse_reverse]
    repeat' with_reducible first|intro _|apply And.intro
  rw[e]
  refine w23 _ _ _ (WP.step ?_)
  simp only[T23,Go,Ends',v23,Tr.sure,SS,h,h5]
  repeat' with_reducible first|intro _|apply And.intro
  all_goals first|exact k76|exact hmain|exact(by with_reducible exact lit_int1 _)|(simp[h,Go,Ends',v23,-List.getD_eq_getElem?_getD, *];done)
 ·have e:whereR b head day=([],(toldR b [head] day).2):=by unfold whereR;rw[if_pos h]
  rw[e]
  refine w23 _ _ _ (WP.step ?_)
  simp only[T23,Go,Ends',v23,Tr.sure,SS]
  repeat' with_reducible first|intro _|apply And.intro
  all_goals first|exact k76|exact(by with_reducible exact lit_int1 _)|(simp[h,Go,Ends',v23,-List.getD_eq_getElem?_getD, *];done)|(simp_all [h,Go,Ends',v23,-List.getD_eq_getElem?_getD];done)
inductive P26
 |e
 |l0 (x0_11:Int) (a0_2:List Int)
 |l1 (x0_11:Int) (a0_2:List Int) (x1_12:Bool) (x1_13:Int)
inductive R26
 |r0 (r1:Int)
 |r1 (r0:List Int) (r1:Int)
noncomputable def T26(b:Book)(body:Int)(day:Int):P26→Tr P26 R26
 |.e=>let c1:=toldR b ([body]:List Int) day;(.wait 4 (.frz 1 ((decide (1≤1))&&true) (.wait 0 (.vle 17 (.list 1 1 (litC 1 1 [iI body])) (tint.lst ([body]:List Int)) (.call 76 [.agg (cC b),tint.lst ([body]:List Int),iI day] (.tuple [tTruth.lst (c1.1),iI (c1.2)]) true true (.br (c1.2 !=(0:Int)) (.out (.r0 (c1.2))) (.wait 3 (.own 10 3 1 (.go (.l0 0 ([])))))))))))
 |.l0 x0_11 a0_2=>(.br (decide (x0_11<(b.heads.length:Int))) (.go (.l1 x0_11 a0_2 false 0)) (.out (.r1 a0_2 0)))
 |.l1 x0_11 a0_2 x1_12 x1_13=>let c1:=((toldR b ([body]:List Int) day).1).getD (x1_13).toNat tTruth.zero;let c2:=x1_13<(((toldR b ([body]:List Int) day).1.length):Int);let c3:=x1_13+(1:Int);let c4:=x0_11+(1:Int);(.br (decide c2) (.br x1_12 (.front [] [(1,true)] (((x1_12==true)&&true)&&true) true (.need (inR .i64 c3) (.go (.l1 x0_11 a0_2 true c3)))) (.front [(8,80,[.agg (cC b),.agg [tPair.lst (c1.pairs),(tlist tint).lst (c1.haves)],iI day],tint.lst (atR b c1 day))] [(1,false)] (((x1_12==false)&&((decide (0≤x1_13)&&decide c2)&&((decide (0≤body)&&decide (body<(((atR b c1 day).length):Int)))&&true)))&&true) true (.need (inR .i64 c3) (.go (.l1 x0_11 a0_2 (((atR b c1 day).getD (body).toNat tint.zero)==x0_11) c3))))) (.br x1_12 (.need ((decide (a0_2.length=a0_2.length)&&decide (a0_2.length+1≤4294967296))&&decide (1≤1)) (.scal (fun _=>true) (.need (inR .i64 c4) (.go (.l0 c4 (x0_11::a0_2)))))) (.need (inR .i64 c4) (.go (.l0 c4 a0_2)))))
noncomputable def g26(b:Book)(body:Int)(day:Int):P26→List Item × St
 |.e=>bd Tryz.f26 [.agg (cC b),iI body,iI day] 56
 |.l0 x0_11 a0_2=>(cutOf Tryz.f26 0,⟨mk 59 [(1,iI body),(2,iI day),(3,.ref 0 0 0),(8,tTruth.lst ((toldR b ([body]:List Int) day).1)),(10,.row 2 a0_2.length),(11,iI x0_11)],[.cells (cC b),.gone,.rows 3 1 a0_2.length (rowsRev tint a0_2)],[]⟩)
 |.l1 x0_11 a0_2 x1_12 x1_13=>(cutOf Tryz.f26 1,⟨mk 59 [(1,iI body),(2,iI day),(3,.ref 0 0 0),(8,tTruth.lst ((toldR b ([body]:List Int) day).1)),(10,.row 2 a0_2.length),(11,iI x0_11),(12,.bool x1_12),(13,iI x1_13)],[.cells (cC b),.gone,.rows 3 1 a0_2.length (rowsRev tint a0_2)],[]⟩)
noncomputable def n26:R26→Exit × St
 |.r0 r1=>(.ret,⟨mk 59 [(6,.nils),(7,iI r1)],[],[]⟩)
 |.r1 r0 r1=>(.ret,⟨mk 59 [(6,.row 2 r0.length),(7,iI r1)],[.gone,.gone,.rows 3 1 r0.length (rowsRev tint r0)],[]⟩)
noncomputable def v26:R26→V
 |.r0 r1=>.tuple [tint.lst ([]:List Int),iI r1]
 |.r1 r0 r1=>.tuple [tint.lst r0.reverse,iI r1]
theorem s26(b:Book)(body:Int)(day:Int):Sm 0 (g26 b body day) (T26 b body day) (n26)
 |.e=>⟨400,by kernel_rfl⟩
 |.l0 _ _=>⟨400,by kernel_rfl⟩
 |.l1 _ _ _ _=>⟨400,by kernel_rfl⟩
theorem q26:∀r,bodyQ Tryz.prog Tryz.f26 (·=v26 r) (n26 r).1 (n26 r).2
 |.r0 r1=>⟨.inr rfl,by simp[n26],(.tuple [.nils,iI r1]),(.tuple [tint.lst ([]:List Int),iI r1]),by kernel_rfl,(.tuple rfl fun j hj=>match j,hj with|0,_=>.weak (.imm rfl) VLe.nils|1,_=>.imm rfl),rfl⟩
 |.r1 r0 r1=>⟨.inr rfl,by simp[n26],(.tuple [.row 2 r0.length,iI r1]),(.tuple [tint.lst r0.reverse,iI r1]),by kernel_rfl,(.tuple rfl fun j hj=>match j,hj with|0,_=>.weak (.row rfl (Nat.le_refl _)) (VLe.rev tint r0)|1,_=>.imm rfl),rfl⟩
theorem w26(b:Book)(body:Int)(day:Int){post:V→Prop}(h:WQ (T26 b body day) v26 post .e):PC 26 [.agg (cC b),iI body,iI day] post:=
 PCalls.wq Tryz.func26 (s26 b body day) q26 h
theorem c26(b:Book)(body day:Int):PC 26 [.agg (tBook.cells b),iI body,iI day] (·=.tuple [tint.lst (onR b body day).1,iI (onR b body day).2]):=by
 have k76:=c76 b [body] day
 by_cases h:(toldR b [body] day).2=0
 ·obtain⟨h1,h2,h3,h4,h5⟩:=told_ok h
  have e:onR b body day=(filtTo (fun h=>anyT b day (truthsR b []) body.toNat (h:Int)) b.heads.length,0):=by unfold onR;rw[if_neg (fun q=>q h)];rfl
  have hT:∀t∈truthsR b [],TrueOf b t:=fun t ht=>trueOf h1 ht
  have hlen:=truths_len8 h1 []
  have hnb:=h1.nb
  have hnh:=h1.nh
  have hbd:=h2 body (by simp)
  have hbd0:=hbd.1
  rw[h,h5]at k76
  generalize hL:truthsR b []=L at*
  have hmain:WP Tryz.prog ⟨none,0⟩ (T26 b body day) (Ends' fun r=>v26 r=.tuple [tint.lst (filtTo (fun h=>anyT b day L body.toNat (h:Int)) b.heads.length),iI 0]) (.l0 0 []):=by
   refine WP.run (fun i=>.l0 (i:Int) (filtTo (fun h=>anyT b day L body.toNat (h:Int)) i).reverse) rfl b.heads.length (fun i hi=> ?_) ?_
   ·have hr:inR .i64 ((i:Int)+1)=true:=inR64 (by omega) (by omega)
    have hi':(i:Int)<b.heads.length:=by omega
    have hl:=filtTo_len (fun h=>anyT b day L body.toNat (h:Int)) i
    have hl2:(filtTo (fun h=>anyT b day L body.toNat (h:Int)) i).reverse.length+1≤4294967296:=by rw[List.length_reverse];omega
    have ea:anyT b day L body.toNat (i:Int)=L.any fun t=>(atR b t day).getD body.toNat 0==(i:Int):=rfl
    rw[filtTo_next,ea]
    generalize(filtTo (fun h=>anyT b day L body.toNat (h:Int)) i).reverse=acc at*
    refine WP.step ?_
    simp only[T26,Go,Ends',v26,Tr.sure,SS,hi']
    repeat' with_reducible first|intro _|apply And.intro
    refine WP.run (fun k=>.l1 (i:Int) acc ((L.take k).any fun t=>(atR b t day).getD body.toNat 0==(i:Int)) (k:Int)) rfl L.length (fun k hk=> ?_) ?_
    ·have hr2:inR .i64 ((k:Int)+1)=true:=inR64 (by omega) (by omega)
     have hk':(k:Int)<L.length:=by omega
     have hTk:=hT _ (getD_mem zTruth L k hk)
     have k80:=c80 b (L.getD k zTruth) day h1 hTk
     have hat:body<(atR b (L.getD k zTruth) day).length:=by rw[hTk.len];omega
     rw[any_take zTruth _ L k hk]
     generalize((L.take k).any fun t=>(atR b t day).getD body.toNat 0==(i:Int))=A at*
     cases A with
     |true=>
      refine WP.once ?_
      simp only[T26,Tr.sure,SS,hk',h5,z10,z1,hat,hbd0]
      repeat' with_reducible first|intro _|apply And.intro
      all_goals simp[hr2,Go,Ends',v26,-List.getD_eq_getElem?_getD, *]
     |false=>
      refine WP.once ?_
      simp only[T26,Tr.sure,SS,hk',h5,z10,z1,hat,hbd0]
      repeat' with_reducible first|intro _|apply And.intro
      all_goals first|exact k80|(simp[hr2,Go,Ends',v26,-List.getD_eq_getElem?_getD, *];done)
    ·rw[List.take_length]
     cases hA:(L.any fun t=>(atR b t day).getD body.toNat 0==(i:Int))with
     |true=>
      refine WP.once ?_
      simp only[T26,Tr.sure,SS,h5,Int.lt_irrefl]
      repeat' with_reducible first|intro _|apply And.intro
      all_goals simp[hr,hl2,Go,Ends',v26,-List.getD_eq_getElem?_getD, *]
     |false=>
      refine WP.once ?_
      simp only[T26,Tr.sure,SS,h5,Int.lt_irrefl]
      repeat' with_reducible first|intro _|apply And.intro
      all_goals simp[hr,hl2,Go,Ends',v26,-List.getD_eq_getElem?_getD, *]
   ·refine WP.step ?_
    simp only[T26,Go,Ends',v26,Tr.sure,SS,Int.lt_irrefl,List.reverse_reverse]
    repeat' with_reducible first|intro _|apply And.intro
  rw[e]
  refine w26 _ _ _ (WP.step ?_)
  simp only[T26,Go,Ends',v26,Tr.sure,SS,h,h5]
  repeat' with_reducible first|intro _|apply And.intro
  all_goals first|exact k76|exact hmain|exact(by with_reducible exact lit_int1 _)|(simp[h,Go,Ends',v26,-List.getD_eq_getElem?_getD, *];done)
 ·have e:onR b body day=([],(toldR b [body] day).2):=by unfold onR;rw[if_pos h]
  rw[e]
  refine w26 _ _ _ (WP.step ?_)
  simp only[T26,Go,Ends',v26,Tr.sure,SS]
  repeat' with_reducible first|intro _|apply And.intro
  all_goals first|exact k76|exact(by with_reducible exact lit_int1 _)|(simp[h,Go,Ends',v26,-List.getD_eq_getElem?_getD, *];done)|(simp_all [h,Go,Ends',v26,-List.getD_eq_getElem?_getD];done)
end
noncomputable section
theorem telL(M:List (List Int))(x:List Int)(r j:Nat)(hr:r<M.length+1):VLe (appC M.length (rowsOf (tlist tint) M) (litC 1 1 [tint.lst x]) r j) (rowsOf (tlist tint) (M++ [x]) r j):=app_at (tlist tint) M x rfl rfl r j hr
theorem revL(r j:Nat)(hr:r<0)(E:Ty (List Int)):VLe (rowsRev E [] r j) (rowsOf E [] r j):=absurd hr (Nat.not_lt_zero _)
def metTo(b:Book)(day:Int)(L:List Truth)(i:Nat):List (List Int):=((L.take i).map fun t=>atR b t day).foldl metN []
theorem metTo_next(b:Book)(day:Int)(L:List Truth)(i:Nat)(hi:i<L.length):metTo b day L (i+1)=metN (metTo b day L i) (atR b (L.getD i zTruth) day):=by
 unfold metTo;rw[take_snoc zTruth L i hi,List.map_append,List.foldl_append];rfl
theorem metN_len(m:List (List Int))(x:List Int):(metN m x).length≤m.length+1:=by unfold metN;split<;>simp
theorem metTo_len(b:Book)(day:Int)(L:List Truth):∀i,i≤L.length→(metTo b day L i).length≤i
 |0,_=>by simp[metTo]
 |i+1,hi=>by
  rw[metTo_next b day L i (by omega)]
  have h1:=metN_len (metTo b day L i) (atR b (L.getD i zTruth) day)
  have h2:=metTo_len b day L i (by omega)
  omega
inductive P28
 |e
 |l0 (x0_9:Int) (a0_1:List (List Int)) (n0_1:Nat)
 |l1 (x0_9:Int) (a0_1:List (List Int)) (n0_1:Nat) (x1_11:Bool) (x1_12:Int)
inductive R28
 |r0 (r0:Int) (r1:Int)
noncomputable def T28(b:Book)(day:Int):P28→Tr P28 R28
 |.e=>let c1:=toldR b ([]) day;(.call 76 [.agg (cC b),.nils,iI day] (.tuple [tTruth.lst (c1.1),iI (c1.2)]) true true (.br (c1.2 !=(0:Int)) (.out (.r0 0 (c1.2))) (.wait 3 (.own 8 37 1 (.telb 1 1 0 (rowsRev (tlist tint) ([])) (rowsOf (tlist tint) ([]:List (List Int))) (.go (.l0 0 ([]:List (List Int)) 0)))))))
 |.l0 x0_9 a0_1 n0_1=>let c1:=((toldR b ([]) day).1).getD (x0_9).toNat tTruth.zero;let c2:=x0_9<(((toldR b ([]) day).1.length):Int);(.br (decide c2) (.front [] [] (((decide (0≤x0_9)&&decide c2)&&true)&&true) true (.call 80 [.agg (cC b),.agg [tPair.lst (c1.pairs),(tlist tint).lst (c1.haves)],iI day] (tint.lst (atR b c1 day)) true true (.go (.l1 x0_9 a0_1 n0_1 false 0)))) (.out (.r0 (n0_1:Int) 0)))
 |.l1 x0_9 a0_1 n0_1 x1_11 x1_12=>let c1:=atR b (((toldR b ([]) day).1).getD (x0_9).toNat tTruth.zero) day;let c2:=a0_1.getD (x1_12).toNat (tlist tint).zero;let c3:=x1_12+(1:Int);let c4:=x0_9+(1:Int);(.br (decide (x1_12<(n0_1:Int))) (.br x1_11 (.need (inR .i64 c3) (.go (.l1 x0_9 a0_1 n0_1 true c3))) (.need ((decide (0≤x1_12)&&decide (x1_12<(n0_1:Int)))&&decide (n0_1≤n0_1)) (.need (decide ((x1_12).toNat<n0_1)&&decide (0<1)) (.call 24 [tint.lst c2,tint.lst c1] (.bool (sameI c2 c1)) true true (.need (inR .i64 c3) (.go (.l1 x0_9 a0_1 n0_1 (sameI c2 c1) c3))))))) (.br (!x1_11) (.need ((decide (n0_1=n0_1)&&decide (n0_1+1≤4294967296))&&decide (1≤1)) (.scal (fun _=>true) (.telb 1 1 (n0_1+1) (appC n0_1 (rowsOf (tlist tint) a0_1) (litC 1 1 [tint.lst c1])) (rowsOf (tlist tint) (a0_1++ [c1])) (.need (inR .i64 c4) (.go (.l0 c4 (a0_1++ [c1]) (n0_1+1))))))) (.need (inR .i64 c4) (.go (.l0 c4 a0_1 n0_1)))))
noncomputable def g28(b:Book)(day:Int):P28→List Item × St
 |.e=>bd Tryz.f28 [.agg (cC b),iI day] 56
 |.l0 x0_9 a0_1 n0_1=>(cutOf Tryz.f28 0,⟨mk 58 [(1,iI day),(2,.ref 0 0 0),(6,tTruth.lst ((toldR b ([]) day).1)),(8,.row 1 n0_1),(9,iI x0_9)],[.cells (cC b),.rows 37 1 n0_1 (rowsOf (tlist tint) a0_1)],[]⟩)
 |.l1 x0_9 a0_1 n0_1 x1_11 x1_12=>(cutOf Tryz.f28 1,⟨mk 58 [(1,iI day),(2,.ref 0 0 0),(6,tTruth.lst ((toldR b ([]) day).1)),(8,.row 1 n0_1),(9,iI x0_9),(10,tint.lst (atR b (((toldR b ([]) day).1).getD (x0_9).toNat tTruth.zero) day)),(11,.bool x1_11),(12,iI x1_12)],[.cells (cC b),.rows 37 1 n0_1 (rowsOf (tlist tint) a0_1)],[]⟩)
noncomputable def n28:R28→Exit × St
 |.r0 r0 r1=>(.ret,⟨mk 58 [(4,iI r0),(5,iI r1)],[],[]⟩)
noncomputable def v28:R28→V
 |.r0 r0 r1=>.tuple [iI r0,iI r1]
theorem s28(b:Book)(day:Int):Sm 0 (g28 b day) (T28 b day) (n28)
 |.e=>⟨400,by kernel_rfl⟩
 |.l0 _ _ _=>⟨400,by kernel_rfl⟩
 |.l1 _ _ _ _ _=>⟨400,by kernel_rfl⟩
theorem q28:∀r,bodyQ Tryz.prog Tryz.f28 (·=v28 r) (n28 r).1 (n28 r).2
 |.r0 r0 r1=>bq (.tuple [iI r0,iI r1]) (by kernel_rfl)
theorem w28(b:Book)(day:Int){post:V→Prop}(h:WQ (T28 b day) v28 post .e):PC 28 [.agg (cC b),iI day] post:=
 PCalls.wq Tryz.func28 (s28 b day) q28 h
theorem c28(b:Book)(day:Int):PC 28 [.agg (tBook.cells b),iI day] (·=.tuple [iI (manyR b day).1,iI (manyR b day).2]):=by
 have k76:=c76n b day
 by_cases h:(toldR b [] day).2=0
 ·obtain⟨h1,h2,h3,h4,h5⟩:=told_ok h
  have e:manyR b day=(((metTo b day (truthsR b []) (truthsR b []).length).length:Int),0):=by unfold manyR metTo;rw[if_neg (fun q=>q h),List.take_length]
  have hT:∀t∈truthsR b [],TrueOf b t:=fun t ht=>trueOf h1 ht
  have hlen:=truths_len8 h1 []
  rw[h,h5]at k76
  generalize hL:truthsR b []=L at*
  have hmain:WP Tryz.prog ⟨none,0⟩ (T28 b day) (Ends' fun r=>v28 r=.tuple [iI ((metTo b day L L.length).length:Int),iI 0]) (.l0 0 [] 0):=by
   refine WP.run (fun i=>.l0 (i:Int) (metTo b day L i) (metTo b day L i).length) rfl L.length (fun i hi=> ?_) ?_
   ·have hr:inR .i64 ((i:Int)+1)=true:=inR64 (by omega) (by omega)
    have hi':(i:Int)<L.length:=by omega
    have hl:=metTo_len b day L i (by omega)
    have k80:=c80 b (L.getD i zTruth) day h1 (hT _ (getD_mem zTruth L i hi))
    rw[metTo_next b day L i hi]
    generalize metTo b day L i=M at*
    refine WP.step ?_
    simp only[T28,Go,Ends',v28,Tr.sure,SS,hi',h5,z10]
    repeat' with_reducible first|intro _|apply And.intro
    all_goals first|exact k80|skip
    generalize hO:atR b (L.getD i zTruth) day=own at*
    refine WP.run (fun k=>.l1 (i:Int) M M.length ((M.take k).any fun m=>sameI m own) (k:Int)) rfl M.length (fun k hk=> ?_) ?_
    ·have hr2:inR .i64 ((k:Int)+1)=true:=inR64 (by omega) (by omega)
     have hk':(k:Int)<M.length:=by omega
     have k24:=c24 (M.getD k []) own
     rw[any_take [] _ M k hk]
     generalize((M.take k).any fun m=>sameI m own)=A at*
     cases A with
     |true=>
      refine WP.once ?_
      simp only[T28,Tr.sure,SS,hk',h5,z10,z6,hO]
      repeat' with_reducible first|intro _|apply And.intro
      all_goals simp[hr2,Go,Ends',v28,-List.getD_eq_getElem?_getD, *]
     |false=>
      refine WP.once ?_
      simp only[T28,Tr.sure,SS,hk',h5,z10,z6,hO]
      repeat' with_reducible first|intro _|apply And.intro
      all_goals first|exact k24|(simp[hr2,Go,Ends',v28,-List.getD_eq_getElem?_getD, *];done)
    ·rw[List.take_length]
     have hM1:M.length+1≤4294967296:=by omega
     unfold metN
     cases hA:(M.any fun m=>sameI m own)with
     |true=>
      refine WP.once ?_
      simp only[T28,Tr.sure,SS,h5,z10,hO,Int.lt_irrefl]
      repeat' with_reducible first|intro _|apply And.intro
      all_goals simp[hr,Go,Ends',v28,-List.getD_eq_getElem?_getD, *]
     |false=>
      have hln:(M++ [own]).length=M.length+1:=by simp
      refine WP.once ?_
      simp only[T28,Tr.sure,SS,h5,z10,hO,Int.lt_irrefl]
      repeat' with_reducible first|intro _|apply And.intro
      all_goals first|exact(by with_reducible exact telL _ _ _ _ ‹_›)|(simp[hr,hM1,hln,Go,Ends',v28,-List.getD_eq_getElem?_getD, *];done)
   ·refine WP.step ?_
    simp only[T28,Go,Ends',v28,Tr.sure,SS,h5,Int.lt_irrefl]
    repeat' with_reducible first|intro _|apply And.intro
  rw[e]
  refine w28 _ _ (WP.step ?_)
  simp only[T28,Go,Ends',v28,Tr.sure,SS,h,h5]
  repeat' with_reducible first|intro _|apply And.intro
  all_goals first|exact k76|exact hmain|exact(by with_reducible exact revL _ _ ‹_› _)
 ·have e:manyR b day=(0,(toldR b [] day).2):=by unfold manyR;rw[if_pos h]
  rw[e]
  refine w28 _ _ (WP.step ?_)
  simp only[T28,Go,Ends',v28,Tr.sure,SS]
  repeat' with_reducible first|intro _|apply And.intro
  all_goals first|exact k76|(simp_all [h,Go,Ends',v28,-List.getD_eq_getElem?_getD];done)
end
noncomputable section
inductive P4
 |e
inductive R4
 |r0 (r0:Bool)
noncomputable def T4(b:Book)(x:Nat→Int)(day:Int):P4→Tr P4 R4
 |.e=>let c1:=whereR b (x (((0:Int)).toNat)) day;let c2:=onR b (x (((1:Int)).toNat)) day;let c3:Tr P4 R4:=.out (.r0 false);let c4:=manyR b day;let c5:=decide (0≤(1:Int))&&decide ((1:Int)<(2:Int));let c6:=decide (0≤(0:Int))&&decide ((0:Int)<(2:Int));let c7:=decide (((1:Int)).toNat<2)&&decide (0<1);let c8:=decide (((0:Int)).toNat<2)&&decide (0<1);let c9:List V:=[.agg (cC b),iI (x (((1:Int)).toNat)),iI day];let c10:List V:=[.agg (cC b),iI (x (((0:Int)).toNat)),iI day];let c11:V:=.tuple [tint.lst (c2.1),iI (c2.2)];let c12:V:=.tuple [tint.lst (c1.1),iI (c1.2)];let c13:V:=.tuple [iI (c4.1),iI (c4.2)];(.need c6 (.need c8 (.call 22 c10 c12 true true (.need c6 (.need c8 (.call 23 c10 c12 true true (.call 24 [tint.lst (c1.1),tint.lst (c1.1)] (.bool (sameI (c1.1) (c1.1))) true true (.br (!(sameI (c1.1) (c1.1))) (.lit true c3) (.br (c1.2 !=c1.2) c3 (.need c5 (.need c7 (.call 25 c9 c11 true true (.need c5 (.need c7 (.call 26 c9 c11 true true (.call 24 [tint.lst (c2.1),tint.lst (c2.1)] (.bool (sameI (c2.1) (c2.1))) true true (.br (!(sameI (c2.1) (c2.1))) (.lit true c3) (.br (c2.2 !=c2.2) c3 (.call 27 [.agg (cC b),iI day] c13 true true (.call 28 [.agg (cC b),iI day] c13 true true (.br (c4.1==c4.1) (.br (c4.2==c4.2) (.call 21 [] (.bool true) true true (.out (.r0 true))) c3) (.lit false c3))))))))))))))))))))))
noncomputable def g4(b:Book)(x:Nat→Int)(day:Int):P4→List Item × St
 |.e=>bd Tryz.f4 [.agg (cC b),.arr 1 2 (rowsFn tint x),iI day] 83
noncomputable def n4:R4→Exit × St
 |.r0 r0=>(.ret,⟨mk 86 [(6,.bool r0)],[],[]⟩)
noncomputable def v4:R4→V
 |.r0 r0=>.bool r0
theorem s4(b:Book)(x:Nat→Int)(day:Int):Sm 0 (g4 b x day) (T4 b x day) (n4)
 |.e=>⟨400,by kernel_rfl⟩
theorem q4:∀r,bodyQ Tryz.prog Tryz.f4 (·=v4 r) (n4 r).1 (n4 r).2
 |.r0 r0=>bq (.bool r0) (by kernel_rfl)
theorem w4(b:Book)(x:Nat→Int)(day:Int){post:V→Prop}(h:WQ (T4 b x day) v4 post .e):PC 4 [.agg (cC b),.arr 1 2 (rowsFn tint x),iI day] post:=
 PCalls.wq Tryz.func4 (s4 b x day) q4 h
theorem sameI_self(l:List Int):sameI l l=true:=by simp[sameI]
theorem c4(b:Book)(x:Nat→Int)(day:Int):PC 4 [.agg (tBook.cells b),.arr 1 2 (rowsFn tint x),iI day] (·=.bool true):=by
 refine w4 b x day (WP.step ?_)
 simp only[T4,Go,Ends',v4,Tr.sure,SS]
 repeat' with_reducible first|intro _|apply And.intro
 all_goals first|exact(c22 b _ _)|exact(c23 b _ _)|exact(c25 b _ _)|exact(c26 b _ _)|exact(c27 b _)|exact(c28 b _)|exact(c24 _ _)|exact c21|(simp[sameI_self,Go,Ends',v4,-List.getD_eq_getElem?_getD, *];done)|(simp_all [sameI_self,Go,Ends',v4,-List.getD_eq_getElem?_getD];done)
end
end Go.Proofs.YtemgodefhcbleaaGreat
