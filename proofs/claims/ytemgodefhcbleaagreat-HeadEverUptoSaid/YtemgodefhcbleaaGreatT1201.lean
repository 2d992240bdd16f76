/-
  Part of the proof of HeadEver. Conditions: those that stand in each theorem.
-/
import Derived.Test.YtemgodefhcbleaaGreatChecked
import Derived.KernelRfl
import Derived.Laws.Strings
import Derived.Test.YtemgodefhcbleaaGreatB16
set_option linter.unusedSimpArgs false
set_option linter.unusedVariables false
set_option maxRecDepth 100000
namespace Ab
theorem any_of_firstI{τ:Type}{p:τ->Bool}{l:List τ}{i:Nat}:firstI p 0 l=some i->l.any p=true:=fun h=>by
 rw[<-firstI_any p l 0,h];rfl
theorem any_of_none{τ:Type}{p:τ->Bool}{l:List τ}:firstI p 0 l=none->l.any p=false:=fun h=>by
 rw[<-firstI_any p l 0,h];rfl
theorem flat_take{τ υ:Type}(f:τ->List υ)(d:τ)(l:List τ)(i:Nat)(hi:i<l.length):((l.take (i+1)).flatMap f).reverse=(f (l.getD i d)).reverse++((l.take i).flatMap f).reverse:=by
 rw[List.take_succ_eq_append_getElem hi,List.flatMap_append,List.reverse_append];simp[gE,hi]
end Ab
namespace Go.Proofs.YtemgodefhcbleaaGreat
open Ab
def tTruth:Ty Truth:=⟨2,fun x=>[tPair.lst x.pairs,(tlist tint).lst x.haves],zTruth⟩
theorem z10:tTruth.zero=zTruth:=rfl
end Go.Proofs.YtemgodefhcbleaaGreat
namespace Ab
open Go
section
variable {P:Program} {ro:Env} {ops:Array Oper} {S:St} {i:Nat} {o:Oper}
theorem AStep.app0(hi:ops[i]? =some o)(hw:wantedV ops S o=some true){s x:Operand}{t e:TypeId}{wd k q:Nat}{c:Nat->Nat->V}{zs:List V}
  (hop:o.op=.call {callee:=.builtin .append,args:= #[s,x],argTypes:= #[t,t]}) (hsv:S.eval s=.nils) (hxv:S.eval x=.list wd k c) (hu:P.underlying t=some (.slice e)) (hz:zeroCs P e=some zs)
  (hc:decide (hasT P e=true/\szOf P e=wd/\0<wd/\zs.length=wd/\P.bytesOf e<=32768)=true) (hvd:S.h[q]? =some .void)
  (hk:k<=4294967296) (hsc:∀r,r<k->∀j,j<wd->(c r j).scalar=true):
  AStep P ro ops i S ({S with h:=S.h.set q (.rows e wd k c)}.put o.dst (.row q k)):=by
 obtain⟨hT,hsz,h0,hzl,hby⟩:=of_decide_eq_true hc;refine AStep.of_val hi hw (fun c hcc=>by rw[hop]at hcc;cases hcc) fun β G K a w r=> ?_;have hs:=r.eval s;rw[hsv]at hs;have hx:=r.eval x;rw[hxv]at hx;have hlt:q<β.length:=by rw[r.h.len];exact(List.getElem?_eq_some_iff.1 hvd).1
 generalize hsx:a.eval s=sv at hs
 cases hs with
 |nils=>
  rename_i a0;obtain⟨v',w',r1,r2,r3,r5,r4⟩:=run_fresh (ty:=o.type) hu hT hsz h0 hz hzl hby r.h (a0:=a0) hx hk hsc
  have hrun:(execOp a.eval o).run P w=.ok (.value v') w':=by
   simp only[execOp,hop,resolve,Sem.run_bind,Sem.run_pure,Result.andThen_ok,invoke,builtin,List.map_toArray,List.map_cons,List.map_nil,hsx,r1]
  rcases r4 with⟨rfl,rfl,rfl⟩|⟨hpos,g,cap',cur,rfl,hge,hcur,hnc,hcm,hcsz,hrel⟩
  ·have hle:=le_set_void (x:=.nil) (r.h.void_home hvd);have q1:=r.refill hvd hle (r.h.fillNil hvd e c h0);exact⟨_,_,_,G,K,hrun,hle.low _,G.ext_refl K,K.le_refl,q1,.row0 (List.getElem?_set_self hlt)⟩
  ·have hle:=le_set_void (x:=.lie ⟨g,wd,cap'⟩) (r.h.void_home hvd);have hmn:k<=maxn:=by unfold maxn;omega
   have hg':g<w'.heap.size:=(Array.getElem?_eq_some_iff.1 hcur).1;have q1:=r.refill hvd hle (r.h.fillG r2 r3 (k:=.rows e wd k c) (x:=⟨g,wd,cap'⟩) hvd hge hg' ⟨rfl,h0,hcm,cur,hcur,hcsz,hnc,hmn,hrel⟩ r5);exact⟨_,_,_,G,K,hrun,hle.low _,G.ext_refl K,K.le_refl,q1,.row (List.getElem?_set_self hlt) hnc (Nat.le_refl _) hmn⟩
end
end Ab
namespace Ab
open Go
theorem VLe.appS{τ:Type}(E:Ty τ)(L:List τ)(x:τ){n w:Nat}{cs:List V}(hc:cs=E.cells x)(hn:n=L.length)(hw:w=E.w:=by rfl):VLe (.list w (n+1) (appC n (rowsOf E L) (litC w 1 cs))) (E.lst (L++ [x])):=by
 subst hc;subst hn;subst hw;show VLe _ (.list E.w (L++ [x]).length (rowsOf E (L++ [x])));rw[List.length_append,List.length_singleton];refine VLe.list fun r j hr hj=> ?_;unfold appC;by_cases h:r<L.length
 ·rw[if_pos h];simp only[rowsOf,gE,aL h]
 ·have e:r=L.length:=by omega
  subst e;rw[if_neg h,Nat.sub_self];simp only[rowsOf,gE,List.getElem?_append_right (Nat.le_refl _),Nat.sub_self];rfl
end Ab
namespace Ab
open Go
section
variable {P:Program} {ro:Env} {ops:Array Oper} {i:Nat} {S S2:St}
theorem AStep.ap0(s x:Operand)(t e q wd k:Nat)(c:Nat->Nat->V)(zs:List V)(hk:k<=4294967296)(hsc:∀r,r<k->∀j,j<wd->(c r j).scalar=true)(hi:ops[i]? =some (ops.getD i default):=by kernel_rfl)(hw:wantedV ops S (ops.getD i default)=some true:=by kernel_rfl)
  (hop:(ops.getD i default).op=.call {callee:=.builtin .append,args:= #[s,x],argTypes:= #[t,t]}:=by kernel_rfl) (hsv:S.eval s=.nils:=by kernel_rfl) (hxv:S.eval x=.list wd k c:=by kernel_rfl) (hu:P.underlying t=some (.slice e):=by kernel_rfl) (hz:zeroCs P e=some zs:=by kernel_rfl)
  (hc:decide (hasT P e=true/\szOf P e=wd/\0<wd/\zs.length=wd/\P.bytesOf e<=32768)=true:=by kernel_rfl) (hvd:S.h[q]? =some .void:=by kernel_rfl)
  (h2:({S with h:=S.h.set q (.rows e wd k c)}.put (ops.getD i default).dst (.row q k))=S2:=by kernel_rfl):AStep P ro ops i S S2:=AStep.to (AStep.app0 hi hw hop hsv hxv hu hz hc hvd hk hsc) h2
end
end Ab
namespace Go.Proofs.YtemgodefhcbleaaGreat
open Ab Go
noncomputable section
inductive P44
 |e
 |l0 (x0_5:Int)
inductive R44
 |r0 (r0:Bool)
def T44(p0:List Int)(p1:Int):P44->Tr P44 R44
 |.e=>(.go (.l0 0))
 |.l0 x0_5=>let c1:=x0_5<(p0.length:Int);(.br (decide c1) (.need (decide (0<=x0_5)&&decide c1) (.br ((p0.getD (x0_5).toNat tint.zero)==p1) (.out (.r0 true)) (.need (inR .i64 (x0_5+(1:Int))) (.go (.l0 (x0_5+(1:Int))))))) (.out (.r0 false)))
noncomputable def g44(p0:List Int)(p1:Int):P44->List Item × St
 |.e=>bd Tryz.f44 [tint.lst p0,iI p1] 16
 |.l0 x0_5=>(cutOf Tryz.f44 0,⟨mk 18 [(0,tint.lst p0),(1,iI p1),(4,.bool false),(5,iI x0_5)],[],[]⟩)
def n44:R44->Exit × St
 |.r0 r0=>(.ret,⟨mk 18 [(4,.bool r0)],[],[]⟩)
def v44:R44->V
 |.r0 r0=>.bool r0
theorem s44(p0:List Int)(p1:Int):Sm 0 (g44 p0 p1) (T44 p0 p1) (n44)
 |.e=>⟨400,by kernel_rfl⟩
 |.l0 _=>⟨400,by kernel_rfl⟩
theorem q44:∀r,bodyQ Tryz.prog Tryz.f44 (·=v44 r) (n44 r).1 (n44 r).2
 |.r0 r0=>bq (.bool r0) (by kernel_rfl)
theorem w44(p0:List Int)(p1:Int){post:V->Prop}(h:WQ (T44 p0 p1) v44 post .e):PC 44 [tint.lst p0,iI p1] post:=
 PCalls.wq Tryz.func44 (s44 p0 p1) q44 h
theorem e44:∀xs w,(callFunc 44 xs).run Tryz.prog w=.ok (.enter 44 xs) w:=PCalls.enters Tryz.func44 (c:=Tryz.f44.body.getD .skip) (by kernel_rfl) (by kernel_rfl)
theorem c44(l:List Int)(n:Int):PC 44 [tint.lst l,iI n] (·=.bool (hasN l n)):=by
 refine PCalls.assume e44 0 (by simp) .list fun hl=> ?_;refine w44 _ _ (WP.step ?_);simp only[T44,Go,Ends',v44,Tr.sure,SS];repeat' with_reducible first|intro _|apply aI
 refine WP.findI (fun i=>.l0 i) rfl l 0 (·==n) (fun i hi=> ?_) fun hI=> ?_
 ·have hr:=inRi hi hl;have ha:firstI (·==n) 0 l=some i->l.any (·==n)=true:=any_of_firstI;refine WP.once ?_;simp only[T44,Tr.sure,SS,hi,z1];repeat' with_reducible first|intro _|apply aI
  all_goals first|(simp[hr,hasN,Go,Ends',v44,-List.getD_eq_getElem?_getD, *];done)|(simp_all [hr,hasN,Go,Ends',v44,-List.getD_eq_getElem?_getD];done)
 ·have ha:=any_of_none hI;refine WP.step ?_;simp only[T44,Go,Ends',v44,Tr.sure,SS,Int.lt_irrefl];repeat' with_reducible first|intro _|apply aI
  all_goals simp[hasN,ha,Go,Ends',v44,-List.getD_eq_getElem?_getD, *]
theorem c44r(l:List Int)(n:Int):PC 44 [.list 1 l.length (rowsRev tint l),iI n] (·=.bool (hasN l.reverse n)):=PCalls.arg (pre:=[]) (c44 l.reverse n) (VLe.rev tint l)
end
noncomputable section
inductive P99
 |e
inductive R99
 |r0 (r0_0:Int) (r0_1:Int)
def T99(n:Int)(m:Int):P99->Tr P99 R99
 |.e=>(.out (.r0 (min n m) (max n m)))
noncomputable def g99(n:Int)(m:Int):P99->List Item × St
 |.e=>bd Tryz.f99 [iI n,iI m] 10
def n99:R99->Exit × St
 |.r0 r0_0 r0_1=>(.ret,⟨mk 12 [(4,.ref 0 0 0)],[.cells [iI r0_0,iI r0_1]],[]⟩)
def v99:R99->V
 |.r0 r0_0 r0_1=>.agg [iI r0_0,iI r0_1]
theorem s99(n:Int)(m:Int):Sm 0 (g99 n m) (T99 n m) (n99)
 |.e=>⟨400,by kernel_rfl⟩
theorem q99:∀r,bodyQ Tryz.prog Tryz.f99 (·=v99 r) (n99 r).1 (n99 r).2
 |.r0 r0_0 r0_1=>bq (.agg [iI r0_0,iI r0_1]) (by kernel_rfl)
theorem w99(n:Int)(m:Int){post:V->Prop}(h:WQ (T99 n m) v99 post .e):PC 99 [iI n,iI m] post:=
 PCalls.wq Tryz.func99 (s99 n m) q99 h
theorem c99(n m:Int):PC 99 [iI n,iI m] (·=.agg (tPair.cells (pairR n m))):=by
 refine w99 _ _ (WP.step ?_);simp only[T99,Go,Ends',v99,Tr.sure,SS];repeat' with_reducible first|intro _|apply aI
 all_goals simp[pairR,tPair,Go,Ends',v99,-List.getD_eq_getElem?_getD, *]
inductive P100
 |e
inductive R100
 |r0 (r0:Bool)
def T100(p:Pair)(q:Pair):P100->Tr P100 R100
 |.e=>(.br (decide (p.a<q.a)) (.lit true (.out (.r0 true))) (.br (p.a==q.a) (.lit false (.out (.r0 (decide (p.b<q.b))))) (.lit false (.out (.r0 false)))))
noncomputable def g100(p:Pair)(q:Pair):P100->List Item × St
 |.e=>bd Tryz.f100 [.agg [iI p.a,iI p.b],.agg [iI q.a,iI q.b]] 22
def n100:R100->Exit × St
 |.r0 r0=>(.ret,⟨mk 24 [(4,.bool r0)],[],[]⟩)
def v100:R100->V
 |.r0 r0=>.bool r0
theorem s100(p:Pair)(q:Pair):Sm 0 (g100 p q) (T100 p q) (n100)
 |.e=>⟨400,by kernel_rfl⟩
theorem q100:∀r,bodyQ Tryz.prog Tryz.f100 (·=v100 r) (n100 r).1 (n100 r).2
 |.r0 r0=>bq (.bool r0) (by kernel_rfl)
theorem w100(p:Pair)(q:Pair){post:V->Prop}(h:WQ (T100 p q) v100 post .e):PC 100 [.agg [iI p.a,iI p.b],.agg [iI q.a,iI q.b]] post:=
 PCalls.wq Tryz.func100 (s100 p q) q100 h
theorem c100(p q:Pair):PC 100 [.agg (tPair.cells p),.agg (tPair.cells q)] (·=.bool (beforeR p q)):=by
 refine w100 _ _ (WP.step ?_);simp only[T100,Go,Ends',v100,Tr.sure,SS];repeat' with_reducible first|intro _|apply aI
 all_goals simp[beforeR,Go,Ends',v100,-List.getD_eq_getElem?_getD, *]
theorem someAt_next(l:List Int)(i k:Nat)(h:i<k):someAt l i (k+1)=someAt l i k++ [⟨l.getD i 0,l.getD k 0⟩]:=by
 unfold someAt;rw[List.range_succ,List.drop_append_of_le_length (by rw[List.length_range];omega),List.map_append];rfl
theorem someAt_len(l:List Int)(i k:Nat):(someAt l i k).length<=k:=by unfold someAt;simp only[List.length_map,List.length_drop,List.length_range];omega
theorem someTo2_len(l:List Int)(h:l.length<=5):∀i,(someTo2 l i).length<=5*i
 |0=>by simp[someTo2]
 |i+1=>by
  rw[someTo2_next,List.length_append];have:=someTo2_len l h i;have:=someAt_len l i l.length;omega
inductive P56
 |e
 |l0 (x0_7:Int) (a0_1:List Pair)
 |l1 (x0_7:Int) (x1_8:Int) (a1_1:List Pair)
inductive R56
 |r0 (r0_0:Int) (r0_1:Int)
 |r1 (r0_0:Int) (r0_1:Int)
 |r2 (r0_0:Int) (r0_1:Int) (r0_2:Int) (r0_3:Int)
 |r3 (r0:List Pair)
def T56(x:Line):P56->Tr P56 R56
 |.e=>let c1:=pairR x.a x.b;let c2:=pairR x.c x.d;let c3:List V:=[iI (c1.a),iI (c1.b)];(.br (x.kind==(0:Int)) (.call 99 [iI x.a,iI x.b] (.agg c3) true true (.out (.r0 (c1.a) (c1.b)))) (.br (x.kind==(1:Int)) (.front [(4,99,[iI x.a,iI x.b],.agg c3),(9,99,[iI x.c,iI x.d],.agg [iI (c2.a),iI (c2.b)])] [] true true (.br ((c1.a==c2.a)&&((c1.b==c2.b)&&true)) (.out (.r1 (c1.a) (c1.b))) (.call 100 [.agg [iI (c2.a),iI (c2.b)],.agg c3] (.bool (beforeR c2 c1)) true true (.br (beforeR c2 c1) (.out (.r2 (c2.a) (c2.b) (c1.a) (c1.b))) (.out (.r2 (c1.a) (c1.b) (c2.a) (c2.b))))))) (.br (x.kind==(2:Int)) (.wait 2 (.own 5 95 2 (.call 101 [iI x.set] (tint.lst (bitsR x.set)) true true (.go (.l0 0 ([])))))) (.out (.r0 0 0)))))
 |.l0 x0_7 a0_1=>(.br (decide (x0_7<(((bitsR x.set).length):Int))) (.need (inR .i64 (x0_7+(1:Int))) (.go (.l1 x0_7 (x0_7+(1:Int)) a0_1))) (.out (.r3 a0_1)))
 |.l1 x0_7 x1_8 a1_1=>let c1:=(((bitsR x.set).length):Int);(.br (decide (x1_8<c1)) (.front [] [] (((decide (0<=x0_7)&&decide (x0_7<c1))&&((decide (0<=x1_8)&&decide (x1_8<c1))&&true))&&true) true (.need ((decide (a1_1.length=a1_1.length)&&decide (a1_1.length+1<=4294967296))&&true) (.scal (fun _=>true) (.need (inR .i64 (x1_8+(1:Int))) (.go (.l1 x0_7 (x1_8+(1:Int)) ((⟨((bitsR x.set).getD (x0_7).toNat tint.zero),((bitsR x.set).getD (x1_8).toNat tint.zero)⟩:Pair)::a1_1))))))) (.need (inR .i64 (x0_7+(1:Int))) (.go (.l0 (x0_7+(1:Int)) a1_1))))
noncomputable def g56(x:Line):P56->List Item × St
 |.e=>bd Tryz.f56 [.agg [iI x.day,iI x.kind,iI x.a,iI x.b,iI x.c,iI x.d,iI x.set]] 78
 |.l0 x0_7 a0_1=>(cutOf Tryz.f56 0,⟨mk 79 [(5,.row 1 a0_1.length),(6,tint.lst (bitsR x.set)),(7,iI x0_7)],[.gone,.rows 95 2 a0_1.length (rowsRev tPair a0_1)],[]⟩)
 |.l1 x0_7 x1_8 a1_1=>(cutOf Tryz.f56 1,⟨mk 79 [(5,.row 1 a1_1.length),(6,tint.lst (bitsR x.set)),(7,iI x0_7),(8,iI x1_8)],[.gone,.rows 95 2 a1_1.length (rowsRev tPair a1_1)],[]⟩)
def n56:R56->Exit × St
 |.r0 r0_0 r0_1=>(.ret,⟨mk 79 [(2,.row 1 1)],[.gone,.rows 95 2 1 (litC 2 1 [iI r0_0,iI r0_1])],[]⟩)
 |.r1 r0_0 r0_1=>(.ret,⟨mk 79 [(2,.row 3 1)],[.gone,.gone,.gone,.rows 95 2 1 (litC 2 1 [iI r0_0,iI r0_1])],[]⟩)
 |.r2 r0_0 r0_1 r0_2 r0_3=>(.ret,⟨mk 79 [(2,.row 3 2)],[.gone,.gone,.gone,.rows 95 2 2 (litC 2 2 [iI r0_0,iI r0_1,iI r0_2,iI r0_3])],[]⟩)
 |.r3 r0=>(.ret,⟨mk 79 [(2,.row 1 r0.length)],[.gone,.rows 95 2 r0.length (rowsRev tPair r0)],[]⟩)
def v56:R56->V
 |.r0 r0_0 r0_1=>tPair.lst ([(⟨r0_0,r0_1⟩:Pair)]:List Pair)
 |.r1 r0_0 r0_1=>tPair.lst ([(⟨r0_0,r0_1⟩:Pair)]:List Pair)
 |.r2 r0_0 r0_1 r0_2 r0_3=>tPair.lst ([(⟨r0_0,r0_1⟩:Pair),(⟨r0_2,r0_3⟩:Pair)]:List Pair)
 |.r3 r0=>tPair.lst r0.reverse
theorem s56(x:Line):Sm 0 (g56 x) (T56 x) (n56)
 |.e=>⟨400,by kernel_rfl⟩
 |.l0 _ _=>⟨400,by kernel_rfl⟩
 |.l1 _ _ _=>⟨400,by kernel_rfl⟩
theorem q56:∀r,bodyQ Tryz.prog Tryz.f56 (·=v56 r) (n56 r).1 (n56 r).2
 |.r0 r0_0 r0_1=>⟨.inr rfl,by simp[n56],(.row 1 1),(tPair.lst ([(⟨r0_0,r0_1⟩:Pair)]:List Pair)),by kernel_rfl,(.weak (.row rfl (Nat.le_refl _)) (VLe.lit tPair _ rfl rfl (fun _=>rfl))),rfl⟩
 |.r1 r0_0 r0_1=>⟨.inr rfl,by simp[n56],(.row 3 1),(tPair.lst ([(⟨r0_0,r0_1⟩:Pair)]:List Pair)),by kernel_rfl,(.weak (.row rfl (Nat.le_refl _)) (VLe.lit tPair _ rfl rfl (fun _=>rfl))),rfl⟩
 |.r2 r0_0 r0_1 r0_2 r0_3=>⟨.inr rfl,by simp[n56],(.row 3 2),(tPair.lst ([(⟨r0_0,r0_1⟩:Pair),(⟨r0_2,r0_3⟩:Pair)]:List Pair)),by kernel_rfl,(.weak (.row rfl (Nat.le_refl _)) (VLe.lit tPair _ rfl rfl (fun _=>rfl))),rfl⟩
 |.r3 r0=>⟨.inr rfl,by simp[n56],(.row 1 r0.length),(tPair.lst r0.reverse),by kernel_rfl,(.weak (.row rfl (Nat.le_refl _)) (VLe.rev tPair r0)),rfl⟩
theorem w56(x:Line){post:V->Prop}(h:WQ (T56 x) v56 post .e):PC 56 [.agg [iI x.day,iI x.kind,iI x.a,iI x.b,iI x.c,iI x.d,iI x.set]] post:=
 PCalls.wq Tryz.func56 (s56 x) q56 h
theorem c56(x:Line):PC 56 [.agg (tLine.cells x)] (·=tPair.lst (pairsR x)):=by
 by_cases h0:x.kind=0
 ·have e:pairsR x=[pairR x.a x.b]:=by unfold pairsR;rw[if_pos h0]
  rw[e];refine w56 _ (WP.step ?_);simp only[T56,Go,Ends',v56,Tr.sure,SS];repeat' with_reducible first|intro _|apply aI
  all_goals first|exact c99 _ _|(simp_all [h0,Go,Ends',v56,-List.getD_eq_getElem?_getD];done)
 by_cases h1:x.kind=1
 ·have e:pairsR x=if pairR x.a x.b=pairR x.c x.d then[pairR x.a x.b]else if beforeR (pairR x.c x.d) (pairR x.a x.b)=true then[pairR x.c x.d,pairR x.a x.b]else[pairR x.a x.b,pairR x.c x.d]:=by unfold pairsR;rw[if_neg h0,if_pos h1]
  have k1:=c99 x.a x.b;have k2:=c99 x.c x.d;generalize hp:pairR x.a x.b=p at*
  generalize hq:pairR x.c x.d=q at*
  obtain⟨p1,p2⟩:=p;obtain⟨q1,q2⟩:=q;have hpe:((⟨p1,p2⟩:Pair)=⟨q1,q2⟩)↔(p1=q1/\p2=q2):=by simp
  have k3:=c100 ⟨q1,q2⟩ ⟨p1,p2⟩;rw[e];simp only[hpe];refine w56 _ (WP.step ?_);simp only[T56,Go,Ends',v56,Tr.sure,SS,hp,hq];repeat' with_reducible first|intro _|apply aI
  all_goals first|exact k1|exact k2|exact k3|(simp[h0,h1,Go,Ends',v56,-List.getD_eq_getElem?_getD, *];done)|(simp_all [h0,h1,Go,Ends',v56,-List.getD_eq_getElem?_getD];done)|skip
  all_goals
   rename_i g1 g2;have g:¬(p1=q1/\p2=q2):=fun h=>by rw[h.1,h.2]at g1;simp at g1
   rw[if_neg g];simp[g2]
 by_cases h2:x.kind=2
 ·have e:pairsR x=(someTo2 (bitsR x.set) (bitsR x.set).length):=by unfold pairsR;rw[if_neg h0,if_neg h1,if_pos h2];rfl
  rw[e];have hb:=bitsR_len x.set;have k1:=c101 x.set;refine w56 _ (WP.step ?_);simp only[T56,Go,Ends',v56,Tr.sure,SS];repeat' with_reducible first|intro _|apply aI
  all_goals first|exact k1|(simp_all [h0,h1,h2,Go,Ends',v56,-List.getD_eq_getElem?_getD];done)|skip
  generalize hl:bitsR x.set=l at*
  refine WP.run (fun i=>.l0 (i:Int) (someTo2 l i).reverse) rfl l.length (fun i hi=> ?_) ?_
  ·have hr:inR .i64 ((i:Int)+1)=true:=inR64 (by omega) (by omega);have hi':(i:Int)<l.length:=by omega
   have hl2:=someTo2_len l hb i;refine WP.step ?_;simp only[T56,Go,Ends',v56,Tr.sure,SS,hl,hi'];repeat' with_reducible first|intro _|apply aI
   all_goals first|(simp[hr,Go,Ends',v56,-List.getD_eq_getElem?_getD, *];done)|skip
   refine WP.run (fun q=>.l1 (i:Int) ((i:Int)+1+(q:Int)) ((someAt l i (i+1+q)).reverse++(someTo2 l i).reverse)) (by simp[someAt]) (l.length-(i+1)) (fun q hq=> ?_) ?_
   ·have hr2:inR .i64 ((i:Int)+1+(q:Int)+1)=true:=inR64 (by omega) (by omega);have hq':(i:Int)+1+(q:Int)<l.length:=by omega
    have hq0:(0:Int)<=(i:Int)+1+(q:Int):=by omega
    have hqn:((i:Int)+1+(q:Int)).toNat=i+1+q:=by omega
    have hl3:=someAt_len l i (i+1+q);have hlen:((someAt l i (i+1+q)).reverse++(someTo2 l i).reverse).length+1<=4294967296:=by simp only[List.length_append,List.length_reverse];omega
    have hcast:(i:Int)+1+((q+1:Nat):Int)=(i:Int)+1+(q:Int)+1:=by omega
    have hnx:(someAt l i (i+1+(q+1))).reverse++(someTo2 l i).reverse=(⟨l.getD i 0,l.getD (i+1+q) 0⟩:Pair)::((someAt l i (i+1+q)).reverse++(someTo2 l i).reverse):=by
     rw[show i+1+(q+1)=i+1+q+1 by omega,someAt_next l i (i+1+q) (by omega),List.reverse_append];rfl
    rw[hcast,hnx];generalize(someAt l i (i+1+q)).reverse++(someTo2 l i).reverse=B at*
    refine WP.once ?_;simp only[T56,Tr.sure,SS,hl,hi',hq',hq0,hqn,z1];repeat' with_reducible first|intro _|apply aI
    all_goals simp[hr2,hlen,Go,Ends',v56,-List.getD_eq_getElem?_getD, *]
   ·have hno:¬(i:Int)+1+((l.length-(i+1):Nat):Int)<l.length:=by omega
    have he:(someAt l i (i+1+(l.length-(i+1)))).reverse++(someTo2 l i).reverse=(someTo2 l (i+1)).reverse:=by rw[show i+1+(l.length-(i+1))=l.length by omega,someTo2_next,List.reverse_append]
    rw[he];refine WP.once ?_;simp only[T56,Tr.sure,SS,hl,hno];repeat' with_reducible first|intro _|apply aI
    all_goals simp[hr,Go,Ends',v56,-List.getD_eq_getElem?_getD, *]
  ·refine WP.step ?_;simp only[T56,Go,Ends',v56,Tr.sure,SS,hl,Int.lt_irrefl,List.reverse_reverse];repeat' with_reducible first|intro _|apply aI
 ·have e:pairsR x=[zPair]:=by unfold pairsR;rw[if_neg h0,if_neg h1,if_neg h2]
  rw[e];refine w56 _ (WP.step ?_);simp only[T56,Go,Ends',v56,Tr.sure,SS];repeat' with_reducible first|intro _|apply aI
  all_goals first|(simp[h0,h1,h2,zPair,Go,Ends',v56,-List.getD_eq_getElem?_getD, *];done)|(simp_all [h0,h1,h2,zPair,Go,Ends',v56,-List.getD_eq_getElem?_getD];done)
inductive P98
 |e
inductive R98
 |r0 (r0:List Int) (r1:Bool)
def T98(hv:List Int)(x:Line)(p:Pair):P98->Tr P98 R98
 |.e=>let c2:=(0+hv.length)<=(0+hv.length);let c3:=hv.getD (p.b).toNat tint.zero;let c1:=(hv.set ((p.a).toNat) c3).set ((p.b).toNat) (hv.getD (p.a).toNat tint.zero);let c4:=([iI (hv.getD (p.a).toNat tint.zero)]:List V);let c5:V:=.list 1 (0+hv.length) (rowsOf tint c1);let c6:=((decide (0<=x.a)&&decide (x.a<(hv.length:Int)))&&true)&&true;let c7:=([iI c3]:List V);let c8:=rowsOf tint hv;let c9:=rowsOf tint (hv.set ((p.a).toNat) c3);let c10:=tint.lst c1;let c11:=hv.getD (x.a).toNat tint.zero;(.br (x.kind==(3:Int)) (.front [] [] c6 true (.out (.r0 hv (c11==x.b)))) (.br (x.kind==(4:Int)) (.front [] [] c6 true (.out (.r0 hv (c11 !=x.b)))) (.need ((decide (0=0)&&decide (0+hv.length<=4294967296))&&true) (.scal (fun r=>(List.range 1).all fun j=>(c8 r j).scalar) (.telb 2 1 (0+hv.length) (appC 0 (litC 1 0 []) c8) c8 (.front [] [] (((decide (0<=p.b)&&decide (p.b<(hv.length:Int)))&&true)&&true) true (.need ((decide (0<=p.a)&&decide (p.a<((0+hv.length):Int)))&&decide c2) (.need ((decide ((p.a).toNat<(0+hv.length))&&decide (0+c7.length<=1))&&underL 0 c7) (.telb 2 1 (0+hv.length) (fun r' j=>if r'=(p.a).toNat/\0<=j/\j<0+c7.length then c7.getD (j-0) uU else c8 r' j) c9 (.front [] [] (((decide (0<=p.a)&&decide (p.a<(hv.length:Int)))&&true)&&true) true (.need ((decide (0<=p.b)&&decide (p.b<((0+hv.length):Int)))&&decide c2) (.need ((decide ((p.b).toNat<(0+hv.length))&&decide (0+c4.length<=1))&&underL 0 c4) (.telb 2 1 (0+hv.length) (fun r' j=>if r'=(p.b).toNat/\0<=j/\j<0+c4.length then c4.getD (j-0) uU else c9 r' j) (rowsOf tint c1) (.wait 1 (.frz 2 ((decide c2)&&((decide c2)&&((decide c2)&&((decide c2)&&true)))) (.vle 8 c5 c10 (.vle 35 c5 c10 (.vle 36 c5 c10 (.vle 45 c5 c10 (.out (.r0 c1 true)))))))))))))))))))))
noncomputable def g98(hv:List Int)(x:Line)(p:Pair):P98->List Item × St
 |.e=>bd Tryz.f98 [tint.lst hv,.agg [iI x.day,iI x.kind,iI x.a,iI x.b,iI x.c,iI x.d,iI x.set],.agg [iI p.a,iI p.b]] 52
def n98:R98->Exit × St
 |.r0 r0 r1=>(.ret,⟨mk 55 [(6,tint.lst r0),(7,.bool r1)],[],[]⟩)
def v98:R98->V
 |.r0 r0 r1=>.tuple [tint.lst r0,.bool r1]
theorem s98(hv:List Int)(x:Line)(p:Pair):Sm 0 (g98 hv x p) (T98 hv x p) (n98)
 |.e=>⟨400,by kernel_rfl⟩
theorem q98:∀r,bodyQ Tryz.prog Tryz.f98 (·=v98 r) (n98 r).1 (n98 r).2
 |.r0 r0 r1=>bq (.tuple [tint.lst r0,.bool r1]) (by kernel_rfl)
theorem w98(hv:List Int)(x:Line)(p:Pair){post:V->Prop}(h:WQ (T98 hv x p) v98 post .e):PC 98 [tint.lst hv,.agg [iI x.day,iI x.kind,iI x.a,iI x.b,iI x.c,iI x.d,iI x.set],.agg [iI p.a,iI p.b]] post:=
 PCalls.wq Tryz.func98 (s98 hv x p) q98 h
theorem tel_setI(l:List Int)(i:Nat)(v:Int){n:Nat}(hn:n=l.length)(r j:Nat)(hr:r<n)(hj:j<1):
  VLe (if r=i/\0<=j/\j<0+([iI v]:List V).length then([iI v]:List V).getD (j-0) uU else rowsOf tint l r j) (rowsOf tint (l.set i v) r j):=tel_set tint l i v [iI v] rfl rfl hn r j hr hj
theorem lst0(l:List Int){n:Nat}(hn:n=l.length):VLe (.list 1 (0+n) (rowsOf tint l)) (tint.lst l):=by subst hn;rw[Nat.zero_add];exact VLe.refl _
theorem scal_int(l:List Int)(r:Nat):((List.range 1).all fun j=>(rowsOf tint l r j).scalar)=true:=rfl
theorem VLe.app0{c0 c:Nat->Nat->V}(r j:Nat):VLe (appC 0 c0 c r j) (c r j):=by
 have:appC 0 c0 c r j=c r j:=by unfold appC;simp
 rw[this];exact VLe.refl _
theorem c98(hv:List Int)(x:Line)(p:Pair)(h1:x.kind=3\/x.kind=4->0<=x.a/\x.a<hv.length)(h2:¬(x.kind=3\/x.kind=4)->(0<=p.a/\p.a<hv.length)/\0<=p.b/\p.b<hv.length)(hl:hv.length<=1000):
  PC 98 [tint.lst hv,.agg (tLine.cells x),.agg (tPair.cells p)] (·=.tuple [tint.lst (doneR hv x p).1,.bool (doneR hv x p).2]):=by
 by_cases g3:x.kind=3
 ·obtain⟨q1,q2⟩:=h1 (.inl g3);have e:doneR hv x p=(hv,hv.getD x.a.toNat 0==x.b):=by unfold doneR;rw[if_pos g3]
  rw[e];refine w98 _ _ _ (WP.step ?_);simp only[T98,Go,Ends',v98,Tr.sure,SS,z1];repeat' with_reducible first|intro _|apply aI
  all_goals first|(simp[g3,q1,q2,Go,Ends',v98,-List.getD_eq_getElem?_getD, *];done)|(simp_all [g3,q1,q2,Go,Ends',v98,-List.getD_eq_getElem?_getD];done)
 by_cases g4:x.kind=4
 ·obtain⟨q1,q2⟩:=h1 (.inr g4);have e:doneR hv x p=(hv,hv.getD x.a.toNat 0 !=x.b):=by unfold doneR;rw[if_neg g3,if_pos g4]
  rw[e];refine w98 _ _ _ (WP.step ?_);simp only[T98,Go,Ends',v98,Tr.sure,SS,z1];repeat' with_reducible first|intro _|apply aI
  all_goals first|(simp[g3,g4,q1,q2,Go,Ends',v98,-List.getD_eq_getElem?_getD, *];done)|(simp_all [g3,g4,q1,q2,Go,Ends',v98,-List.getD_eq_getElem?_getD];done)
 obtain⟨⟨q1,q2⟩,q3,q4⟩:=h2 (fun h=>by cases h<;>contradiction);have e:doneR hv x p=(swapR hv p,true):=by unfold doneR;rw[if_neg g3,if_neg g4]
 have q2':p.a.toNat<hv.length:=by omega
 have q4':p.b.toNat<hv.length:=by omega
 have q5:0+hv.length<=4294967296:=by omega
 rw[e];refine w98 _ _ _ (WP.step ?_);simp only[T98,Go,Ends',v98,Tr.sure,SS,z1];repeat' with_reducible first|intro _|apply aI
 all_goals first|exact(by with_reducible exact scal_int _ _)|exact(by with_reducible exact VLe.app0 _ _)|exact(by with_reducible exact tel_setI (n:=0+hv.length) _ _ _ (by simp) _ _ ‹_› ‹_›)|exact(by with_reducible exact lst0 _ (by simp))|exact rfl|(simp[g3,g4,q1,q2,q3,q4,q2',q4',q5,Go,Ends',v98,-List.getD_eq_getElem?_getD, *];done)|(simp_all [g3,g4,q1,q2,q3,q4,q2',q4',q5,Go,Ends',v98,-List.getD_eq_getElem?_getD];done)
end
noncomputable section
inductive P51
 |e
 |l0 (x0_6:Int) (a0_1:List Int)
 |l1 (x1_7:List Truth) (x1_8:Int)
 |l2 (x1_8:Int) (x2_7:List Truth) (x2_10:Int) (a2_1:List Truth)
 |l3 (x1_8:Int) (x2_7:List Truth) (x2_10:Int) (x3_13:Int) (a3_1:List Truth)
inductive R51
 |r0 (r0:List Truth)
def T51(b:Book)(but:List Int):P51->Tr P51 R51
 |.e=>(.wait 4 (.own 5 3 1 (.go (.l0 0 ([])))))
 |.l0 x0_6 a0_1=>let c1:=([a0_1.reverse]:List (List Int));let c2:V:=.list 2 1 (litC 2 1 [.nils,(tlist tint).lst c1]);let c3:=(⟨[],c1⟩:Truth);let c4:=([c3]:List Truth);let c5:=decide (1<=1);(.br (decide (x0_6<(b.bodies.length:Int))) (.need ((decide (a0_1.length=a0_1.length)&&decide (a0_1.length+1<=4294967296))&&decide (1<=1)) (.scal (fun _=>true) (.need (inR .i64 (x0_6+(1:Int))) (.telb 2 1 1 (litC 1 1 [iI x0_6]) (rowsRev tint ([x0_6])) (.go (.l0 (x0_6+(1:Int)) (x0_6::a0_1))))))) (.wait 2 (.frz 1 ((decide (a0_1.length<=a0_1.length))&&true) (.vle 5 (.list 1 a0_1.length (rowsRev tint a0_1)) (tint.lst a0_1.reverse) (.wait 1 (.frz 2 (c5&&true) (.wait 0 (.vle 28 (.list 1 1 (litC 1 1 [tint.lst a0_1.reverse])) ((tlist tint).lst c1) (.wait 4 (.frz 3 (c5&&(c5&&true)) (.vle 7 c2 (tTruth.lst c4) (.vle 30 c2 (tTruth.lst c4) (.go (.l1 c4 0))))))))))))))
 |.l1 x1_7 x1_8=>(.br (decide (x1_8<(b.lines.length:Int))) (.wait 5 (.own 9 85 2 (.go (.l2 x1_8 x1_7 0 ([]))))) (.out (.r0 x1_7)))
 |.l2 x1_8 x2_7 x2_10 a2_1=>let c1:=b.lines.getD (x1_8).toNat tLine.zero;let c2:V:=.list 2 a2_1.length (rowsRev tTruth a2_1);let c3:=decide (a2_1.length<=a2_1.length);let c4:=tTruth.lst a2_1.reverse;let c5:=x2_10<(x2_7.length:Int);(.br (decide c5) (.need (decide (0<=x2_10)&&decide c5) (.need (decide (0<=x1_8)&&decide (x1_8<(((x2_7.getD (x2_10).toNat tTruth.zero).haves.length):Int))) (.need (decide (0<=x1_8)&&decide (x1_8<(b.lines.length:Int))) (.call 56 [.agg [iI (c1.day),iI (c1.kind),iI (c1.a),iI (c1.b),iI (c1.c),iI (c1.d),iI (c1.set)]] (tPair.lst (pairsR c1)) true true (.go (.l3 x1_8 x2_7 x2_10 0 a2_1)))))) (.need (inR .i64 (x1_8+(1:Int))) (.frz 1 (c3&&(c3&&(c3&&true))) (.vle 7 c2 c4 (.vle 9 c2 c4 (.vle 112 c2 c4 (.go (.l1 a2_1.reverse (x1_8+(1:Int))))))))))
 |.l3 x1_8 x2_7 x2_10 x3_13 a3_1=>let c2:=x2_7.getD (x2_10).toNat tTruth.zero;let c4:=b.lines.getD (x1_8).toNat tLine.zero;let c1:=(pairsR c4).getD (x3_13).toNat tPair.zero;let c5:List V:=[uU,.nil,.nil,uU,uU,uU,uU,.nil,.nil,.nil,.nil,.nil,.nil,.nil,.nil,uU,uU,uU,uU,uU,uU,uU,uU,uU,uU,uU,uU,uU,uU,uU,uU,uU,uU,uU,uU,uU,uU,uU,uU,uU,uU,uU,uU,uU,uU,uU,uU,uU,uU,uU,uU,uU,uU,uU,uU,uU,uU,uU,uU,uU,uU,uU,uU,uU,uU,uU,uU,uU,uU,uU,uU,uU,uU,uU,uU,uU,uU,uU,uU,uU,uU,uU,uU,uU,uU,uU,uU,uU,uU,uU,uU,uU,uU,uU,uU,uU,uU,uU,uU,uU,uU,uU,uU,uU,uU,uU,uU,uU,uU,uU,uU,uU,uU,uU];let c6:=(c2.pairs)++ [c1];let c8:=tlist tint;let c3:=(c2.haves).getD (x1_8).toNat c8.zero;let c7:=doneR c3 c4 c1;let c9:List V:=[iI (c1.a),iI (c1.b)];let c10:=x3_13+(1:Int);let c11:=(c2.haves)++ [c7.1];let c12:=a3_1.length+1;let c13:=(c2.haves)++ [c3];let c14:List Blk:=[.cells (cC b),.rows 85 2 a3_1.length (rowsRev tTruth a3_1)];let c15:Tr P51 R51:=.need (inR .i64 c10) (.go (.l3 x1_8 x2_7 x2_10 c10 a3_1));let c16:=x3_13<(((pairsR c4).length):Int);let c17:=(⟨c6,c13⟩:Truth)::a3_1;let c18:=(⟨c6,c11⟩:Truth)::a3_1;(.br (decide c16) (.front [(10,98,[tint.lst c3,.agg [iI (c4.day),iI (c4.kind),iI (c4.a),iI (c4.b),iI (c4.c),iI (c4.d),iI (c4.set)],.agg c9],.tuple [tint.lst (c7.1),.bool (c7.2)])] [] (((decide (0<=x1_8)&&decide (x1_8<(b.lines.length:Int)))&&((decide (0<=x3_13)&&decide c16)&&true))&&true) true (.call 44 [tint.lst but,iI x1_8] (.bool (hasN but x1_8)) true true (.br (hasN but x1_8) (.br (x3_13==(0:Int)) (.drop ⟨c5,[.void,.void],[]⟩ (.over (regionOf Tryz.f51 23) ⟨[uU,tint.lst but,.ref 0 0 0,uU,uU,uU,uU,tTruth.lst x2_7,iI x1_8,.row 1 a3_1.length,iI x2_10,tint.lst c3,tPair.lst (pairsR c4),iI x3_13,tint.lst c3,uU,uU,uU,uU,uU,uU,uU,uU,uU,uU,uU,uU,uU,uU,uU,uU,uU,uU,uU,uU,uU,uU,uU,uU,uU,uU,uU,uU,uU,uU,uU,uU,uU,uU,uU,uU,uU,uU,uU,uU,uU,uU,uU,uU,uU,uU,uU,uU,uU,uU,uU,uU,uU,uU,uU,uU,uU,uU,uU,uU,uU,uU,uU,uU,uU,uU,uU,uU,uU,uU,uU,uU,uU,uU,uU,uU,uU,uU,uU,uU,uU,uU,uU,uU,uU,uU,uU,uU,uU,uU,uU,uU,uU,uU,uU,uU,uU,uU,uU],c14,[]⟩ .normal ⟨[uU,tint.lst but,.ref 0 0 0,uU,uU,uU,uU,tTruth.lst x2_7,iI x1_8,.row 1 c12,iI x2_10,tint.lst c3,tPair.lst (pairsR c4),iI x3_13,tint.lst c3,uU,uU,uU,uU,uU,uU,uU,uU,uU,uU,uU,uU,uU,uU,uU,uU,uU,uU,uU,uU,uU,uU,uU,uU,uU,uU,uU,uU,uU,uU,uU,uU,uU,uU,uU,uU,uU,uU,uU,uU,uU,uU,uU,uU,uU,uU,uU,uU,uU,uU,uU,uU,uU,uU,uU,uU,uU,uU,uU,uU,uU,uU,uU,uU,uU,uU,uU,uU,uU,uU,uU,.nils,tTruth.lst x2_7,iI x2_10,.cref 2 fun q=>([tPair.lst (c2.pairs),c8.lst (c2.haves)]:List V).getD q uU,.cref 2 fun q=>([tPair.lst (c2.pairs),c8.lst (c2.haves)]:List V).getD q uU,tPair.lst (c2.pairs),uU,tPair.lst (pairsR c4),iI x3_13,.cref 2 fun q=>(c9:List V).getD q uU,.agg c9,.list 2 1 (litC 2 1 c9),tPair.lst c6,.nils,tTruth.lst x2_7,iI x2_10,.cref 2 fun q=>([tPair.lst (c2.pairs),c8.lst (c2.haves)]:List V).getD q uU,rR (c8.lst (c2.haves)),c8.lst (c2.haves),uU,tint.lst c3,.list 1 1 (litC 1 1 [tint.lst c3]),c8.lst c13,.agg [tPair.lst c6,c8.lst c13],.list 2 1 (litC 2 1 [tPair.lst c6,c8.lst c13]),.row 1 c12,uU,uU],[.cells (cC b),.rows 85 2 c12 (rowsRev tTruth c17),.gone,.gone],[]⟩ true (.need (inR .i64 c10) (.go (.l3 x1_8 x2_7 x2_10 c10 c17))))) c15) (.br (c7.2) (.drop ⟨c5,[.void,.void],[]⟩ (.over (regionOf Tryz.f51 23) ⟨[uU,tint.lst but,.ref 0 0 0,uU,uU,uU,uU,tTruth.lst x2_7,iI x1_8,.row 1 a3_1.length,iI x2_10,tint.lst c3,tPair.lst (pairsR c4),iI x3_13,tint.lst (c7.1),uU,uU,uU,uU,uU,uU,uU,uU,uU,uU,uU,uU,uU,uU,uU,uU,uU,uU,uU,uU,uU,uU,uU,uU,uU,uU,uU,uU,uU,uU,uU,uU,uU,uU,uU,uU,uU,uU,uU,uU,uU,uU,uU,uU,uU,uU,uU,uU,uU,uU,uU,uU,uU,uU,uU,uU,uU,uU,uU,uU,uU,uU,uU,uU,uU,uU,uU,uU,uU,uU,uU,uU,uU,uU,uU,uU,uU,uU,uU,uU,uU,uU,uU,uU,uU,uU,uU,uU,uU,uU,uU,uU,uU,uU,uU,uU,uU,uU,uU],c14,[]⟩ .normal ⟨[uU,tint.lst but,.ref 0 0 0,uU,uU,uU,uU,tTruth.lst x2_7,iI x1_8,.row 1 c12,iI x2_10,tint.lst c3,tPair.lst (pairsR c4),iI x3_13,tint.lst (c7.1),uU,uU,uU,uU,uU,uU,uU,uU,uU,uU,uU,uU,uU,uU,uU,uU,uU,uU,uU,uU,uU,uU,uU,uU,uU,uU,uU,uU,uU,uU,uU,uU,uU,uU,uU,uU,uU,uU,uU,uU,uU,uU,uU,uU,uU,uU,uU,uU,uU,uU,uU,uU,uU,uU,uU,uU,uU,uU,uU,uU,uU,uU,uU,uU,uU,uU,uU,uU,uU,uU,uU,.nils,tTruth.lst x2_7,iI x2_10,.cref 2 fun q=>([tPair.lst (c2.pairs),c8.lst (c2.haves)]:List V).getD q uU,.cref 2 fun q=>([tPair.lst (c2.pairs),c8.lst (c2.haves)]:List V).getD q uU,tPair.lst (c2.pairs),uU,tPair.lst (pairsR c4),iI x3_13,.cref 2 fun q=>(c9:List V).getD q uU,.agg c9,.list 2 1 (litC 2 1 c9),tPair.lst c6,.nils,tTruth.lst x2_7,iI x2_10,.cref 2 fun q=>([tPair.lst (c2.pairs),c8.lst (c2.haves)]:List V).getD q uU,rR (c8.lst (c2.haves)),c8.lst (c2.haves),uU,tint.lst (c7.1),.list 1 1 (litC 1 1 [tint.lst (c7.1)]),c8.lst c11,.agg [tPair.lst c6,c8.lst c11],.list 2 1 (litC 2 1 [tPair.lst c6,c8.lst c11]),.row 1 c12,uU,uU],[.cells (cC b),.rows 85 2 c12 (rowsRev tTruth c18),.gone,.gone],[]⟩ true (.need (inR .i64 c10) (.go (.l3 x1_8 x2_7 x2_10 c10 c18))))) c15)))) (.need (inR .i64 (x2_10+(1:Int))) (.go (.l2 x1_8 x2_7 (x2_10+(1:Int)) a3_1))))
noncomputable def g51(b:Book)(but:List Int):P51->List Item × St
 |.e=>bd Tryz.f51 [.agg (cC b),tint.lst but] 112
 |.l0 x0_6 a0_1=>(cutOf Tryz.f51 0,⟨mk 114 [(1,tint.lst but),(2,.ref 0 0 0),(5,.row 1 a0_1.length),(6,iI x0_6)],[.cells (cC b),.rows 3 1 a0_1.length (rowsRev tint a0_1)],[]⟩)
 |.l1 x1_7 x1_8=>(cutOf Tryz.f51 1,⟨mk 114 [(1,tint.lst but),(2,.ref 0 0 0),(7,tTruth.lst x1_7),(8,iI x1_8)],[.cells (cC b)],[]⟩)
 |.l2 x1_8 x2_7 x2_10 a2_1=>(cutOf Tryz.f51 2,⟨mk 114 [(1,tint.lst but),(2,.ref 0 0 0),(7,tTruth.lst x2_7),(8,iI x1_8),(9,.row 1 a2_1.length),(10,iI x2_10)],[.cells (cC b),.rows 85 2 a2_1.length (rowsRev tTruth a2_1)],[]⟩)
 |.l3 x1_8 x2_7 x2_10 x3_13 a3_1=>(cutOf Tryz.f51 3,⟨mk 114 [(1,tint.lst but),(2,.ref 0 0 0),(7,tTruth.lst x2_7),(8,iI x1_8),(9,.row 1 a3_1.length),(10,iI x2_10),(11,tint.lst (((x2_7.getD (x2_10).toNat tTruth.zero).haves).getD (x1_8).toNat (tlist tint).zero)),(12,tPair.lst (pairsR (b.lines.getD (x1_8).toNat tLine.zero))),(13,iI x3_13)],[.cells (cC b),.rows 85 2 a3_1.length (rowsRev tTruth a3_1)],[]⟩)
def n51:R51->Exit × St
 |.r0 r0=>(.ret,⟨mk 114 [(4,tTruth.lst r0)],[],[]⟩)
def v51:R51->V
 |.r0 r0=>tTruth.lst r0
theorem s51(b:Book)(but:List Int):Sm 0 (g51 b but) (T51 b but) (n51)
 |.e=>⟨400,by kernel_rfl⟩
 |.l0 _ _=>⟨400,by kernel_rfl⟩
 |.l1 _ _=>⟨400,by kernel_rfl⟩
 |.l2 _ _ _ _=>⟨400,by kernel_rfl⟩
 |.l3 _ _ _ _ _=>⟨400,by kernel_rfl⟩
theorem q51:∀r,bodyQ Tryz.prog Tryz.f51 (·=v51 r) (n51 r).1 (n51 r).2
 |.r0 r0=>bq (tTruth.lst r0) (by kernel_rfl)
theorem w51(b:Book)(but:List Int){post:V->Prop}(h:WQ (T51 b but) v51 post .e):PC 51 [.agg (cC b),tint.lst but] post:=
 PCalls.wq Tryz.func51 (s51 b but) q51 h
def o51_23:Array Oper:=(regOf 23 (Tryz.f51.body.getD .skip)).getD #[]
@[reducible] def st51_23 (b:Book) (but:List Int) (o:List Truth) (i:Int) (n:Int) (hv:List Int) (ps:List Pair) (m:Int) (af:List Int) (A:List Truth) (c:Nat->Bool):St:=⟨[uU,tint.lst but,.ref 0 0 0,uU,uU,uU,uU,tTruth.lst o,iI i,.row 1 A.length,iI n,tint.lst hv,tPair.lst ps,iI m,tint.lst af,uU,uU,uU,uU,uU,uU,uU,uU,uU,uU,uU,uU,uU,uU,uU,uU,uU,uU,uU,uU,uU,uU,uU,uU,uU,uU,uU,uU,uU,uU,uU,uU,uU,uU,uU,uU,uU,uU,uU,uU,uU,uU,uU,uU,uU,uU,uU,uU,uU,uU,uU,uU,uU,uU,uU,uU,uU,uU,uU,uU,uU,uU,uU,uU,uU,uU,uU,uU,uU,uU,(bif c 0 then .row 1 A.length else(uU)),(bif c 1 then .nils else(uU)),(bif c 2 then tTruth.lst o else(uU)),(bif c 3 then iI n else(uU)),(bif c 4 then .cref 2 fun q=>([tPair.lst ((o.getD (n).toNat tTruth.zero).pairs),(tlist tint).lst ((o.getD (n).toNat tTruth.zero).haves)]:List V).getD q uU else(uU)),(bif c 5 then .cref 2 fun q=>([tPair.lst ((o.getD (n).toNat tTruth.zero).pairs),(tlist tint).lst ((o.getD (n).toNat tTruth.zero).haves)]:List V).getD q uU else(uU)),(bif c 6 then tPair.lst ((o.getD (n).toNat tTruth.zero).pairs)else(uU)),(bif c 13 then uU else(bif c 7 then .row 2 ((o.getD (n).toNat tTruth.zero).pairs.length)else(uU))),(bif c 8 then tPair.lst ps else(uU)),(bif c 9 then iI m else(uU)),(bif c 10 then .cref 2 fun q=>([iI ((ps.getD (m).toNat tPair.zero).a),iI ((ps.getD (m).toNat tPair.zero).b)]:List V).getD q uU else(uU)),(bif c 11 then .agg [iI ((ps.getD (m).toNat tPair.zero).a),iI ((ps.getD (m).toNat tPair.zero).b)]else(uU)),(bif c 12 then .list 2 1 (litC 2 1 [iI ((ps.getD (m).toNat tPair.zero).a),iI ((ps.getD (m).toNat tPair.zero).b)])else(uU)),(bif c 24 then tPair.lst (((o.getD (n).toNat tTruth.zero).pairs)++ [(ps.getD (m).toNat tPair.zero)])else(bif c 13 then .row 2 ((o.getD (n).toNat tTruth.zero).pairs.length+1)else(uU))),(bif c 14 then .nils else(uU)),(bif c 15 then tTruth.lst o else(uU)),(bif c 16 then iI n else(uU)),(bif c 17 then .cref 2 fun q=>([tPair.lst ((o.getD (n).toNat tTruth.zero).pairs),(tlist tint).lst ((o.getD (n).toNat tTruth.zero).haves)]:List V).getD q uU else(uU)),(bif c 18 then rR ((tlist tint).lst ((o.getD (n).toNat tTruth.zero).haves))else(uU)),(bif c 19 then(tlist tint).lst ((o.getD (n).toNat tTruth.zero).haves)else(uU)),(bif c 23 then uU else(bif c 20 then .row 3 ((o.getD (n).toNat tTruth.zero).haves.length)else(uU))),(bif c 21 then tint.lst af else(uU)),(bif c 22 then .list 1 1 (litC 1 1 [tint.lst af])else(uU)),(bif c 24 then(tlist tint).lst (((o.getD (n).toNat tTruth.zero).haves)++ [af])else(bif c 23 then .row 3 ((o.getD (n).toNat tTruth.zero).haves.length+1)else(uU))),(bif c 24 then .agg [tPair.lst (((o.getD (n).toNat tTruth.zero).pairs)++ [(ps.getD (m).toNat tPair.zero)]),(tlist tint).lst (((o.getD (n).toNat tTruth.zero).haves)++ [af])]else(uU)),(bif c 25 then .list 2 1 (litC 2 1 [tPair.lst (((o.getD (n).toNat tTruth.zero).pairs)++ [(ps.getD (m).toNat tPair.zero)]),(tlist tint).lst (((o.getD (n).toNat tTruth.zero).haves)++ [af])])else(uU)),uU,uU,uU],[.cells (cC b),.rows 85 2 A.length (rowsRev tTruth A),(bif c 24 then .gone else(bif c 13 then .rows 95 2 ((o.getD (n).toNat tTruth.zero).pairs.length+1) (appC ((o.getD (n).toNat tTruth.zero).pairs.length) (rowsOf tPair ((o.getD (n).toNat tTruth.zero).pairs)) (litC 2 1 [iI ((ps.getD (m).toNat tPair.zero).a),iI ((ps.getD (m).toNat tPair.zero).b)]))else(bif c 7 then .rows 95 2 ((o.getD (n).toNat tTruth.zero).pairs.length) (rowsOf tPair ((o.getD (n).toNat tTruth.zero).pairs))else(.void)))),(bif c 24 then .gone else(bif c 23 then .rows 37 1 ((o.getD (n).toNat tTruth.zero).haves.length+1) (appC ((o.getD (n).toNat tTruth.zero).haves.length) (rowsOf (tlist tint) ((o.getD (n).toNat tTruth.zero).haves)) (litC 1 1 [tint.lst af]))else(bif c 20 then .rows 37 1 ((o.getD (n).toNat tTruth.zero).haves.length) (rowsOf (tlist tint) ((o.getD (n).toNat tTruth.zero).haves))else(.void))))],[]⟩
def t51_23:Tab:=[([],[1,2,3,4,5,6,7,8,9,10,11,12,13,14,15,16,17,18,19,20,21,22,23,24,25]),([],[0,2,3,4,5,6,8,9,10,11,12,14,15,16,17,18,19,21,22]),([],[0,1,3,8,9,10,11,12,14,15,16,17,18,19,21,22]),([],[0,1,2,8,9,10,11,12,14,15,16,17,18,19,21,22]),([2,3],[0,1,8,9,10,11,12,14,15,16,17,18,19,21,22]),([2,3,4],[0,1,8,9,10,11,12,14,15,16,17,18,19,21,22]),([2,3,4,5],[0,1,8,9,10,11,12,14,15,16,17,18,19,21,22]),([1,2,3,4,5,6],[0,8,9,10,11,12,14,15,16,17,18,19,21,22]),([],[0,1,2,3,4,5,6,7,9,14,15,16,17,18,19,21,22]),([],[0,1,2,3,4,5,6,7,8,14,15,16,17,18,19,21,22]),([8,9],[0,1,2,3,4,5,6,7,14,15,16,17,18,19,21,22]),([8,9,10],[0,1,2,3,4,5,6,7,14,15,16,17,18,19,21,22]),([8,9,10,11],[0,1,2,3,4,5,6,7,14,15,16,17,18,19,21,22]),([1,2,3,4,5,6,7,8,9,10,11,12],[0,14,15,16,17,18,19,21,22]),([],[0,1,2,3,4,5,6,7,8,9,10,11,12,13,15,16,17,18,19,21,22]),([],[0,1,2,3,4,5,6,7,8,9,10,11,12,13,14,16,21,22]),([],[0,1,2,3,4,5,6,7,8,9,10,11,12,13,14,15,21,22]),([15,16],[0,1,2,3,4,5,6,7,8,9,10,11,12,13,14,21,22]),([15,16,17],[0,1,2,3,4,5,6,7,8,9,10,11,12,13,14,21,22]),([15,16,17,18],[0,1,2,3,4,5,6,7,8,9,10,11,12,13,14,21,22]),([1,2,3,4,5,6,7,8,9,10,11,12,13,14,15,16,17,18,19],[0,21,22]),([],[0,1,2,3,4,5,6,7,8,9,10,11,12,13,14,15,16,17,18,19,20]),([21],[0,1,2,3,4,5,6,7,8,9,10,11,12,13,14,15,16,17,18,19,20]),([1,2,3,4,5,6,7,8,9,10,11,12,13,14,15,16,17,18,19,20,21,22],[0]),([1,2,3,4,5,6,7,8,9,10,11,12,13,14,15,16,17,18,19,20,21,22,23],[0]),([1,2,3,4,5,6,7,8,9,10,11,12,13,14,15,16,17,18,19,20,21,22,23,24],[0])]
theorem ov51_23(b:Book)(but:List Int)(o:List Truth)(i:Int)(n:Int)(hv:List Int)(ps:List Pair)(m:Int)(af:List Int)(A:List Truth)(h1:(decide (0<=n)&&decide (n<(o.length:Int)))=true)(h2:(decide (0<=m)&&decide (m<(ps.length:Int)))=true)(h3:(o.getD n.toNat tTruth.zero).pairs.length+1<=4294967296)(h4:(o.getD n.toNat tTruth.zero).haves.length+1<=4294967296)(h5:A.length+1<=4294967296):AWP Tryz.prog ⟨none,0⟩ (regionOf Tryz.f51 23) ⟨[uU,tint.lst but,.ref 0 0 0,uU,uU,uU,uU,tTruth.lst o,iI i,.row 1 A.length,iI n,tint.lst hv,tPair.lst ps,iI m,tint.lst af,uU,uU,uU,uU,uU,uU,uU,uU,uU,uU,uU,uU,uU,uU,uU,uU,uU,uU,uU,uU,uU,uU,uU,uU,uU,uU,uU,uU,uU,uU,uU,uU,uU,uU,uU,uU,uU,uU,uU,uU,uU,uU,uU,uU,uU,uU,uU,uU,uU,uU,uU,uU,uU,uU,uU,uU,uU,uU,uU,uU,uU,uU,uU,uU,uU,uU,uU,uU,uU,uU,uU,uU,uU,uU,uU,uU,uU,uU,uU,uU,uU,uU,uU,uU,uU,uU,uU,uU,uU,uU,uU,uU,uU,uU,uU,uU,uU,uU,uU],[.cells (cC b),.rows 85 2 A.length (rowsRev tTruth A)],[]⟩ (fun e T=>e=.normal/\T=⟨[uU,tint.lst but,.ref 0 0 0,uU,uU,uU,uU,tTruth.lst o,iI i,.row 1 (A.length+1),iI n,tint.lst hv,tPair.lst ps,iI m,tint.lst af,uU,uU,uU,uU,uU,uU,uU,uU,uU,uU,uU,uU,uU,uU,uU,uU,uU,uU,uU,uU,uU,uU,uU,uU,uU,uU,uU,uU,uU,uU,uU,uU,uU,uU,uU,uU,uU,uU,uU,uU,uU,uU,uU,uU,uU,uU,uU,uU,uU,uU,uU,uU,uU,uU,uU,uU,uU,uU,uU,uU,uU,uU,uU,uU,uU,uU,uU,uU,uU,uU,uU,.nils,tTruth.lst o,iI n,.cref 2 fun q=>([tPair.lst ((o.getD (n).toNat tTruth.zero).pairs),(tlist tint).lst ((o.getD (n).toNat tTruth.zero).haves)]:List V).getD q uU,.cref 2 fun q=>([tPair.lst ((o.getD (n).toNat tTruth.zero).pairs),(tlist tint).lst ((o.getD (n).toNat tTruth.zero).haves)]:List V).getD q uU,tPair.lst ((o.getD (n).toNat tTruth.zero).pairs),uU,tPair.lst ps,iI m,.cref 2 fun q=>([iI ((ps.getD (m).toNat tPair.zero).a),iI ((ps.getD (m).toNat tPair.zero).b)]:List V).getD q uU,.agg [iI ((ps.getD (m).toNat tPair.zero).a),iI ((ps.getD (m).toNat tPair.zero).b)],.list 2 1 (litC 2 1 [iI ((ps.getD (m).toNat tPair.zero).a),iI ((ps.getD (m).toNat tPair.zero).b)]),tPair.lst (((o.getD (n).toNat tTruth.zero).pairs)++ [(ps.getD (m).toNat tPair.zero)]),.nils,tTruth.lst o,iI n,.cref 2 fun q=>([tPair.lst ((o.getD (n).toNat tTruth.zero).pairs),(tlist tint).lst ((o.getD (n).toNat tTruth.zero).haves)]:List V).getD q uU,rR ((tlist tint).lst ((o.getD (n).toNat tTruth.zero).haves)),(tlist tint).lst ((o.getD (n).toNat tTruth.zero).haves),uU,tint.lst af,.list 1 1 (litC 1 1 [tint.lst af]),(tlist tint).lst (((o.getD (n).toNat tTruth.zero).haves)++ [af]),.agg [tPair.lst (((o.getD (n).toNat tTruth.zero).pairs)++ [(ps.getD (m).toNat tPair.zero)]),(tlist tint).lst (((o.getD (n).toNat tTruth.zero).haves)++ [af])],.list 2 1 (litC 2 1 [tPair.lst (((o.getD (n).toNat tTruth.zero).pairs)++ [(ps.getD (m).toNat tPair.zero)]),(tlist tint).lst (((o.getD (n).toNat tTruth.zero).haves)++ [af])]),.row 1 (A.length+1),uU,uU],[.cells (cC b),.rows 85 2 (A.length+1) (rowsRev tTruth ((⟨(((o.getD (n).toNat tTruth.zero).pairs)++ [(ps.getD (m).toNat tPair.zero)]),(((o.getD (n).toNat tTruth.zero).haves)++ [af])⟩:Truth)::A)),.gone,.gone],[]⟩):=by
 refine AWP.region_bits (ops:=o51_23) 26 2 t51_23 mx (st51_23 b but o i n hv ps m af A) (fun z_i z_h c=> ?_) ?_
 ·rcases show z_i=0\/z_i=1\/z_i=2\/z_i=3\/z_i=4\/z_i=5\/z_i=6\/z_i=7\/z_i=8\/z_i=9\/z_i=10\/z_i=11\/z_i=12\/z_i=13\/z_i=14\/z_i=15\/z_i=16\/z_i=17\/z_i=18\/z_i=19\/z_i=20\/z_i=21\/z_i=22\/z_i=23\/z_i=24\/z_i=25 by omega with rfl|rfl|rfl|rfl|rfl|rfl|rfl|rfl|rfl|rfl|rfl|rfl|rfl|rfl|rfl|rfl|rfl|rfl|rfl|rfl|rfl|rfl|rfl|rfl|rfl|rfl
  ·exact AStep.rd true (.row 1 A.length) rfl
  ·exact AStep.lt 30 95 0 #[] [iI 0,iI 0] []
  ·exact AStep.rd true (tTruth.lst o) rfl
  ·exact AStep.rd true (iI n) rfl
  ·refine AStep.rd ((decide (0<=n)&&decide (n<(o.length:Int)))) (.cref 2 fun q=>([tPair.lst ((o.getD (n).toNat tTruth.zero).pairs),(tlist tint).lst ((o.getD (n).toNat tTruth.zero).haves)]:List V).getD q uU) ?_;first|assumption|rfl|(simp[*];done)|(simp;omega)|(simp only[Bool.and_eq_true,decide_eq_true_eq];omega)
  ·exact AStep.rd true (.cref 2 fun q=>([tPair.lst ((o.getD (n).toNat tTruth.zero).pairs),(tlist tint).lst ((o.getD (n).toNat tTruth.zero).haves)]:List V).getD q uU) rfl
  ·exact AStep.rd true (tPair.lst ((o.getD (n).toNat tTruth.zero).pairs)) rfl
  ·refine AStep.ap0 (.tmp 86) (.tmp 91) 30 95 2 2 ((o.getD (n).toNat tTruth.zero).pairs.length) (rowsOf tPair ((o.getD (n).toNat tTruth.zero).pairs)) [iI 0,iI 0] ?_ ?_
   ·first|omega|(simp;done)|(simp;omega)
   ·intro r hr j hj;first|(have hj0:j=0:=by omega;subst hj0;rfl)|(rcases show j=0\/j=1 by omega with rfl|rfl<;>rfl)
  ·exact AStep.rd true (tPair.lst ps) rfl
  ·exact AStep.rd true (iI m) rfl
  ·refine AStep.rd ((decide (0<=m)&&decide (m<(ps.length:Int)))) (.cref 2 fun q=>([iI ((ps.getD (m).toNat tPair.zero).a),iI ((ps.getD (m).toNat tPair.zero).b)]:List V).getD q uU) ?_;first|assumption|rfl|(simp[*];done)|(simp;omega)|(simp only[Bool.and_eq_true,decide_eq_true_eq];omega)
  ·exact AStep.rd true (.agg [iI ((ps.getD (m).toNat tPair.zero).a),iI ((ps.getD (m).toNat tPair.zero).b)]) rfl
  ·exact AStep.lt 30 95 1 #[(0,.tmp 96)] [iI 0,iI 0] [iI ((ps.getD (m).toNat tPair.zero).a),iI ((ps.getD (m).toNat tPair.zero).b)]
  ·refine AStep.ap 30 (.tmp 92) (.tmp 97) 2 (.rows 95 2 ((o.getD (n).toNat tTruth.zero).pairs.length+1) (appC ((o.getD (n).toNat tTruth.zero).pairs.length) (rowsOf tPair ((o.getD (n).toNat tTruth.zero).pairs)) (litC 2 1 [iI ((ps.getD (m).toNat tPair.zero).a),iI ((ps.getD (m).toNat tPair.zero).b)]))) ((decide ((o.getD (n).toNat tTruth.zero).pairs.length=(o.getD (n).toNat tTruth.zero).pairs.length)&&decide ((o.getD (n).toNat tTruth.zero).pairs.length+1<=4294967296))&&true) (fun _=>true) (.row 2 ((o.getD (n).toNat tTruth.zero).pairs.length+1)) ?_ ?_ ?_
   ·first|(simp;done)|(simp;omega)|(simp[*];done)|(simp[-List.getD_eq_getElem?_getD];omega)
   ·intro r;rfl
   ·simp only[killS,List.map_cons,List.map_nil,killV_bif,killB_bif];kernel_rfl
  ·exact AStep.lt 61 37 0 #[] [.nils] []
  ·exact AStep.rd true (tTruth.lst o) rfl
  ·exact AStep.rd true (iI n) rfl
  ·refine AStep.rd ((decide (0<=n)&&decide (n<(o.length:Int)))) (.cref 2 fun q=>([tPair.lst ((o.getD (n).toNat tTruth.zero).pairs),(tlist tint).lst ((o.getD (n).toNat tTruth.zero).haves)]:List V).getD q uU) ?_;first|assumption|rfl|(simp[*];done)|(simp;omega)|(simp only[Bool.and_eq_true,decide_eq_true_eq];omega)
  ·exact AStep.rd true (rR ((tlist tint).lst ((o.getD (n).toNat tTruth.zero).haves))) rfl
  ·exact AStep.rd true ((tlist tint).lst ((o.getD (n).toNat tTruth.zero).haves)) rfl
  ·refine AStep.ap0 (.tmp 99) (.tmp 104) 61 37 3 1 ((o.getD (n).toNat tTruth.zero).haves.length) (rowsOf (tlist tint) ((o.getD (n).toNat tTruth.zero).haves)) [.nils] ?_ ?_
   ·first|omega|(simp;done)|(simp;omega)
   ·intro r hr j hj;first|(have hj0:j=0:=by omega;subst hj0;rfl)|(rcases show j=0 by omega with rfl<;>rfl)
  ·exact AStep.rd true (tint.lst af) rfl
  ·exact AStep.lt 61 37 1 #[(0,.tmp 106)] [.nils] [tint.lst af]
  ·refine AStep.ap 61 (.tmp 105) (.tmp 107) 3 (.rows 37 1 ((o.getD (n).toNat tTruth.zero).haves.length+1) (appC ((o.getD (n).toNat tTruth.zero).haves.length) (rowsOf (tlist tint) ((o.getD (n).toNat tTruth.zero).haves)) (litC 1 1 [tint.lst af]))) ((decide ((o.getD (n).toNat tTruth.zero).haves.length=(o.getD (n).toNat tTruth.zero).haves.length)&&decide ((o.getD (n).toNat tTruth.zero).haves.length+1<=4294967296))&&true) (fun _=>true) (.row 3 ((o.getD (n).toNat tTruth.zero).haves.length+1)) ?_ ?_ ?_
   ·first|(simp;done)|(simp;omega)|(simp[*];done)|(simp[-List.getD_eq_getElem?_getD];omega)
   ·intro r;rfl
   ·simp only[killS,List.map_cons,List.map_nil,killV_bif,killB_bif];kernel_rfl
  ·rw[mkb_free t51_23 24 false c [0] rfl,mkb_free t51_23 24 true c [0] rfl];simp only[List.map_cons,List.map_nil];generalize c 0=c0
   cases c0
   ·refine AStep.tree (g:=(.wait 0 (.frz 2 ((decide (((o.getD (n).toNat tTruth.zero).pairs.length+1)<=((o.getD (n).toNat tTruth.zero).pairs.length+1)))&&true) (.wait 0 (.vle 98 (.list 2 ((o.getD (n).toNat tTruth.zero).pairs.length+1) (appC ((o.getD (n).toNat tTruth.zero).pairs.length) (rowsOf tPair ((o.getD (n).toNat tTruth.zero).pairs)) (litC 2 1 [iI ((ps.getD (m).toNat tPair.zero).a),iI ((ps.getD (m).toNat tPair.zero).b)]))) (tPair.lst (((o.getD (n).toNat tTruth.zero).pairs)++ [(ps.getD (m).toNat tPair.zero)])) (.wait 0 (.frz 3 ((decide (((o.getD (n).toNat tTruth.zero).haves.length+1)<=((o.getD (n).toNat tTruth.zero).haves.length+1)))&&true) (.wait 0 (.vle 108 (.list 1 ((o.getD (n).toNat tTruth.zero).haves.length+1) (appC ((o.getD (n).toNat tTruth.zero).haves.length) (rowsOf (tlist tint) ((o.getD (n).toNat tTruth.zero).haves)) (litC 1 1 [tint.lst af]))) ((tlist tint).lst (((o.getD (n).toNat tTruth.zero).haves)++ [af])) (.done .normal (st51_23 b but o i n hv ps m af A (mkb t51_23 24 true fun j=>([false]:List Bool).getD (([0]:List Nat).findIdx (Nat.beq j)) false)))))))))))) (by kernel_rfl) ?_
    simp only[DT.holds];have z_v:= @VLe.refl;repeat' (first|exact rfl|refine And.intro ?_ ?_)
    all_goals first|(simp;done)|(exact VLe.appS _ _ _ (by kernel_rfl) (by first|rfl|(simp;done)))
   ·refine AStep.tree (g:=(.wait 0 (.frz 2 ((decide (((o.getD (n).toNat tTruth.zero).pairs.length+1)<=((o.getD (n).toNat tTruth.zero).pairs.length+1)))&&true) (.wait 0 (.vle 98 (.list 2 ((o.getD (n).toNat tTruth.zero).pairs.length+1) (appC ((o.getD (n).toNat tTruth.zero).pairs.length) (rowsOf tPair ((o.getD (n).toNat tTruth.zero).pairs)) (litC 2 1 [iI ((ps.getD (m).toNat tPair.zero).a),iI ((ps.getD (m).toNat tPair.zero).b)]))) (tPair.lst (((o.getD (n).toNat tTruth.zero).pairs)++ [(ps.getD (m).toNat tPair.zero)])) (.wait 0 (.frz 3 ((decide (((o.getD (n).toNat tTruth.zero).haves.length+1)<=((o.getD (n).toNat tTruth.zero).haves.length+1)))&&true) (.wait 0 (.vle 108 (.list 1 ((o.getD (n).toNat tTruth.zero).haves.length+1) (appC ((o.getD (n).toNat tTruth.zero).haves.length) (rowsOf (tlist tint) ((o.getD (n).toNat tTruth.zero).haves)) (litC 1 1 [tint.lst af]))) ((tlist tint).lst (((o.getD (n).toNat tTruth.zero).haves)++ [af])) (.done .normal (st51_23 b but o i n hv ps m af A (mkb t51_23 24 true fun j=>([true]:List Bool).getD (([0]:List Nat).findIdx (Nat.beq j)) false)))))))))))) (by kernel_rfl) ?_
    simp only[DT.holds];have z_v:= @VLe.refl;repeat' (first|exact rfl|refine And.intro ?_ ?_)
    all_goals first|(simp;done)|(exact VLe.appS _ _ _ (by kernel_rfl) (by first|rfl|(simp;done)))
  ·exact AStep.lt 82 85 1 #[(0,.tmp 109)] [.nils,.nils] [tPair.lst (((o.getD (n).toNat tTruth.zero).pairs)++ [(ps.getD (m).toNat tPair.zero)]),(tlist tint).lst (((o.getD (n).toNat tTruth.zero).haves)++ [af])]
 ·refine AOps.tree (g:=(.need ((decide (A.length=A.length)&&decide (A.length+1<=4294967296))&&true) (.scal (fun _=>true) (.done .normal ⟨[uU,tint.lst but,.ref 0 0 0,uU,uU,uU,uU,tTruth.lst o,iI i,.row 1 (A.length+1),iI n,tint.lst hv,tPair.lst ps,iI m,tint.lst af,uU,uU,uU,uU,uU,uU,uU,uU,uU,uU,uU,uU,uU,uU,uU,uU,uU,uU,uU,uU,uU,uU,uU,uU,uU,uU,uU,uU,uU,uU,uU,uU,uU,uU,uU,uU,uU,uU,uU,uU,uU,uU,uU,uU,uU,uU,uU,uU,uU,uU,uU,uU,uU,uU,uU,uU,uU,uU,uU,uU,uU,uU,uU,uU,uU,uU,uU,uU,uU,uU,uU,.nils,tTruth.lst o,iI n,.cref 2 fun q=>([tPair.lst ((o.getD (n).toNat tTruth.zero).pairs),(tlist tint).lst ((o.getD (n).toNat tTruth.zero).haves)]:List V).getD q uU,.cref 2 fun q=>([tPair.lst ((o.getD (n).toNat tTruth.zero).pairs),(tlist tint).lst ((o.getD (n).toNat tTruth.zero).haves)]:List V).getD q uU,tPair.lst ((o.getD (n).toNat tTruth.zero).pairs),uU,tPair.lst ps,iI m,.cref 2 fun q=>([iI ((ps.getD (m).toNat tPair.zero).a),iI ((ps.getD (m).toNat tPair.zero).b)]:List V).getD q uU,.agg [iI ((ps.getD (m).toNat tPair.zero).a),iI ((ps.getD (m).toNat tPair.zero).b)],.list 2 1 (litC 2 1 [iI ((ps.getD (m).toNat tPair.zero).a),iI ((ps.getD (m).toNat tPair.zero).b)]),tPair.lst (((o.getD (n).toNat tTruth.zero).pairs)++ [(ps.getD (m).toNat tPair.zero)]),.nils,tTruth.lst o,iI n,.cref 2 fun q=>([tPair.lst ((o.getD (n).toNat tTruth.zero).pairs),(tlist tint).lst ((o.getD (n).toNat tTruth.zero).haves)]:List V).getD q uU,rR ((tlist tint).lst ((o.getD (n).toNat tTruth.zero).haves)),(tlist tint).lst ((o.getD (n).toNat tTruth.zero).haves),uU,tint.lst af,.list 1 1 (litC 1 1 [tint.lst af]),(tlist tint).lst (((o.getD (n).toNat tTruth.zero).haves)++ [af]),.agg [tPair.lst (((o.getD (n).toNat tTruth.zero).pairs)++ [(ps.getD (m).toNat tPair.zero)]),(tlist tint).lst (((o.getD (n).toNat tTruth.zero).haves)++ [af])],.list 2 1 (litC 2 1 [tPair.lst (((o.getD (n).toNat tTruth.zero).pairs)++ [(ps.getD (m).toNat tPair.zero)]),(tlist tint).lst (((o.getD (n).toNat tTruth.zero).haves)++ [af])]),.row 1 (A.length+1),uU,uU],[.cells (cC b),.rows 85 2 (A.length+1) (rowsRev tTruth ((⟨(((o.getD (n).toNat tTruth.zero).pairs)++ [(ps.getD (m).toNat tPair.zero)]),(((o.getD (n).toNat tTruth.zero).haves)++ [af])⟩:Truth)::A)),.gone,.gone],[]⟩)))) (by kernel_rfl) ?_
  simp only[DT.holds];repeat' (first|exact rfl|refine And.intro ?_ ?_)
  all_goals first|(simp;done)|(simp;omega)
theorem truthsTo_next(b:Book)(but:List Int)(i:Nat):truthsTo b but (i+1)=(truthsTo b but i).flatMap fun t=>stepTo b but i t (pairsR (b.lines.getD i zLine)).length:=rfl
def firstTo(i:Nat):List Int:=(List.range i).map fun(i:Nat)=>(i:Int)
theorem firstTo_next(i:Nat):(firstTo (i+1)).reverse=(i:Int)::(firstTo i).reverse:=by unfold firstTo;rw[List.range_succ];simp
theorem rev1(n:Int)(r j:Nat)(hr:r<1)(hj:j<1):VLe (litC 1 1 [iI n] r j) (rowsRev tint [n] r j):=by
 obtain rfl:r=0:=by omega
 obtain rfl:j=0:=by omega
 exact VLe.refl _
theorem lit1L(l:List Int):VLe (.list 1 1 (litC 1 1 [tint.lst l])) ((tlist tint).lst [l]):=VLe.lit (tlist tint) [l] rfl rfl (fun _=>rfl)
theorem litT(hs:List (List Int)):VLe (.list 2 1 (litC 2 1 [.nils,(tlist tint).lst hs])) (tTruth.lst [⟨[],hs⟩]):=fun G β x hx=>by
 cases hx with
 |list hG hs2 hc hn h=>
  refine .list hG hs2 hc hn fun i j hi hj=> ?_;have q:=h i j hi hj;have hi':i<1:=hi;have hj':j<2:=hj;obtain rfl:i=0:=by omega
  rcases show j=0\/j=1 by omega with rfl|rfl
  ·exact VLe.nils _ _ _ q
  ·exact q
theorem c51(b:Book)(but:List Int)(h:OkBook b):PC 51 [.agg (tBook.cells b),tint.lst but] (·=tTruth.lst (truthsR b but)):=by
 have hnb:=h.nb;have hnl:=h.nl
 have hmain:WP Tryz.prog ⟨none,0⟩ (T51 b but) (Ends' fun r=>v51 r=tTruth.lst (truthsR b but)) (.l1 (truthsTo b but 0) 0):=by
  refine WP.run (fun i=>.l1 (truthsTo b but i) (i:Int)) rfl b.lines.length (fun i hi=> ?_) ?_
  ·have hr:inR .i64 ((i:Int)+1)=true:=inR64 (by omega) (by omega);have hi':(i:Int)<b.lines.length:=by omega
   have hok:=truthsTo_ok b but i;have hsm:=truthsTo_small b but (i:=i) (by omega);have hln:=h.line hi;rw[truthsTo_next];refine WP.step ?_;simp only[T51,Go,Ends',v51,Tr.sure,SS,hi'];repeat' with_reducible first|intro _|apply aI
   have hP:=pairs_len (b.lines.getD i zLine);have k56:=c56 (b.lines.getD i zLine);generalize hL:truthsTo b but i=L at*
   refine WP.run (fun k=>.l2 (i:Int) L (k:Int) ((L.take k).flatMap fun t=>stepTo b but i t (pairsR (b.lines.getD i zLine)).length).reverse) rfl L.length (fun k hk=> ?_) ?_
   ·have hr':inR .i64 ((k:Int)+1)=true:=inR64 (by omega) (by omega);have hk':(k:Int)<L.length:=by omega
    have hT:=hok _ (getD_mem zTruth L k hk);have hft:=flat_take (fun t=>stepTo b but i t (pairsR (b.lines.getD i zLine)).length) zTruth L k hk;have hal:=flat_le (l:=L.take k) (f:=fun t=>stepTo b but i t (pairsR (b.lines.getD i zLine)).length) (b:=10) fun x _=>Nat.le_trans (stepTo_len b but i x _) hP;simp only[List.length_take]at hal;generalize hacc:((L.take k).flatMap fun t=>stepTo b but i t (pairsR (b.lines.getD i zLine)).length).reverse=acc at*
    have hacl:acc.length<=1000000000:=by rw[<-hacc,List.length_reverse];omega
    generalize hX:L.getD k zTruth=X at*
    have hh1:(i:Int)<X.haves.length:=by rw[hT.nh];omega
    refine WP.step ?_;simp only[T51,Go,Ends',v51,Tr.sure,SS,hk',hi',z5,z10,hX];repeat' with_reducible first|intro _|apply aI
    all_goals first|exact k56|(simp_all [hh1,Go,Ends',v51,-List.getD_eq_getElem?_getD];done)|skip
    have hhv:(X.haves.getD i []).length=b.bodies.length:=hT.have_ _ (getD_mem [] _ i (by rw[hT.nh];omega));have hxp:X.pairs.length+1<=4294967296:=by rw[hT.np];omega
    have hxh:X.haves.length+1<=4294967296:=by rw[hT.nh];omega
    refine WP.run (fun p=>.l3 (i:Int) L (k:Int) (p:Int) ((stepTo b but i X p).reverse++acc)) (by simp[stepTo]) (pairsR (b.lines.getD i zLine)).length (fun p hp=> ?_) ?_
    ·have hr2:inR .i64 ((p:Int)+1)=true:=inR64 (by omega) (by omega);have hp':(p:Int)<(pairsR (b.lines.getD i zLine)).length:=by omega
     have hsl:=stepTo_len b but i X p;have hlen:((stepTo b but i X p).reverse++acc).length+1<=4294967296:=by simp only[List.length_append,List.length_reverse];omega
     have hpm:=getD_mem zPair _ p hp
     have k98:=c98 (X.haves.getD i []) (b.lines.getD i zLine) ((pairsR (b.lines.getD i zLine)).getD p zPair) (fun q=>by rw[hhv];exact(hln.ab (by omega)).1) (fun q=>by
      have hk0:=hln.kind;have:=pairs_in hln hpm (by omega)
      rw[hhv];omega) (by omega)
     rw[stepTo_next,List.reverse_append,List.append_assoc];unfold waysR;generalize hY:(pairsR (b.lines.getD i zLine)).getD p zPair=Y at*
     generalize(stepTo b but i X p).reverse++acc=B at*
     have kov:=fun(af:List Int)=>ov51_23 b but L (i:Int) (k:Int) (X.haves.getD i []) (pairsR (b.lines.getD i zLine)) (p:Int) af B (by rw[Bool.and_eq_true,decide_eq_true_eq,decide_eq_true_eq];omega) (by rw[Bool.and_eq_true,decide_eq_true_eq,decide_eq_true_eq];omega) (by rw[Int.toNat_natCast,z10,hX];exact hxp) (by rw[Int.toNat_natCast,z10,hX];exact hxh) hlen;simp only[Int.toNat_natCast,z10,z8,hX,hY]at kov
     cases hb:hasN but (i:Int)with
     |true=>
      refine WP.once ?_;simp only[T51,Tr.sure,SS,hp',hi',hk',z5,z10,z8,z6,hX,hY];repeat' with_reducible first|intro _|apply aI
      all_goals first|exact(c44 _ _)|exact k98|exact(kov _)|(simp[hr2,Go,Ends',v51,-List.getD_eq_getElem?_getD, *];done)|(simp_all [hr2,Go,Ends',v51,-List.getD_eq_getElem?_getD];done)
     |false=>
      refine WP.once ?_;simp only[T51,Tr.sure,SS,hp',hi',hk',z5,z10,z8,z6,hX,hY];repeat' with_reducible first|intro _|apply aI
      all_goals first|exact(c44 _ _)|exact k98|exact(kov _)|(simp[hr2,Go,Ends',v51,-List.getD_eq_getElem?_getD, *];done)|(simp_all [hr2,Go,Ends',v51,-List.getD_eq_getElem?_getD];done)
    ·rw[hft];refine WP.once ?_;simp only[T51,Tr.sure,SS,z5,Int.lt_irrefl];repeat' with_reducible first|intro _|apply aI
     all_goals simp[hr',Go,Ends',v51,-List.getD_eq_getElem?_getD, *]
   ·refine WP.once ?_;simp only[T51,Tr.sure,SS,hL,Int.lt_irrefl];repeat' with_reducible first|intro _|apply aI
    all_goals first|exact VLe.rev tTruth _|(simp[hr,Go,Ends',v51,-List.getD_eq_getElem?_getD, *];done)
  ·refine WP.step ?_;simp only[T51,Go,Ends',v51,Tr.sure,SS,Int.lt_irrefl];repeat' with_reducible first|intro _|apply aI
   all_goals simp[truthsR,Go,Ends',v51,-List.getD_eq_getElem?_getD, *]
 refine w51 b but (WP.step ?_);simp only[T51,Go,Ends',v51,Tr.sure,SS];repeat' with_reducible first|intro _|apply aI
 refine WP.run (fun i=>.l0 (i:Int) (firstTo i).reverse) rfl b.bodies.length (fun i hi=> ?_) ?_
 ·have hr:inR .i64 ((i:Int)+1)=true:=inR64 (by omega) (by omega);have hi':(i:Int)<b.bodies.length:=by omega
  have hl:(firstTo i).reverse.length+1<=4294967296:=by simp[firstTo];omega
  rw[firstTo_next];generalize(firstTo i).reverse=A at*
  refine WP.once ?_;simp only[T51,Tr.sure,SS,hi'];repeat' with_reducible first|intro _|apply aI
  all_goals first|exact(by with_reducible exact rev1 _ _ _ ‹_› ‹_›)|(simp[hr,hl,Go,Ends',v51,-List.getD_eq_getElem?_getD, *];done)
 have hm2:WP Tryz.prog ⟨none,0⟩ (T51 b but) (Ends' fun r=>v51 r=tTruth.lst (truthsR b but)) (.l1 [⟨[],[(firstTo b.bodies.length).reverse.reverse]⟩] 0):=by rw[List.reverse_reverse];exact hmain
 refine WP.step ?_;simp only[T51,Go,Ends',v51,Tr.sure,SS,Int.lt_irrefl];repeat' with_reducible first|intro _|apply aI
 all_goals first|exact hm2|exact VLe.rev tint _|exact(by with_reducible exact litT _)|exact(by with_reducible exact lit1L _)|(simp[Go,Ends',v51,-List.getD_eq_getElem?_getD, *];done)
end
noncomputable section
theorem mem_firstH{b:Book}{n:Int}:n∈firstH b↔0<=n/\n<b.bodies.length:=by
 unfold firstH;rw[List.mem_map];constructor
 ·rintro⟨i,hi,rfl⟩;rw[List.mem_range]at hi;omega
 ·intro h;exact⟨n.toNat,by rw[List.mem_range];omega,by omega⟩
def lineTo(b:Book)(day:Int)(i:Nat):Int:=natF (fun i n=>if(b.lines.getD i zLine).day<=day then(i:Int)+1 else n) 0 i
theorem lineTo_in(b:Book)(day:Int):∀i:Nat,0<=lineTo b day i/\lineTo b day i<=i
 |0=>⟨Int.le_refl _,Int.le_refl _⟩
 |i+1=>by
  have:=lineTo_in b day i;have e:lineTo b day (i+1)=if(b.lines.getD i zLine).day<=day then(i:Int)+1 else lineTo b day i:=rfl
  rw[e];split<;>omega
structure TrueOf(b:Book)(t:Truth):Prop where
 np:t.pairs.length=b.lines.length
 nh:t.haves.length=b.lines.length+1
 perm:∀l∈t.haves,l.Perm (firstH b)
theorem trueOf{b:Book}(h:OkBook b){but:List Int}{t:Truth}(ht:t∈truthsR b but):TrueOf b t:=
 ⟨(truthsTo_ok b but _ t ht).np,(truthsTo_ok b but _ t ht).nh,truthsTo_perm h but _ (Nat.le_refl _) t ht⟩
theorem TrueOf.at_{b:Book}{t:Truth}(h:TrueOf b t)(day:Int):(atR b t day).Perm (firstH b):=by
 have h1:0<=lineN b day/\lineN b day<=b.lines.length:=lineTo_in b day b.lines.length;exact h.perm _ (getD_mem [] _ _ (by rw[h.nh];omega))
theorem TrueOf.len{b:Book}{t:Truth}(h:TrueOf b t)(day:Int):(atR b t day).length=b.bodies.length:=by
 rw[(h.at_ day).length_eq];simp[firstH]
inductive P80
 |e
 |l0 (x0_7:Int) (x0_8:Int)
inductive R80
 |r0 (r0:List Int)
def T80(b:Book)(t:Truth)(day:Int):P80->Tr P80 R80
 |.e=>(.go (.l0 0 0))
 |.l0 x0_7 x0_8=>let c1:=x0_8+(1:Int);let c2:=x0_8<(b.lines.length:Int);(.br (decide c2) (.need (decide (0<=x0_8)&&decide c2) (.br (decide ((b.lines.getD (x0_8).toNat tLine.zero).day<=day)) (.need (inR .i64 c1) (.need (inR .i64 c1) (.go (.l0 c1 c1)))) (.need (inR .i64 c1) (.go (.l0 x0_7 c1))))) (.need (decide (0<=x0_7)&&decide (x0_7<(t.haves.length:Int))) (.out (.r0 (t.haves.getD (x0_7).toNat (tlist tint).zero)))))
noncomputable def g80(b:Book)(t:Truth)(day:Int):P80->List Item × St
 |.e=>bd Tryz.f80 [.agg (cC b),.agg [tPair.lst t.pairs,(tlist tint).lst t.haves],iI day] 28
 |.l0 x0_7 x0_8=>(cutOf Tryz.f80 0,⟨mk 31 [(2,iI day),(3,.ref 0 0 0),(4,.ref 1 0 0),(7,iI x0_7),(8,iI x0_8)],[.cells (cC b),.cells [tPair.lst t.pairs,(tlist tint).lst t.haves]],[]⟩)
def n80:R80->Exit × St
 |.r0 r0=>(.ret,⟨mk 31 [(6,tint.lst r0)],[],[]⟩)
def v80:R80->V
 |.r0 r0=>tint.lst r0
theorem s80(b:Book)(t:Truth)(day:Int):Sm 0 (g80 b t day) (T80 b t day) (n80)
 |.e=>⟨400,by kernel_rfl⟩
 |.l0 _ _=>⟨400,by kernel_rfl⟩
theorem q80:∀r,bodyQ Tryz.prog Tryz.f80 (·=v80 r) (n80 r).1 (n80 r).2
 |.r0 r0=>bq (tint.lst r0) (by kernel_rfl)
theorem w80(b:Book)(t:Truth)(day:Int){post:V->Prop}(h:WQ (T80 b t day) v80 post .e):PC 80 [.agg (cC b),.agg [tPair.lst t.pairs,(tlist tint).lst t.haves],iI day] post:=
 PCalls.wq Tryz.func80 (s80 b t day) q80 h
theorem c80(b:Book)(t:Truth)(day:Int)(h:OkBook b)(ht:TrueOf b t):PC 80 [.agg (tBook.cells b),.agg (tTruth.cells t),iI day] (·=tint.lst (atR b t day)):=by
 have hnl:=h.nl;have hnh:=ht.nh;refine w80 _ _ _ (WP.step ?_);simp only[T80,Go,Ends',v80,Tr.sure,SS];repeat' with_reducible first|intro _|apply aI
 refine WP.run (fun i=>.l0 (lineTo b day i) (i:Int)) rfl b.lines.length (fun i hi=> ?_) ?_
 ·have hr:inR .i64 ((i:Int)+1)=true:=inR64 (by omega) (by omega);have hi':(i:Int)<b.lines.length:=by omega
  have e:lineTo b day (i+1)=if(b.lines.getD i zLine).day<=day then(i:Int)+1 else lineTo b day i:=rfl
  rw[e];by_cases hd:(b.lines.getD i zLine).day<=day
  ·rw[if_pos hd];refine WP.once ?_;simp only[T80,Tr.sure,SS,hi',z5,hd];repeat' with_reducible first|intro _|apply aI
   all_goals simp[hr,Go,Ends',v80,-List.getD_eq_getElem?_getD, *]
  ·rw[if_neg hd];refine WP.once ?_;simp only[T80,Tr.sure,SS,hi',z5,hd];repeat' with_reducible first|intro _|apply aI
   all_goals simp[hr,Go,Ends',v80,-List.getD_eq_getElem?_getD, *]
 ·have h1:=lineTo_in b day b.lines.length;have h2:lineTo b day b.lines.length<t.haves.length:=by omega
  have h3:0<=lineTo b day b.lines.length:=h1.1;have e:atR b t day=t.haves.getD (lineTo b day b.lines.length).toNat []:=rfl;rw[e];refine WP.step ?_;simp only[T80,Go,Ends',v80,Tr.sure,SS,Int.lt_irrefl,z6];repeat' with_reducible first|intro _|apply aI
  all_goals first|(simp[h3,h2,Go,Ends',v80,-List.getD_eq_getElem?_getD, *];done)|(simp_all [h3,h2,Go,Ends',v80,-List.getD_eq_getElem?_getD];done)
theorem c51n(b:Book)(h:OkBook b):PC 51 [.agg (tBook.cells b),.nils] (·=tTruth.lst (truthsR b [])):=PCalls.arg (pre:=[.agg (tBook.cells b)]) (c51 b [] h) VLe.nils
end
noncomputable section
inductive P42
 |e
 |l0 (x0_5:Int)
inductive R42
 |r0 (r0:Int)
def T42(hv:List Int)(head:Int):P42->Tr P42 R42
 |.e=>(.go (.l0 0))
 |.l0 x0_5=>let c1:=x0_5<(hv.length:Int);(.br (decide c1) (.need (decide (0<=x0_5)&&decide c1) (.br ((hv.getD (x0_5).toNat tint.zero)==head) (.out (.r0 x0_5)) (.need (inR .i64 (x0_5+(1:Int))) (.go (.l0 (x0_5+(1:Int))))))) (.out (.r0 (-1))))
noncomputable def g42(hv:List Int)(head:Int):P42->List Item × St
 |.e=>bd Tryz.f42 [tint.lst hv,iI head] 17
 |.l0 x0_5=>(cutOf Tryz.f42 0,⟨mk 19 [(0,tint.lst hv),(1,iI head),(5,iI x0_5)],[],[]⟩)
def n42:R42->Exit × St
 |.r0 r0=>(.ret,⟨mk 19 [(4,iI r0)],[],[]⟩)
def v42:R42->V
 |.r0 r0=>iI r0
theorem s42(hv:List Int)(head:Int):Sm 0 (g42 hv head) (T42 hv head) (n42)
 |.e=>⟨400,by kernel_rfl⟩
 |.l0 _=>⟨400,by kernel_rfl⟩
theorem q42:∀r,bodyQ Tryz.prog Tryz.f42 (·=v42 r) (n42 r).1 (n42 r).2
 |.r0 r0=>bq (iI r0) (by kernel_rfl)
theorem w42(hv:List Int)(head:Int){post:V->Prop}(h:WQ (T42 hv head) v42 post .e):PC 42 [tint.lst hv,iI head] post:=
 PCalls.wq Tryz.func42 (s42 hv head) q42 h
theorem e42:∀xs w,(callFunc 42 xs).run Tryz.prog w=.ok (.enter 42 xs) w:=PCalls.enters Tryz.func42 (c:=Tryz.f42.body.getD .skip) (by kernel_rfl) (by kernel_rfl)
theorem c42(hv:List Int)(head:Int):PC 42 [tint.lst hv,iI head] (·=iI (bodyOf hv head)):=by
 refine PCalls.assume e42 0 (by simp) .list fun hl=> ?_;refine w42 _ _ (WP.step ?_);simp only[T42,Go,Ends',v42,Tr.sure,SS];repeat' with_reducible first|intro _|apply aI
 refine WP.findI (fun i=>.l0 i) rfl hv 0 (fun x=>x==head) (fun i hi=> ?_) fun hI=> ?_
 ·have hr:=inRi hi hl;refine WP.once ?_;simp only[T42,Tr.sure,SS,hi,z1];repeat' with_reducible first|intro _|apply aI
  all_goals first|(simp[hr,bodyOf,Go,Ends',v42,-List.getD_eq_getElem?_getD, *];done)|(simp_all [hr,bodyOf,Go,Ends',v42,-List.getD_eq_getElem?_getD];done)
 ·refine WP.step ?_;simp only[T42,Go,Ends',v42,Tr.sure,SS,Int.lt_irrefl];repeat' with_reducible first|intro _|apply aI
  all_goals simp[bodyOf,hI,Go,Ends',v42,-List.getD_eq_getElem?_getD, *]
inductive P43
 |e
 |l0 (x0_5:ByteArray) (x0_6:Int)
inductive R43
 |r0 (r0:ByteArray)
def T43(x:Body)(day:Int):P43->Tr P43 R43
 |.e=>(.go (.l0 (ByteArray.mk #[]) 0))
 |.l0 x0_5 x0_6=>let c1:=decide (0<=x0_6)&&decide (x0_6<(x.shown.length:Int));let c2:=x0_6+(1:Int);let c3:=x.shown.getD (x0_6).toNat tShown.zero;(.br (decide (x0_6<(x.shown.length:Int))) (.need c1 (.br (decide (c3.day<=day)) (.need c1 (.need (inR .i64 c2) (.go (.l0 (c3.as_) c2)))) (.need (inR .i64 c2) (.go (.l0 x0_5 c2))))) (.out (.r0 x0_5)))
noncomputable def g43(x:Body)(day:Int):P43->List Item × St
 |.e=>bd Tryz.f43 [.agg [.str x.name,tShown.lst x.shown],iI day] 27
 |.l0 x0_5 x0_6=>(cutOf Tryz.f43 0,⟨mk 29 [(1,iI day),(2,.ref 0 0 0),(5,.str x0_5),(6,iI x0_6)],[.cells [.str x.name,tShown.lst x.shown]],[]⟩)
def n43:R43->Exit × St
 |.r0 r0=>(.ret,⟨mk 29 [(4,.str r0)],[],[]⟩)
def v43:R43->V
 |.r0 r0=>.str r0
theorem s43(x:Body)(day:Int):Sm 0 (g43 x day) (T43 x day) (n43)
 |.e=>⟨400,by kernel_rfl⟩
 |.l0 _ _=>⟨400,by kernel_rfl⟩
theorem q43:∀r,bodyQ Tryz.prog Tryz.f43 (·=v43 r) (n43 r).1 (n43 r).2
 |.r0 r0=>bq (.str r0) (by kernel_rfl)
theorem w43(x:Body)(day:Int){post:V->Prop}(h:WQ (T43 x day) v43 post .e):PC 43 [.agg [.str x.name,tShown.lst x.shown],iI day] post:=
 PCalls.wq Tryz.func43 (s43 x day) q43 h
theorem c43(x:Body)(day:Int)(h:x.shown.length<=3):PC 43 [.agg (tBody.cells x),iI day] (·=.str (namedR x day)):=by
 refine w43 _ _ (WP.step ?_);simp only[T43,Go,Ends',v43,Tr.sure,SS];repeat' with_reducible first|intro _|apply aI
 refine WP.run (fun i=>.l0 (namedTo x day i) (i:Int)) rfl x.shown.length (fun i hi=> ?_) ?_
 ·have hr:inR .i64 ((i:Int)+1)=true:=inR64 (by omega) (by omega);have hi':(i:Int)<x.shown.length:=by omega
  have e:namedTo x day (i+1)=if(x.shown.getD i zShown).day<=day then(x.shown.getD i zShown).as_ else namedTo x day i:=rfl
  rw[e];by_cases hd:(x.shown.getD i zShown).day<=day
  ·rw[if_pos hd];refine WP.once ?_;simp only[T43,Tr.sure,SS,hi',z3,hd];repeat' with_reducible first|intro _|apply aI
   all_goals simp[hr,Go,Ends',v43,-List.getD_eq_getElem?_getD, *]
  ·rw[if_neg hd];refine WP.once ?_;simp only[T43,Tr.sure,SS,hi',z3,hd];repeat' with_reducible first|intro _|apply aI
   all_goals simp[hr,Go,Ends',v43,-List.getD_eq_getElem?_getD, *]
 ·have e:namedR x day=namedTo x day x.shown.length:=rfl;rw[e];refine WP.step ?_;simp only[T43,Go,Ends',v43,Tr.sure,SS,Int.lt_irrefl];repeat' with_reducible first|intro _|apply aI
inductive P54
 |e
inductive R54
 |r0 (r0:ByteArray)
def T54(b:Book)(t:Truth)(head:Int)(day:Int):P54->Tr P54 R54
 |.e=>let c2:=bodyOf (atR b t day) head;let c1:=b.bodies.getD (c2).toNat tBody.zero;(.front [(5,80,[.agg (cC b),.agg [tPair.lst t.pairs,(tlist tint).lst t.haves],iI day],tint.lst (atR b t day)),(7,42,[tint.lst (atR b t day),iI head],iI c2)] [] (((decide (0<=c2)&&decide (c2<(b.bodies.length:Int)))&&true)&&true) true (.call 43 [.agg [.str (c1.name),tShown.lst (c1.shown)],iI day] (.str (namedR c1 day)) true true (.out (.r0 (namedR c1 day)))))
noncomputable def g54(b:Book)(t:Truth)(head:Int)(day:Int):P54->List Item × St
 |.e=>bd Tryz.f54 [.agg (cC b),.agg [tPair.lst t.pairs,(tlist tint).lst t.haves],iI head,iI day] 17
def n54:R54->Exit × St
 |.r0 r0=>(.ret,⟨mk 21 [(8,.str r0)],[],[]⟩)
def v54:R54->V
 |.r0 r0=>.str r0
theorem s54(b:Book)(t:Truth)(head:Int)(day:Int):Sm 0 (g54 b t head day) (T54 b t head day) (n54)
 |.e=>⟨400,by kernel_rfl⟩
theorem q54:∀r,bodyQ Tryz.prog Tryz.f54 (·=v54 r) (n54 r).1 (n54 r).2
 |.r0 r0=>bq (.str r0) (by kernel_rfl)
theorem w54(b:Book)(t:Truth)(head:Int)(day:Int){post:V->Prop}(h:WQ (T54 b t head day) v54 post .e):PC 54 [.agg (cC b),.agg [tPair.lst t.pairs,(tlist tint).lst t.haves],iI head,iI day] post:=
 PCalls.wq Tryz.func54 (s54 b t head day) q54 h
theorem c54(b:Book)(t:Truth)(head day:Int)(h:OkBook b)(ht:TrueOf b t)(hh:0<=head/\head<b.bodies.length):PC 54 [.agg (tBook.cells b),.agg (tTruth.cells t),iI head,iI day] (·=.str (seenR b t head day)):=by
 have hm:head∈atR b t day:=((ht.at_ day).mem_iff).2 (mem_firstH.2 hh);obtain⟨h1,h2,h3⟩:=bodyOf_in hm;rw[ht.len day]at h2;have hs:=(shown_iff.1 (h.shown (i:=(bodyOf (atR b t day) head).toNat) (by omega))).1;have k80:=c80 b t day h ht;have k42:=c42 (atR b t day) head;have k43:=c43 (b.bodies.getD (bodyOf (atR b t day) head).toNat zBody) day hs;refine w54 _ _ _ _ (WP.step ?_);simp only[T54,Go,Ends',v54,Tr.sure,SS,z2]
 repeat' with_reducible first|intro _|apply aI
 all_goals first|exact k80|exact k42|exact k43|(simp[h1,h2,seenR,Go,Ends',v54,-List.getD_eq_getElem?_getD, *];done)
inductive P53
 |e
 |l0 (x0_11:Int)
inductive R53
 |r0 (r0:Bool)
def T53(b:Book)(t:Truth)(head:Int)(as_:ByteArray)(days:List Int):P53->Tr P53 R53
 |.e=>(.go (.l0 0))
 |.l0 x0_11=>let c1:=days.getD (x0_11).toNat tint.zero;let c2:=x0_11<(days.length:Int);(.br (decide c2) (.front [(7,54,[.agg (cC b),.agg [tPair.lst t.pairs,(tlist tint).lst t.haves],iI head,iI c1],.str (seenR b t head c1))] [] (((decide (0<=x0_11)&&decide c2)&&true)&&true) true (.br ((seenR b t head c1).toList==as_.toList) (.out (.r0 true)) (.need (inR .i64 (x0_11+(1:Int))) (.go (.l0 (x0_11+(1:Int))))))) (.out (.r0 false)))
noncomputable def g53(b:Book)(t:Truth)(head:Int)(as_:ByteArray)(days:List Int):P53->List Item × St
 |.e=>bd Tryz.f53 [.agg (cC b),.agg [tPair.lst t.pairs,(tlist tint).lst t.haves],iI head,.str as_,tint.lst days] 23
 |.l0 x0_11=>(cutOf Tryz.f53 0,⟨mk 28 [(2,iI head),(3,.str as_),(4,tint.lst days),(5,.ref 0 0 0),(6,.ref 1 0 0),(11,iI x0_11)],[.cells (cC b),.cells [tPair.lst t.pairs,(tlist tint).lst t.haves]],[]⟩)
def n53:R53->Exit × St
 |.r0 r0=>(.ret,⟨mk 28 [(10,.bool r0)],[],[]⟩)
def v53:R53->V
 |.r0 r0=>.bool r0
theorem s53(b:Book)(t:Truth)(head:Int)(as_:ByteArray)(days:List Int):Sm 0 (g53 b t head as_ days) (T53 b t head as_ days) (n53)
 |.e=>⟨400,by kernel_rfl⟩
 |.l0 _=>⟨400,by kernel_rfl⟩
theorem q53:∀r,bodyQ Tryz.prog Tryz.f53 (·=v53 r) (n53 r).1 (n53 r).2
 |.r0 r0=>bq (.bool r0) (by kernel_rfl)
theorem w53(b:Book)(t:Truth)(head:Int)(as_:ByteArray)(days:List Int){post:V->Prop}(h:WQ (T53 b t head as_ days) v53 post .e):PC 53 [.agg (cC b),.agg [tPair.lst t.pairs,(tlist tint).lst t.haves],iI head,.str as_,tint.lst days] post:=
 PCalls.wq Tryz.func53 (s53 b t head as_ days) q53 h
theorem e53:∀xs w,(callFunc 53 xs).run Tryz.prog w=.ok (.enter 53 xs) w:=PCalls.enters Tryz.func53 (c:=Tryz.f53.body.getD .skip) (by kernel_rfl) (by kernel_rfl)
theorem c53(b:Book)(t:Truth)(head:Int)(as_:ByteArray)(days:List Int)(h:OkBook b)(ht:TrueOf b t)(hh:0<=head/\head<b.bodies.length):PC 53 [.agg (tBook.cells b),.agg (tTruth.cells t),iI head,.str as_,tint.lst days] (·=.bool (shownR b t head as_ days)):=by
 refine PCalls.assume e53 4 (by simp) .list fun hl=> ?_;refine w53 _ _ _ _ _ (WP.step ?_);simp only[T53,Go,Ends',v53,Tr.sure,SS];repeat' with_reducible first|intro _|apply aI
 refine WP.findI (fun i=>.l0 i) rfl days 0 (fun d=>same (seenR b t head d) as_) (fun i hi=> ?_) fun hI=> ?_
 ·have hr:=inRi hi hl;have hi':(i:Int)<days.length:=by omega
  have k54:=c54 b t head (days.getD i 0) h ht hh;have ha:firstI (fun d=>same (seenR b t head d) as_) 0 days=some i->days.any (fun d=>same (seenR b t head d) as_)=true:=any_of_firstI;refine WP.once ?_;simp only[T53,Tr.sure,SS,hi',z1];repeat' with_reducible first|intro _|apply aI
  all_goals first|exact k54|(simp[hr,shownR,same,Go,Ends',v53,-List.getD_eq_getElem?_getD, *];done)|(simp_all [hr,shownR,same,Go,Ends',v53,-List.getD_eq_getElem?_getD];done)
 ·have ha:=any_of_none hI;refine WP.step ?_;simp only[T53,Go,Ends',v53,Tr.sure,SS,Int.lt_irrefl];repeat' with_reducible first|intro _|apply aI
  all_goals simp[shownR,ha,Go,Ends',v53,-List.getD_eq_getElem?_getD, *]
end
noncomputable section
def filtTo(p:Nat->Bool)(i:Nat):List Int:=((List.range i).filter p).map fun(i:Nat)=>(i:Int)
theorem filtTo_next(p:Nat->Bool)(i:Nat):(filtTo p (i+1)).reverse=if p i=true then(i:Int)::(filtTo p i).reverse else(filtTo p i).reverse:=by
 unfold filtTo;rw[List.range_succ,List.filter_append,List.map_append,List.reverse_append];by_cases h:p i=true
 ·simp[h]
 ·simp[h]
theorem filtTo_len(p:Nat->Bool)(i:Nat):(filtTo p i).length<=i:=by
 unfold filtTo;have:=List.length_filter_le p (List.range i);simp only[List.length_map,List.length_range]at*;omega
end
noncomputable section
def shownDays(x:Body):List Int:=x.shown.map fun s=>s.day
def dayP(b:Book)(d:Nat):Bool:=hasN (marksR b) (d:Int)||(hasN (marksR b) ((d:Int)+1)||(d:Int)==364)
theorem marks_len{b:Book}(h:OkBook b):(marksR b).length<=30:=by
 have h1:=flat_le (l:=b.bodies) (f:=shownDays) (b:=3) fun x hx=>by
  obtain⟨i,hi,rfl⟩:=mem_getD zBody hx;have:=(shown_iff.1 (h.shown hi)).1;unfold shownDays;simpa using this
 have h2:=h.nb;have h3:=h.nl;have e:marksR b=0::(b.lines.map fun x=>x.day)++b.bodies.flatMap shownDays:=rfl;rw[e];simp only[List.length_append,List.length_cons,List.length_map];omega
inductive P52
 |e
 |l0 (x0_4:Int) (a0_1:List Int)
 |l1 (x1_5:Int) (a1_1:List Int)
 |l2 (x1_5:Int) (x2_6:Int) (a2_1:List Int)
 |l3 (a1_1:List Int) (x3_8:Int) (a3_2:List Int)
inductive R52
 |r0 (r0:List Int)
def T52(b:Book):P52->Tr P52 R52
 |.e=>(.wait 8 (.telb 1 1 1 (litC 1 1 [iI 0]) (rowsRev tint ([0])) (.go (.l0 0 ([0])))))
 |.l0 x0_4 a0_1=>let c1:=b.lines.getD (x0_4).toNat tLine.zero;let c2:=x0_4<(b.lines.length:Int);(.br (decide c2) (.need (decide (0<=x0_4)&&decide c2) (.need ((decide (a0_1.length=a0_1.length)&&decide (a0_1.length+1<=4294967296))&&decide (1<=1)) (.scal (fun _=>true) (.need (inR .i64 (x0_4+(1:Int))) (.telb 2 1 1 (litC 1 1 [iI (c1.day)]) (rowsRev tint ([c1.day])) (.go (.l0 (x0_4+(1:Int)) (c1.day::a0_1)))))))) (.go (.l1 0 a0_1)))
 |.l1 x1_5 a1_1=>(.br (decide (x1_5<(b.bodies.length:Int))) (.go (.l2 x1_5 0 a1_1)) (.wait 3 (.own 7 3 1 (.go (.l3 a1_1 0 ([]))))))
 |.l2 x1_5 x2_6 a2_1=>let c1:=((b.bodies.getD (x1_5).toNat tBody.zero).shown).getD (x2_6).toNat tShown.zero;let c2:=x2_6<(((b.bodies.getD (x1_5).toNat tBody.zero).shown.length):Int);let c3:=decide (0<=x1_5)&&decide (x1_5<(b.bodies.length:Int));(.need c3 (.br (decide c2) (.need c3 (.need (decide (0<=x2_6)&&decide c2) (.need ((decide (a2_1.length=a2_1.length)&&decide (a2_1.length+1<=4294967296))&&decide (1<=1)) (.scal (fun _=>true) (.need (inR .i64 (x2_6+(1:Int))) (.telb 2 1 1 (litC 1 1 [iI (c1.day)]) (rowsRev tint ([c1.day])) (.go (.l2 x1_5 (x2_6+(1:Int)) (c1.day::a2_1))))))))) (.need (inR .i64 (x1_5+(1:Int))) (.go (.l1 (x1_5+(1:Int)) a2_1)))))
 |.l3 a1_1 x3_8 a3_2=>let c2:=(decide (a3_2.length=a3_2.length)&&decide (a3_2.length+1<=4294967296))&&decide (1<=1);let c3:=x3_8+(1:Int);let c1:Tr P52 R52:=.need (inR .i64 c3) (.telb 3 1 1 (litC 1 1 [iI x3_8]) (rowsRev tint ([x3_8])) (.go (.l3 a1_1 c3 (x3_8::a3_2))));let c4:=(decide (a1_1.length<=a1_1.length))&&true;(.br (decide (x3_8<=(364:Int))) (.call 44 [.list 1 a1_1.length (rowsRev tint a1_1),iI x3_8] (.bool (hasN a1_1.reverse x3_8)) c4 true (.br (hasN a1_1.reverse x3_8) (.lit true (.lit true (.need c2 (.scal (fun _=>true) c1)))) (.need (inR .i64 c3) (.call 44 [.list 1 a1_1.length (rowsRev tint a1_1),iI c3] (.bool (hasN a1_1.reverse c3)) c4 true (.br (hasN a1_1.reverse c3) (.lit true (.need c2 (.scal (fun _=>true) c1))) (.br (x3_8==(364:Int)) (.need c2 (.scal (fun _=>true) c1)) (.need (inR .i64 c3) (.go (.l3 a1_1 c3 a3_2))))))))) (.out (.r0 a3_2)))
noncomputable def g52(b:Book):P52->List Item × St
 |.e=>bd Tryz.f52 [.agg (cC b)] 78
 |.l0 x0_4 a0_1=>(cutOf Tryz.f52 0,⟨mk 79 [(1,.ref 0 0 0),(3,.row 1 a0_1.length),(4,iI x0_4)],[.cells (cC b),.rows 3 1 a0_1.length (rowsRev tint a0_1)],[]⟩)
 |.l1 x1_5 a1_1=>(cutOf Tryz.f52 1,⟨mk 79 [(1,.ref 0 0 0),(3,.row 1 a1_1.length),(5,iI x1_5)],[.cells (cC b),.rows 3 1 a1_1.length (rowsRev tint a1_1)],[]⟩)
 |.l2 x1_5 x2_6 a2_1=>(cutOf Tryz.f52 2,⟨mk 79 [(1,.ref 0 0 0),(3,.row 1 a2_1.length),(5,iI x1_5),(6,iI x2_6)],[.cells (cC b),.rows 3 1 a2_1.length (rowsRev tint a2_1)],[]⟩)
 |.l3 a1_1 x3_8 a3_2=>(cutOf Tryz.f52 3,⟨mk 79 [(3,.row 1 a1_1.length),(7,.row 2 a3_2.length),(8,iI x3_8)],[.gone,.rows 3 1 a1_1.length (rowsRev tint a1_1),.rows 3 1 a3_2.length (rowsRev tint a3_2)],[]⟩)
def n52:R52->Exit × St
 |.r0 r0=>(.ret,⟨mk 79 [(2,.row 2 r0.length)],[.gone,.gone,.rows 3 1 r0.length (rowsRev tint r0)],[]⟩)
def v52:R52->V
 |.r0 r0=>tint.lst r0.reverse
theorem s52(b:Book):Sm 0 (g52 b) (T52 b) (n52)
 |.e=>⟨400,by kernel_rfl⟩
 |.l0 _ _=>⟨400,by kernel_rfl⟩
 |.l1 _ _=>⟨400,by kernel_rfl⟩
 |.l2 _ _ _=>⟨400,by kernel_rfl⟩
 |.l3 _ _ _=>⟨400,by kernel_rfl⟩
theorem q52:∀r,bodyQ Tryz.prog Tryz.f52 (·=v52 r) (n52 r).1 (n52 r).2
 |.r0 r0=>⟨.inr rfl,by simp[n52],(.row 2 r0.length),(tint.lst r0.reverse),by kernel_rfl,(.weak (.row rfl (Nat.le_refl _)) (VLe.rev tint r0)),rfl⟩
theorem w52(b:Book){post:V->Prop}(h:WQ (T52 b) v52 post .e):PC 52 [.agg (cC b)] post:=
 PCalls.wq Tryz.func52 (s52 b) q52 h
theorem c52(b:Book)(h:OkBook b):PC 52 [.agg (tBook.cells b)] (·=tint.lst (daysR b)):=by
 have hnb:=h.nb;have hnl:=h.nl;have hml:=marks_len h;refine w52 _ (WP.step ?_);simp only[T52,Go,Ends',v52,Tr.sure,SS];repeat' with_reducible first|intro _|apply aI
 all_goals first|exact(by with_reducible exact rev1 _ _ _ ‹_› ‹_›)|skip
 refine WP.run (fun i=>.l0 (i:Int) (0::(b.lines.take i).map fun x=>x.day).reverse) rfl b.lines.length (fun i hi=> ?_) ?_
 ·have hr:inR .i64 ((i:Int)+1)=true:=inR64 (by omega) (by omega);have hi':(i:Int)<b.lines.length:=by omega
  have hl:(0::(b.lines.take i).map fun x=>x.day).reverse.length+1<=4294967296:=by simp;omega
  have hnx:(0::(b.lines.take (i+1)).map fun x=>x.day).reverse=(b.lines.getD i zLine).day::(0::(b.lines.take i).map fun x=>x.day).reverse:=by rw[take_snoc zLine _ i hi];simp
  rw[hnx];generalize(0::(b.lines.take i).map fun x=>x.day).reverse=A at*
  refine WP.once ?_;simp only[T52,Tr.sure,SS,hi',z5];repeat' with_reducible first|intro _|apply aI
  all_goals first|exact(by with_reducible exact rev1 _ _ _ ‹_› ‹_›)|(simp[hr,hl,Go,Ends',v52,-List.getD_eq_getElem?_getD, *];done)
 refine WP.step ?_;simp only[T52,Go,Ends',v52,Tr.sure,SS,Int.lt_irrefl];repeat' with_reducible first|intro _|apply aI
 rw[List.take_length]
 have em:∀i,((0::b.lines.map fun x=>x.day)++(b.bodies.take i).flatMap shownDays).reverse.length<=30:=fun i=>by
  have h1:=flat_le (l:=b.bodies.take i) (f:=shownDays) (b:=3) fun x hx=>by
   obtain⟨k,hk,rfl⟩:=mem_getD zBody (List.mem_of_mem_take hx);have:=(shown_iff.1 (h.shown hk)).1;unfold shownDays;simpa using this
  have h2:(b.bodies.take i).length<=5:=by simp;omega
  simp only[List.length_reverse,List.length_append,List.length_cons,List.length_map];omega
 refine WP.run (fun i=>.l1 (i:Int) ((0::b.lines.map fun x=>x.day)++(b.bodies.take i).flatMap shownDays).reverse) (by simp) b.bodies.length (fun i hi=> ?_) ?_
 ·have hr:inR .i64 ((i:Int)+1)=true:=inR64 (by omega) (by omega);have hi':(i:Int)<b.bodies.length:=by omega
  have hs3:=(shown_iff.1 (h.shown hi)).1;have hl:=em i;have hnx:((0::b.lines.map fun x=>x.day)++(b.bodies.take (i+1)).flatMap shownDays).reverse=(shownDays (b.bodies.getD i zBody)).reverse++((0::b.lines.map fun x=>x.day)++(b.bodies.take i).flatMap shownDays).reverse:=by rw[take_snoc zBody _ i hi,List.flatMap_append];simp
  rw[hnx];refine WP.step ?_;simp only[T52,Go,Ends',v52,Tr.sure,SS,hi'];repeat' with_reducible first|intro _|apply aI
  generalize((0::b.lines.map fun x=>x.day)++(b.bodies.take i).flatMap shownDays).reverse=A at*
  generalize hX:b.bodies.getD i zBody=X at*
  refine WP.run (fun q=>.l2 (i:Int) (q:Int) (((X.shown.take q).map fun s=>s.day).reverse++A)) rfl X.shown.length (fun q hq=> ?_) ?_
  ·have hr2:inR .i64 ((q:Int)+1)=true:=inR64 (by omega) (by omega);have hq':(q:Int)<X.shown.length:=by omega
   have hl2:(((X.shown.take q).map fun s=>s.day).reverse++A).length+1<=4294967296:=by simp;omega
   have hnx2:((X.shown.take (q+1)).map fun s=>s.day).reverse++A=(X.shown.getD q zShown).day::(((X.shown.take q).map fun s=>s.day).reverse++A):=by rw[take_snoc zShown _ q hq];simp
   rw[hnx2];generalize((X.shown.take q).map fun s=>s.day).reverse++A=B at*
   refine WP.once ?_;simp only[T52,Tr.sure,SS,hi',hq',z2,z3,hX];repeat' with_reducible first|intro _|apply aI
   all_goals first|exact(by with_reducible exact rev1 _ _ _ ‹_› ‹_›)|(simp[hr2,hl2,Go,Ends',v52,-List.getD_eq_getElem?_getD, *];done)
  ·rw[List.take_length];have e:(X.shown.map fun s=>s.day).reverse=(shownDays X).reverse:=rfl;rw[e];refine WP.once ?_;simp only[T52,Tr.sure,SS,hi',z2,hX,Int.lt_irrefl];repeat' with_reducible first|intro _|apply aI
   all_goals simp[hr,Go,Ends',v52,-List.getD_eq_getElem?_getD, *]
 rw[List.take_length];have eM:((0::b.lines.map fun x=>x.day)++b.bodies.flatMap shownDays).reverse=(marksR b).reverse:=rfl;rw[eM];have k44:∀n,PC 44 [.list 1 (marksR b).reverse.length (rowsRev tint (marksR b).reverse),iI n] (·=.bool (hasN (marksR b).reverse.reverse n)):=fun n=>c44r _ n;refine WP.step ?_;simp only[T52,Go,Ends',v52,Tr.sure,SS,Int.lt_irrefl];repeat' with_reducible first|intro _|apply aI
 have eD:daysR b=filtTo (dayP b) 365:=rfl;rw[eD];refine WP.run (fun d=>.l3 (marksR b).reverse (d:Int) (filtTo (dayP b) d).reverse) rfl 365 (fun d hd=> ?_) ?_
 ·have hr:inR .i64 ((d:Int)+1)=true:=inR64 (by omega) (by omega);have hd':(d:Int)<=364:=by omega
  have hfl:=filtTo_len (dayP b) d;have hl:(filtTo (dayP b) d).reverse.length+1<=4294967296:=by rw[List.length_reverse];omega
  have k1:=k44 (d:Int);have k2:=k44 ((d:Int)+1);rw[List.reverse_reverse]at k1 k2;have ed:dayP b d=(hasN (marksR b) (d:Int)||(hasN (marksR b) ((d:Int)+1)||(d:Int)==364)):=rfl;rw[filtTo_next,ed];generalize(filtTo (dayP b) d).reverse=A at*
  generalize marksR b=M at*
  cases g1:hasN M (d:Int)with
  |true=>
   refine WP.once ?_;simp only[T52,Tr.sure,SS,hd',List.reverse_reverse,g1];repeat' with_reducible first|intro _|apply aI
   all_goals first|exact(by with_reducible exact rev1 _ _ _ ‹_› ‹_›)|(simp[hr,hl,Go,Ends',v52,-List.getD_eq_getElem?_getD, *];done)|(simp_all [hr,hl,Go,Ends',v52,-List.getD_eq_getElem?_getD];done)
  |false=>
   cases g2:hasN M ((d:Int)+1)with
   |true=>
    refine WP.once ?_;simp only[T52,Tr.sure,SS,hd',List.reverse_reverse,g1,g2];repeat' with_reducible first|intro _|apply aI
    all_goals first|exact(by with_reducible exact rev1 _ _ _ ‹_› ‹_›)|(simp[hr,hl,Go,Ends',v52,-List.getD_eq_getElem?_getD, *];done)|(simp_all [hr,hl,Go,Ends',v52,-List.getD_eq_getElem?_getD];done)
   |false=>
    refine WP.once ?_;simp only[T52,Tr.sure,SS,hd',List.reverse_reverse,g1,g2];repeat' with_reducible first|intro _|apply aI
    all_goals first|exact(by with_reducible exact rev1 _ _ _ ‹_› ‹_›)|(simp[hr,hl,Go,Ends',v52,-List.getD_eq_getElem?_getD, *];done)|(simp_all [hr,hl,Go,Ends',v52,-List.getD_eq_getElem?_getD];done)
 ·have hno:¬((365:Nat):Int)<=364:=by omega
  refine WP.step ?_;simp only[T52,Go,Ends',v52,Tr.sure,SS,hno,List.reverse_reverse];repeat' with_reducible first|intro _|apply aI
end
theorem firstE_all{τ:Type}{of:Nat->τ->Int}(d:τ):∀ {l:List τ} {i:Nat},(∀j,j<l.length->of (i+j) (l.getD j d)=0)->firstE of i l=none
 |[],_,_=>rfl
 |x::l,i,h=>by
  have h0:=h 0 (by simp);simp only[Nat.add_zero,List.getD_cons_zero]at h0;simp only[firstE,h0,if_true];refine firstE_all d fun j hj=> ?_;have:=h (j+1) (by simpa using hj);rw[show i+(j+1)=i+1+j by omega]at this;simpa using this
theorem bookCheck_of{b:Book}(h:OkBook b):bookCheck b=(0,0,0):=by
 have e1:firstE (bodyAt b.bodies) 0 b.bodies=none:=firstE_all zBody fun j hj=>by rw[Nat.zero_add];exact h.body j hj
 have e2:firstE (headAt b.heads) 0 b.heads=none:=firstE_all ByteArray.empty fun j hj=>by rw[Nat.zero_add];exact h.head j hj
 have e3:firstE (lineErr b) 0 b.lines=none:=firstE_all zLine fun j hj=>by rw[Nat.zero_add];exact h.lineE j hj
 unfold bookCheck;have h1:=h.nb;have h2:=h.nh;have h3:=h.nl;rw[if_neg (by omega),e1];simp only;rw[if_neg (by omega),e2];simp only;rw[if_neg (by omega),e3]
theorem outside_no{lo hi:Int}{l:List Int}(h:∀n∈l,lo<=n/\n<=hi):outside lo hi l=false:=by
 unfold outside
 cases e:l.any fun n=> !within n lo hi with
 |false=>rfl
 |true=>
  obtain⟨n,hn,q⟩:=List.any_eq_true.1 e;rw[not_iff_false]at q;have:=within_iff.2 (h n hn);rw[q]at this;cases this
theorem told_val{b:Book}(h:OkBook b){ns:List Int}(hn:∀n∈ns,0<=n/\n<b.bodies.length){d:Int}(hd:0<=d/\d<=364):toldR b ns d=if(truthsR b []).length=0 then([],8)else(truthsR b [],0):=by
 have e:toldE b ns d=0:=by
  unfold toldE;rw[bookCheck_of h,if_neg (by decide),outside_no (fun n hm=>by have:=hn n hm;omega),if_neg (by decide),within_iff.2 hd,if_pos rfl]
 unfold toldR;rw[e,if_neg (by decide)]
theorem told_zero{b:Book}(h:OkBook b){ns:List Int}(hn:∀n∈ns,0<=n/\n<b.bodies.length){d:Int}(hd:0<=d/\d<=364)(ht:0<(truthsR b []).length):(toldR b ns d).2=0:=by
 rw[told_val h hn hd,if_neg (by omega)]
theorem told_eight{b:Book}(h:OkBook b){ns:List Int}(hn:∀n∈ns,0<=n/\n<b.bodies.length){d:Int}(hd:0<=d/\d<=364)(ht:(truthsR b []).length=0):toldR b ns d=([],8):=by
 rw[told_val h hn hd,if_pos ht]
theorem one_in{n m:Int}(h:0<=n/\n<m):∀k∈ [n],0<=k/\k<m:=fun k hk=>by rw[List.mem_singleton.1 hk];exact h
section
variable {b b':Book} {D:Int->Prop}
theorem as_is{head d:Int}(h0:(toldR b [head] d).2=0):asR b head d=((personsR b).filter fun s=>(truthsR b []).any fun t=>same (seenR b t head d) s,0):=by unfold asR;rw[if_neg (fun q=>q h0)]
theorem ever_is{head:Int}(h0:(toldR b [head] 0).2=0):everR b head=((personsR b).filter fun s=>manyS b (truthsR b []) head s==(truthsR b []).length,(personsR b).filter fun s=>decide (0<manyS b (truthsR b []) head s),0):=by unfold everR;rw[if_neg (fun q=>q h0)]
theorem mem_as{head d:Int}(h0:(toldR b [head] d).2=0){x:ByteArray}:x∈(asR b head d).1↔x∈personsR b/\∃t∈truthsR b [],seenR b t head d=x:=by
 rw[as_is h0,List.mem_filter,List.any_eq_true];simp only[same_iff]
def Sees(b:Book)(t:Truth)(head:Int)(s:ByteArray):Prop:=∃d:Int,(0<=d/\d<=364)/\seenR b t head d=s
theorem shown_sees(h:OkBook b){t:Truth}(ht:t∈truthsR b []){head:Int}(hh:0<=head/\head<b.bodies.length){s:ByteArray}:shownR b t head s (daysR b)=true↔Sees b t head s:=by
 unfold shownR Sees;rw[List.any_eq_true];constructor
 ·rintro⟨d,hd,e⟩;exact⟨d,days_in hd,same_iff.1 e⟩
 ·rintro⟨d,hd,e⟩
  have hn:((d.toNat:Nat):Int)=d:=Int.toNat_of_nonneg hd.1;obtain⟨d',h1,h2⟩:=seen_days h ht hh (s:=s) d.toNat (by omega) (by rw[hn];exact e);exact⟨d',h1,same_iff.2 h2⟩
theorem many_all(h:OkBook b){head:Int}(hh:0<=head/\head<b.bodies.length){s:ByteArray}:manyS b (truthsR b []) head s=(truthsR b []).length↔∀t∈truthsR b [],Sees b t head s:=by
 unfold manyS;rw[List.length_filter_eq_length_iff];constructor
 ·exact fun q t ht=>(shown_sees h ht hh).1 (q t ht)
 ·exact fun q t ht=>(shown_sees h ht hh).2 (q t ht)
theorem many_some(h:OkBook b){head:Int}(hh:0<=head/\head<b.bodies.length){s:ByteArray}:0<manyS b (truthsR b []) head s↔∃t∈truthsR b [],Sees b t head s:=by
 unfold manyS;constructor
 ·intro q;obtain⟨t,ht⟩:=List.exists_mem_of_length_pos q;obtain⟨h1,h2⟩:=List.mem_filter.1 ht;exact⟨t,h1,(shown_sees h h1 hh).1 h2⟩
 ·rintro⟨t,ht,q⟩
  exact List.length_pos_of_mem (List.mem_filter.2 ⟨ht,(shown_sees h ht hh).2 q⟩)
theorem mem_sure(h:OkBook b){head:Int}(h0:(toldR b [head] 0).2=0)(hh:0<=head/\head<b.bodies.length){s:ByteArray}:s∈(everR b head).1↔s∈personsR b/\∀t∈truthsR b [],Sees b t head s:=by
 rw[ever_is h0,List.mem_filter,beq_iff_eq,many_all h hh]
theorem mem_may(h:OkBook b){head:Int}(h0:(toldR b [head] 0).2=0)(hh:0<=head/\head<b.bodies.length){s:ByteArray}:s∈(everR b head).2.1↔s∈personsR b/\∃t∈truthsR b [],Sees b t head s:=by
 rw[ever_is h0,List.mem_filter,decide_eq_true_eq,many_some h hh]
end
noncomputable section
def dayR(n:Int):Int:=n.tmod 365
def partR(l m:List ByteArray):Bool:=l.all fun s=>decide (0<=indexS m s)
theorem valid_ok{b:Book}(h:validR b=true):OkBook b:=okBook (by simpa[validR]using h)
theorem valid_of{b:Book}(h:OkBook b):validR b=true:=by unfold validR;rw[bookCheck_of h];rfl
inductive P41
 |e
inductive R41
 |r0 (r0:Int)
def T41(n:Int):P41->Tr P41 R41
 |.e=>(.need (inR .i64 n) (.need (decide ((365:Int)≠0)) (.out (.r0 (n.tmod (365:Int))))))
noncomputable def g41(n:Int):P41->List Item × St
 |.e=>bd Tryz.f41 [.int .u16 n] 5
def n41:R41->Exit × St
 |.r0 r0=>(.ret,⟨mk 6 [(2,iI r0)],[],[]⟩)
def v41:R41->V
 |.r0 r0=>iI r0
theorem s41(n:Int):Sm 0 (g41 n) (T41 n) (n41)
 |.e=>⟨400,by kernel_rfl⟩
theorem q41:∀r,bodyQ Tryz.prog Tryz.f41 (·=v41 r) (n41 r).1 (n41 r).2
 |.r0 r0=>bq (iI r0) (by kernel_rfl)
theorem w41(n:Int){post:V->Prop}(h:WQ (T41 n) v41 post .e):PC 41 [.int .u16 n] post:=
 PCalls.wq Tryz.func41 (s41 n) q41 h
theorem c41(n:Int)(h:inR .i64 n=true):PC 41 [.int .u16 n] (·=iI (dayR n)):=by
 refine w41 n (WP.step ?_);simp only[T41,Go,Ends',v41,Tr.sure,SS];repeat' with_reducible first|intro _|apply aI
 all_goals simp[h,dayR,Go,Ends',v41,-List.getD_eq_getElem?_getD, *]
inductive P48
 |e
 |l0 (x0_5:Int)
inductive R48
 |r0 (r0:Bool)
def T48(l:List ByteArray)(m:List ByteArray):P48->Tr P48 R48
 |.e=>(.go (.l0 0))
 |.l0 x0_5=>let c1:=l.getD (x0_5).toNat tstr.zero;(.br (decide (x0_5<(l.length:Int))) (.need (decide (0<=x0_5)&&decide (x0_5<(l.length:Int))) (.call 46 [tstr.lst m,.str c1] (iI (indexS m c1)) true true (.br (decide ((indexS m c1)<(0:Int))) (.out (.r0 false)) (.need (inR .i64 (x0_5+(1:Int))) (.go (.l0 (x0_5+(1:Int)))))))) (.out (.r0 true)))
noncomputable def g48(l:List ByteArray)(m:List ByteArray):P48->List Item × St
 |.e=>bd Tryz.f48 [tstr.lst l,tstr.lst m] 17
 |.l0 x0_5=>(cutOf Tryz.f48 0,⟨mk 19 [(0,tstr.lst l),(1,tstr.lst m),(5,iI x0_5)],[],[]⟩)
def n48:R48->Exit × St
 |.r0 r0=>(.ret,⟨mk 19 [(4,.bool r0)],[],[]⟩)
def v48:R48->V
 |.r0 r0=>.bool r0
theorem s48(l:List ByteArray)(m:List ByteArray):Sm 0 (g48 l m) (T48 l m) (n48)
 |.e=>⟨400,by kernel_rfl⟩
 |.l0 _=>⟨400,by kernel_rfl⟩
theorem q48:∀r,bodyQ Tryz.prog Tryz.f48 (·=v48 r) (n48 r).1 (n48 r).2
 |.r0 r0=>bq (.bool r0) (by kernel_rfl)
theorem w48(l:List ByteArray)(m:List ByteArray){post:V->Prop}(h:WQ (T48 l m) v48 post .e):PC 48 [tstr.lst l,tstr.lst m] post:=
 PCalls.wq Tryz.func48 (s48 l m) q48 h
theorem c48(l m:List ByteArray)(hl:l.length<=1000)(hm:m.length<=1000):PC 48 [tstr.lst l,tstr.lst m] (·=.bool (partR l m)):=by
 have hmain:∀k i,i+k=l.length->WP Tryz.prog ⟨none,0⟩ (T48 l m) (Ends' fun r=>v48 r=.bool (partR (l.drop i) m)) (.l0 (i:Int)):=by
  intro k
  induction k with
  |zero=>
   intro i hi;have e:l.drop i=[]:=List.drop_of_length_le (by omega);have hi':¬(i:Int)<l.length:=by omega
   rw[e];refine WP.step ?_;simp only[T48,Go,Ends',v48,Tr.sure,SS,hi'];repeat' with_reducible first|intro _|apply aI
   all_goals simp[partR,Go,Ends',v48,-List.getD_eq_getElem?_getD, *]
  |succ k ih=>
   intro i hi;have hi':(i:Int)<l.length:=by omega
   have hr:inR .i64 ((i:Int)+1)=true:=inR64 (by omega) (by omega);have hn:=ih (i+1) (by omega)
   have e:partR (l.drop i) m=(decide (0<=indexS m (l.getD i ByteArray.empty))&&partR (l.drop (i+1)) m):=by
    rw[drop_cons ByteArray.empty l i (by omega)];rfl
   have k46:=c46 m (l.getD i ByteArray.empty) hm;rw[e];have ec:((i+1:Nat):Int)=(i:Int)+1:=rfl;rw[ec]at hn;by_cases hx:indexS m (l.getD i ByteArray.empty)<0
   ·have hx2:decide (0<=indexS m (l.getD i ByteArray.empty))=false:=by simpa using hx
    rw[hx2,Bool.false_and];refine WP.step ?_;simp only[T48,Go,Ends',v48,Tr.sure,SS,hi',z12,Int.toNat_natCast];repeat' with_reducible first|intro _|apply aI
    all_goals first|exact k46|(simp[hr,hx,Go,Ends',v48,-List.getD_eq_getElem?_getD, *];done)|(simp_all [hr,hx,Go,Ends',v48,-List.getD_eq_getElem?_getD];done)
   ·have hx2:decide (0<=indexS m (l.getD i ByteArray.empty))=true:=by simpa using hx
    have hx3:decide (indexS m (l.getD i ByteArray.empty)<0)=false:=by simpa using hx
    rw[hx2,Bool.true_and];refine WP.step ?_;simp only[T48,Go,Ends',v48,Tr.sure,SS,hi',z12,hx3,Int.toNat_natCast];repeat' with_reducible first|intro _|apply aI
    all_goals first|exact k46|exact hn|(simp[hr,Go,Ends',v48,-List.getD_eq_getElem?_getD, *];done)
    all_goals exact absurd (of_decide_eq_true (by assumption)) hx
 have h0:=hmain l.length 0 (by omega);rw[List.drop_zero]at h0;refine w48 l m (WP.step ?_);simp only[T48,Go,Ends',v48,Tr.sure,SS];repeat' with_reducible first|intro _|apply aI
 all_goals exact h0
end
noncomputable section
theorem which_in{w:Int}{n:Nat}(hw:0<=w)(hn:0<n):0<=w.tmod (n:Int)/\w.tmod (n:Int)<(n:Int):=by
 rw[Int.tmod_eq_emod_of_nonneg hw];exact⟨Int.emod_nonneg _ (by omega),Int.emod_lt_of_pos _ (by omega)⟩
theorem day_in{w:Int}(hw:0<=w):0<=dayR w/\dayR w<=364:=by
 have:=which_in (n:=365) hw (by decide);unfold dayR;have e:((365:Nat):Int)=365:=rfl;rw[e]at this;omega
theorem told_bad{b:Book}(h:¬(validR b=true/\b.bodies.length≠0)){n d:Int}:(toldR b [n] d).2≠0:=fun e=>by
 obtain⟨h1,h2,-⟩:=told_ok e;have:=h2 n (by simp);exact h ⟨valid_of h1,by omega⟩
theorem as_bad{b:Book}{n d:Int}(h:(toldR b [n] d).2≠0):asR b n d=([],(toldR b [n] d).2):=by unfold asR;rw[if_pos h]
theorem ever_bad{b:Book}{n:Int}(h:(toldR b [n] 0).2≠0):everR b n=([],[],(toldR b [n] 0).2):=by unfold everR;rw[if_pos h]
end
end Go.Proofs.YtemgodefhcbleaaGreat
