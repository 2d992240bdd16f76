/-
  Part of the proof of the Head laws. Conditions: those that stand in each theorem.
-/
import Derived.Laws.Strings
import Derived.Test.YtemgodefhcbleaaGreatChecked
import Derived.KernelRfl
import Derived.Laws.CopyRow
import Derived.Test.YtemgodefhcbleaaGreatB05
set_option linter.unusedSimpArgs false
set_option linter.unusedVariables false
set_option maxRecDepth 100000
namespace Go.Proofs.YtemgodefhcbleaaGreat
open Ab Go
theorem bl_irr:∀a:List UInt8,Op.bytesLess a a=false
 |[]=>rfl
 |x::a=>by simp[Op.bytesLess,bl_irr a]
theorem bl_trans:∀a b c:List UInt8,Op.bytesLess a b=true->Op.bytesLess b c=true->Op.bytesLess a c=true
 |_,[],_,h,_=>by cases‹List UInt8›<;>simp[Op.bytesLess]at h
 |_,_::_,[],_,h=>by simp[Op.bytesLess]at h
 |[],_::_,_::_,_,_=>rfl
 |x::a,y::b,z::c,h1,h2=>by
  simp only[Op.bytesLess,Bool.or_eq_true,Bool.and_eq_true,decide_eq_true_eq,beq_iff_eq]at*;rcases h1 with h1|⟨rfl,h1⟩
  ·rcases h2 with h2|⟨rfl,h2⟩
   ·exact .inl (UInt8.lt_trans h1 h2)
   ·exact .inl h1
  ·rcases h2 with h2|⟨rfl,h2⟩
   ·exact .inl h2
   ·exact .inr ⟨rfl,bl_trans a b c h1 h2⟩
theorem bl_tri:∀a b:List UInt8,Op.bytesLess a b=true\/a=b\/Op.bytesLess b a=true
 |[],[]=>.inr (.inl rfl)
 |[],_::_=>.inl rfl
 |_::_,[]=>.inr (.inr rfl)
 |x::a,y::b=>by
  simp only[Op.bytesLess,Bool.or_eq_true,Bool.and_eq_true,decide_eq_true_eq,beq_iff_eq];rcases Nat.lt_trichotomy x.toNat y.toNat with h|h|h
  ·exact .inl (.inl (UInt8.lt_iff_toNat_lt.2 h))
  ·have e:x=y:=UInt8.toNat_inj.1 h;subst e;rcases bl_tri a b with q|q|q
   ·exact .inl (.inr ⟨rfl,q⟩)
   ·subst q;exact .inr (.inl rfl)
   ·exact .inr (.inr (.inr ⟨rfl,q⟩))
  ·exact .inr (.inr (.inl (UInt8.lt_iff_toNat_lt.2 h)))
def blt(a b:ByteArray):Bool:=Op.bytesLess a.toList b.toList
theorem ba_inj{a b:ByteArray}(h:a.toList=b.toList):a=b:=by
 rw[ByteArray.toList_eq,ByteArray.toList_eq]at h;exact ByteArray.ext (Array.toList_inj.1 h)
theorem blt_irr(a:ByteArray):blt a a=false:=bl_irr _
theorem blt_trans{a b c:ByteArray}(h1:blt a b=true)(h2:blt b c=true):blt a c=true:=bl_trans _ _ _ h1 h2
theorem blt_tri(a b:ByteArray):blt a b=true\/a=b\/blt b a=true:=by
 rcases bl_tri a.toList b.toList with h|h|h
 ·exact .inl h
 ·exact .inr (.inl (ba_inj h))
 ·exact .inr (.inr h)
def Up(l:List ByteArray):Prop:=l.Pairwise fun a b=>blt a b=true
def insU(s:ByteArray):List ByteArray->List ByteArray
 |[]=>[s]
 |x::r=>if s=x then x::r else if blt s x=true then s::x::r else x::insU s r
def sortU(l:List ByteArray):List ByteArray:=l.foldr insU []
theorem mem_insU{s t:ByteArray}:∀ {l:List ByteArray},t∈insU s l↔t=s\/t∈l
 |[]=>by simp[insU]
 |x::r=>by
  unfold insU;split
  ·rename_i h;subst h;simp
  split
  ·simp
  ·rw[List.mem_cons,mem_insU,List.mem_cons];constructor
   ·rintro(h|h|h)
    ·exact .inr (.inl h)
    ·exact .inl h
    ·exact .inr (.inr h)
   ·rintro(h|h|h)
    ·exact .inr (.inl h)
    ·exact .inl h
    ·exact .inr (.inr h)
theorem insU_up(s:ByteArray):∀ {l:List ByteArray},Up l->Up (insU s l)
 |[],_=>List.pairwise_singleton _ _
 |x::r,h=>by
  obtain⟨h1,h2⟩:=List.pairwise_cons.1 h;unfold insU;split
  ·exact h
  rename_i ne;split
  ·rename_i lt
   exact List.pairwise_cons.2 ⟨fun y hy=>by
    rcases List.mem_cons.1 hy with q|q
    ·subst q;exact lt
    ·exact blt_trans lt (h1 y q),h⟩
  ·rename_i nlt;refine List.pairwise_cons.2 ⟨fun y hy=> ?_,insU_up s h2⟩;rcases mem_insU.1 hy with q|q
   ·subst q;rcases blt_tri x y with z|z|z
    ·exact z
    ·exact absurd z.symm ne
    ·exact absurd z nlt
   ·exact h1 y q
theorem sortU_up:∀l:List ByteArray,Up (sortU l)
 |[]=>List.Pairwise.nil
 |x::l=>insU_up x (sortU_up l)
theorem mem_sortU{t:ByteArray}:∀ {l:List ByteArray},t∈sortU l↔t∈l
 |[]=>by simp[sortU]
 |x::l=>by
  show t∈insU x (sortU l)↔_;rw[mem_insU,mem_sortU,List.mem_cons]
theorem insU_len(s:ByteArray):∀l:List ByteArray,(insU s l).length<=l.length+1
 |[]=>by simp[insU]
 |x::r=>by
  unfold insU;split
  ·simp
  split
  ·simp
  ·simp only[List.length_cons];have:=insU_len s r;omega
theorem sortU_len:∀l:List ByteArray,(sortU l).length<=l.length
 |[]=>Nat.le_refl _
 |x::l=>by
  have h1:=insU_len x (sortU l);have h2:=sortU_len l;show(insU x (sortU l)).length<=_;simp only[List.length_cons];omega
theorem Up.filter{a:List ByteArray}(h:Up a)(p:ByteArray->Bool):Up (a.filter p):=List.Pairwise.filter p h
def allNames(b:Book):List ByteArray:=b.bodies.flatMap fun x=>x.shown.map (·.as_)
def personsR(b:Book):List ByteArray:=sortU (allNames b)
end Go.Proofs.YtemgodefhcbleaaGreat
namespace Go.Proofs.YtemgodefhcbleaaGreat
open Ab
def tstr:Ty ByteArray:=⟨1,fun s=>[.str s],ByteArray.empty⟩
def tu8:Ty Int:=⟨1,fun n=>[.int .u8 n],0⟩
def tu16:Ty Int:=⟨1,fun n=>[.int .u16 n],0⟩
def tlist{τ:Type}(E:Ty τ):Ty (List τ):=⟨1,fun l=>[E.lst l],[]⟩
def tSpan:Ty Span:=⟨2,fun x=>[.int .i64 x.lo,.int .i64 x.hi],zSpan⟩
def tShown:Ty Shown:=⟨2,fun x=>[.int .i64 x.day,.str x.as_],zShown⟩
def tBody:Ty Body:=⟨2,fun x=>[.str x.name,tShown.lst x.shown],zBody⟩
def tLine:Ty Line:=⟨7,fun x=>[.int .i64 x.day,.int .i64 x.kind,.int .i64 x.a,.int .i64 x.b,.int .i64 x.c,.int .i64 x.d,.int .i64 x.set],zLine⟩
def tBook:Ty Book:=⟨3,fun x=>[tBody.lst x.bodies,tstr.lst x.heads,tLine.lst x.lines],⟨[],[],[]⟩⟩
def tPair:Ty Pair:=⟨2,fun x=>[.int .i64 x.a,.int .i64 x.b],zPair⟩
@[simp] theorem z1:tint.zero=0:=rfl
@[simp] theorem z2:tBody.zero=zBody:=rfl
@[simp] theorem z3:tShown.zero=zShown:=rfl
@[simp] theorem z4:tSpan.zero=zSpan:=rfl
@[simp] theorem z5:tLine.zero=zLine:=rfl
theorem z6{τ:Type}{E:Ty τ}:(tlist E).zero=[]:=rfl
theorem z8:tPair.zero=zPair:=rfl
theorem z12:tstr.zero=ByteArray.empty:=rfl
theorem mx:Tryz.prog.follows .mixedOrders=true:=by kernel_rfl
theorem flatMap_get{τ:Type}(E:Ty τ)(hw:∀x,(E.cells x).length=E.w):∀(xs:List τ) (i j:Nat),i<xs.length->j<E.w->(xs.flatMap E.cells).getD (i*E.w+j) .undef=(E.cells (xs.getD i E.zero)).getD j .undef
 |[],i,j,hi,hj=>by simp at hi
 |x::xs,0,j,hi,hj=>by
  simp only[List.flatMap_cons,Nat.zero_mul,Nat.zero_add];rw[getD_append_left (by rw[hw];exact hj)];rfl
 |x::xs,i+1,j,hi,hj=>by
  simp only[List.flatMap_cons];rw[getD_append_right (by rw[hw,Nat.succ_mul];omega),hw,show(i+1)*E.w+j-E.w=i*E.w+j by rw[Nat.succ_mul];omega];rw[flatMap_get E hw xs i j (by simpa using hi) hj];rfl
theorem VLe.lit{τ:Type}(E:Ty τ)(xs:List τ){w n:Nat}{cs:List V}(hn:n=xs.length)(hc:xs.flatMap E.cells=cs)(hw:∀x,(E.cells x).length=E.w)(hww:w=E.w:=by rfl):VLe (.list w n (litC w n cs)) (E.lst xs):=by
 subst hww;subst hn;subst hc;exact VLe.list fun i j hi hj=>by rw[litC_eq hi,flatMap_get E hw xs i j hi hj];rfl
def rowsFn{τ:Type}(E:Ty τ)(f:Nat->τ):Nat->Nat->V:=fun i j=>(E.cells (f i)).getD j .undef
def upd{τ:Type}(f:Nat->τ)(i:Nat)(x:τ):Nat->τ:=fun j=>if j=i then x else f j
theorem tel_upd{τ:Type}(E:Ty τ)(f:Nat->τ)(i:Nat)(x:τ){n w:Nat}(vs:List V)(hv:vs=E.cells x)(hw:(E.cells x).length=w):∀r j,r<n->j<w->
  VLe ((fun r' j=>if r'=i/\0<=j/\j<0+vs.length then vs.getD (j-0) .undef else rowsFn E f r' j) r j) (rowsFn E (upd f i x) r j):=fun r j _ hj=>by
 subst hv;by_cases h:r=i
 ·subst h;simp only[Nat.zero_le,Nat.zero_add,true_and,hw,hj,if_true,Nat.sub_zero,rowsFn,upd];exact VLe.refl _
 ·simp only[h,false_and,if_false,rowsFn,upd];exact VLe.refl _
theorem tel_set{τ:Type}(E:Ty τ)(l:List τ)(i:Nat)(x:τ){n w:Nat}(vs:List V)(hv:vs=E.cells x)(hw:(E.cells x).length=w)(hn:n=l.length):∀r j,r<n->j<w->
  VLe ((fun r' j=>if r'=i/\0<=j/\j<0+vs.length then vs.getD (j-0) .undef else rowsOf E l r' j) r j) (rowsOf E (l.set i x) r j):=fun r j hr hj=>by
 subst hv;subst hn;by_cases h:r=i
 ·subst h;simp only[Nat.zero_le,Nat.zero_add,true_and,hw,hj,if_true,Nat.sub_zero,rowsOf,gE,List.getElem?_set_self hr,Option.getD_some];exact VLe.refl _
 ·simp only[h,false_and,if_false,rowsOf,gE,sN (Ne.symm h)];exact VLe.refl _
def regOf(id:Nat):Code->Option (Array Oper)
 |.region j ops _=>if j=id then some ops else none
 |.seq a b=>match regOf id a with|some o=>some o|none=>regOf id b
 |.cond _ a b=>match regOf id a with|some o=>some o|none=>regOf id b
 |.block _ a=>regOf id a
 |.scope a=>regOf id a
 |.loop a=>regOf id a
 |.rangeFunc _ _ a b=>match regOf id a with|some o=>some o|none=>regOf id b
 |_=>none
def opAt(fn:Func)(id i:Nat):Op:=match regOf id (fn.body.getD .skip)with|some ops=>(match ops[i]? with|some o=>o.op|none=>.move (.tmp 0))|none=>.move (.tmp 0)
def rngOf:Code->Option Code
 |.seq a b=>match rngOf a with|some o=>some o|none=>rngOf b
 |.cond _ a b=>match rngOf a with|some o=>some o|none=>rngOf b
 |.block _ a=>rngOf a
 |.scope a=>rngOf a
 |.loop a=>rngOf a
 |.rangeFunc g ps a b=>some (.rangeFunc g ps a b)
 |_=>none
def rangeOf(fn:Func):Code:=(rngOf (fn.body.getD .skip)).getD .skip
def regionOf(fn:Func)(id:Nat):Code:=.region id ((regOf id (fn.body.getD .skip)).getD #[]) true
theorem bodyQ_mono{P:Program}{fn:Func}{post post':V->Prop}{e:Exit}{S:St}(h:bodyQ P fn post e S)(hp:∀v,post v->post' v):bodyQ P fn post' e S:=by
 obtain⟨h1,h2,v,u,h3,h4,h5⟩:=h;exact⟨h1,h2,v,u,h3,h4,hp u h5⟩
theorem PCalls.enters{P:Program}{f:FuncId}{fn:Func}{c:Code}(hf:P.funcs[f]? =some fn)(hb:fn.body=some c)(hn:(fn.name== "runtime.NumGoroutine")=false):∀xs w,(callFunc f xs).run P w=.ok (.enter f xs) w:=by
 have hn':¬fn.name= "runtime.NumGoroutine" :=by simpa using hn
 intro xs w;simp[callFunc,hf,hn',hb]
inductive Has:V->Nat->Prop where
 |list {w n c}:Has (.list w n c) n
 |agg {vs n} (j:Nat) (h:Has (vs.getD j .undef) n) (hj:j<vs.length):Has (.agg vs) n
 |row {w n c m} (i j:Nat) (hi:i<n) (hj:j<w) (h:Has (c i j) m):Has (.list w n c) m
 |cref {n c m} (j:Nat) (hj:j<n) (h:Has (c j) m):Has (.cref n c) m
theorem Has.le{v:V}{n:Nat}(h:Has v n):∀ {G:Kept} {β:Homes} {x:Value},Rel G β v x->n<=maxn:=by
 induction h with
 |list=>intro G β x hx;cases hx with|list0=>exact Nat.zero_le _|list _ _ _ hn _=>exact hn
 |agg j _ hj ih=>intro G β x hx;cases hx with|agg hs hr=>exact ih (hr j hj)
 |row i j hi hj _ ih=>intro G β x hx;cases hx with|list0=>omega|list _ _ _ _ hc=>exact ih (hc i j hi hj)
 |cref j hj _ ih=>intro G β x hx;cases hx with|cref _ _ hc=>exact ih (hc j hj)
theorem PCalls.assume{P:Program}{f:FuncId}{args:List V}{post:V->Prop}(hc:∀xs w,(callFunc f xs).run P w=.ok (.enter f xs) w){n:Nat}(j:Nat)(hj:j<args.length)(hh:Has (args.getD j .undef) n)(h:n<=maxn->PCalls P f args post):PCalls P f args post:=
 ⟨hc,fun G w xs hk hl hr=>(h (hh.le (hr j hj))).2 G w xs hk hl hr⟩
theorem mem_getD{τ:Type}{l:List τ}{x:τ}(d:τ)(h:x∈l):∃i,i<l.length/\l.getD i d=x:=by
 obtain⟨i,hi,e⟩:=List.getElem_of_mem h;exact⟨i,hi,by simp[gE,hi,e]⟩
theorem inR64{n:Int}(h1: -9223372036854775808<=n)(h2:n<=9223372036854775807):inR .i64 n=true:=by
 have a:IntKind.min .i64= -9223372036854775808:=by rfl
 have b:IntKind.max .i64=9223372036854775807:=by rfl
 simp only[inR,a,b,Bool.and_eq_true,decide_eq_true_eq];exact⟨h1,h2⟩
theorem inRi{i n:Nat}(hi:i<n)(hn:n<=maxn):inR .i64 ((i:Int)+1)=true:=by
 have:n<=281474976710656:=hn;exact inR64 (by omega) (by omega)
theorem SS:(∀ {α:Type} {p:α->Prop} {a:α} {l:List α},(∀x,x∈a::l->p x)↔p a/\∀x,x∈l->p x)/\(∀ {α:Type} {a:α},¬a∈([]:List α))/\(∀a:Prop,(False->a)↔True)/\(∀ {α:Prop},(True->α)↔α)/\
  (∀α:Prop,(α->True)=True)/\(∀α:Type,(α->True)=True)/\(∀p:Prop,(p/\True)=p)/\(∀p:Prop,(True/\p)=p)/\(∀ {p:Prop} [Decidable p],(decide p=true)=p)/\(∀ {p:Prop} {_x:Decidable p},decide p=false↔¬p)/\
  (∀ {a b:Bool},(!a)=b↔a= !b)/\(!true)=false/\(!false)=true/\(∀ {α:Type} [BEq α] [LawfulBEq α] {a b:α},(a==b)=true↔a=b)/\(∀ {α:Type} [BEq α] [LawfulBEq α] {a b:α},(a==b)=false↔a≠b)/\
  (∀ {α:Type} [BEq α] [LawfulBEq α] {a b:α},(a !=b)=true↔a≠b)/\(∀ {α:Type} [BEq α] [LawfulBEq α] {a b:α},(a !=b)=false↔a=b)/\(∀a b:Bool,((a&&b)=true)=(a=true/\b=true))/\(true=false)=False/\(false=true)=False/\
  (∀a:Int,¬a<a)/\(∀ {n m:Nat},(n:Int)<m↔n<m)/\(¬False)=True/\(¬True)=False/\(∀n:Nat,(n:Int).toNat=n)/\(∀n:Nat,(0:Int)<=n)/\(∀ {α:Type} (a b:α),(a≠b)=¬a=b)/\(∀ {α:Prop} (a b:α),(a≠b)=¬a=b)/\
  (∀ {α:Type} [LT α] {x y:α},x>y↔y<x)/\(∀ {α:Type} [LE α] {x y:α},x≥y↔y<=x)/\(∀ {n:Nat},(n:Int)=0↔n=0):=
 ⟨List.forall_mem_cons,List.not_mem_nil,false_imp_iff,true_imp_iff,implies_true,implies_true,and_true,true_and,decide_eq_true_eq,decide_eq_false_iff_not,Bool.not_eq_eq_eq_not,Bool.not_true,Bool.not_false,beq_iff_eq,beq_eq_false_iff_ne,bne_iff_ne,bne_eq_false_iff_eq,Bool.and_eq_true,Bool.true_eq_false,Bool.false_eq_true,Int.lt_irrefl,Int.ofNat_lt,not_false_eq_true,not_true_eq_false,Int.toNat_natCast,Int.natCast_nonneg,ne_eq,ne_eq,gt_iff_lt,ge_iff_le,Int.natCast_eq_zero⟩
abbrev fF(n:Go.FuncId):V:=.func (.func n) [] []
abbrev iI(n:Int):V:=.int .i64 n
abbrev uU:V:=.undef
abbrev rR(v:V):V:=.cref 1 fun q=>([v]:List V).getD q .undef
abbrev fG(n:Go.FuncId)(cs:List V):V:=.func (.func n) [] cs
abbrev Sm{α ρ:Type}(m:Nat)(g:α->List Item × St)(T:α->Tr α ρ)(n:ρ->Go.Exit × St):Prop:=∀a,∃k,runG Tryz.prog m k (startOf (g a).1) (g a).2 ((T a).toD g n)=some ((T a).toD g n)
theorem PCalls.wq{α ρ:Type}{f:Go.FuncId}{fn:Go.Func}{c:Go.Code}{args:List V}{post:V->Prop}{T:α->Tr α ρ}{g:α->List Item × St}{n:ρ->Go.Exit × St}{v:ρ->V}{e:α}(hf:Tryz.prog.funcs[f]? =some fn)(s:Sm 0 g T n)
  (q:∀r,bodyQ Tryz.prog fn (·=v r) (n r).1 (n r).2) (h:WP Tryz.prog ⟨none,0⟩ T (Ends' fun r=>post (v r)) e) (he:g e=([.code c],{t:=args++List.replicate (fn.ntmps-args.length) .undef,h:=[],d:=[]}):=by rfl)
  (hb:fn.body=some c:=by kernel_rfl) (hn:(fn.name== "runtime.NumGoroutine")=false:=by kernel_rfl):PCalls Tryz.prog f args post:=
 PCalls.wp mx hf hb hn T g n e he s h fun r hr=>bodyQ_mono (q r) fun u hu=>by subst hu;exact hr
theorem bq{P:Go.Program}{fn:Go.Func}{e:Go.Exit}{S:St}(v:V)(hr:resultV P fn {S with h:=shut S.d S.h}=some v)(hd:S.d=[]:=by rfl)(he:e=Go.Exit.ret:=by rfl)(hi:v.imm=true:=by rfl):bodyQ P fn (·=v) e S:=
 ⟨.inr he,by rw[hd];exact List.nodup_nil,v,v,hr,.imm hi,rfl⟩
abbrev PC(f:Go.FuncId)(args:List V)(post:V->Prop):Prop:=PCalls Tryz.prog f args post
abbrev WQ{α ρ:Type}(T:α->Tr α ρ)(v:ρ->V)(post:V->Prop)(e:α):Prop:=WP Tryz.prog ⟨none,0⟩ T (Ends' fun r=>post (v r)) e
abbrev bd(f:Go.Func)(a:List V)(n:Nat):List Item × St:=([.code (f.body.getD .skip)],⟨a++List.replicate n .undef,[],[]⟩)
abbrev cC(x:Book):List V:=[tBody.lst x.bodies,tstr.lst x.heads,tLine.lst x.lines]
end Go.Proofs.YtemgodefhcbleaaGreat
namespace Ab
open Go
theorem AWP.region_anyC{P:Program}{ro:Env}{id:Nat}{ops:Array Oper}{S:St}{Q:Exit->St->Prop}(m:Nat)(hmx:P.follows .mixedOrders=true)(hback:backOK ops=true)(hm:m<=ops.size)
  (ht:∀j,m<=j->j<ops.size->tailAt ops j=true) (inv:Array Bool->St) (h0:∀β G K a w,RS β G K S a w->∃β',β.le β'/\RS β' G K (inv (Array.replicate ops.size false)) a w)
  (step:∀(l:Array Bool) (i:Nat),l.size=ops.size->i<m->l.getD i false=false->(∀j,m<=j->l.getD j false=false)->Closed ops l->i∈Region.ready .any ops l->AStep P ro ops i (inv l) (inv (l.setIfInBounds i true)))
  (last:∀(l:Array Bool),l.size=ops.size->(∀i,i<m->l.getD i false=true)->(∀j,m<=j->l.getD j false=false)->AOps P ro ops (List.range' m (ops.size-m)) (inv l) Q):AWP P ro (.region id ops true) S Q:=fun β G K a w r=>by
 refine wpIn_region_any hmx ?_
 have key:∀(fuel:Nat) (l:Array Bool) β G K a w,l.size=ops.size->unl l m+(ops.size-m)<=fuel->(∀j,m<=j->l.getD j false=false)->Closed ops l->RS β G K (inv l) a w->wpAnyIn (wide ro) 0 P .any ops (Post ro.m Q β G K) fuel l a w:=by
  intro fuel
  induction fuel with
  |zero=>
   intro l β G K a w hl hf hj hcl r;have h1:=unl_zero l m (by omega);exact tail_any hback ht (ops.size-m) m 0 l a w (by omega) (Nat.le_refl _) (by omega) hl h1 (fun i hi _=>hj i hi) (last l hl h1 hj β G K a w r)
  |succ fuel ih=>
   intro l β G K a w hl hf hj hcl r;by_cases hz:unl l m=0
   ·have h1:=unl_zero l m hz;exact tail_any hback ht (ops.size-m) m (fuel+1) l a w (by omega) (Nat.le_refl _) (by omega) hl h1 (fun i hi _=>hj i hi) (last l hl h1 hj β G K a w r)
   ·
    have ex:∃q,q<m/\l.getD q false=false/\∀i,i<q->l.getD i false=true:=by
     clear ih hf r step last
     have:∀k,unl l k≠0->∃q,q<k/\l.getD q false=false/\∀i,i<q->l.getD i false=true:=by
      intro k
      induction k with
      |zero=>intro h;simp[unl]at h
      |succ k ihk=>
       intro h;by_cases hk:unl l k=0
       ·refine⟨k,by omega,?_,unl_zero l k hk⟩
        cases hc:l.getD k false with
        |false=>rfl
        |true=>simp[unl,hk,hc]at h
       ·obtain⟨q,q1,q2,q3⟩:=ihk hk;exact⟨q,by omega,q2,q3⟩
     exact this m hz
    obtain⟨q,q1,q2,q3⟩:=ex;refine⟨fun hnil=> ?_,fun i hi=> ?_⟩
    ·have:=least_ready hback hl (q:=q) (by omega) q3 q2;rw[hnil]at this;cases this
    ·have hi':=hi;rw[mem_ready]at hi';obtain⟨e0,o,ho,_⟩:=hi';have hlt:=(Array.getElem?_eq_some_iff.1 ho).1;have e:l.getD i true=l.getD i false:=by simp[aG,show i<l.size by omega]
     rw[e]at e0
     have him:i<m:=by
      rcases Nat.lt_or_ge i m with z|z
      ·exact z
      ·have:=tailAt_ready hcl (ht i z hlt) hi q (by omega);rw[q2]at this;cases this
     refine step l i hl him e0 hj hcl hi β G K a w _ _ r fun β' G' K' a' w' hL hG hK r'=> ?_;have hu:=unl_set l i (by omega) e0 m;rw[if_pos him]at hu;have hpos:=unl_pos l i e0 m him;have:=ih (l.setIfInBounds i true) β' G' K' a' w' (by simp[hl]) (by omega) (fun j hj'=>by rw[getD_set_ne false (by omega)];exact hj j hj') (hcl.set hi) r';exact any_mono (fun e a w hp=>hp.up hL hG hK) this
 obtain⟨β',hle,r'⟩:=h0 β G K a w r;refine any_mono (fun e a w hp=>hp.up (hle.low _) (G.ext_refl K) K.le_refl) (key ops.size _ β' G K a _ (by simp) ?_ (fun j _=> ?_) (fun j hj=> ?_) r'.drew)
 ·have:∀k,unl (Array.replicate ops.size false) k<=k:=by
   intro k
   induction k with
   |zero=>simp[unl]
   |succ k ih=>simp only[unl];split<;>omega
  have:=this m;omega
 ·simp only[aG,Array.getElem?_replicate];split<;>rfl
 ·exfalso
  have:(Array.replicate ops.size false).getD j false=false:=by simp only[aG,Array.getElem?_replicate];split<;>rfl
  rw[this]at hj;cases hj
theorem RS.reserve{β:Homes}{G K:Kept}{S:St}{a:Act}{w:World}(r:RS β G K S a w)(n:Nat):RS (β++List.replicate n Hm.void) G K {S with h:=S.h++List.replicate n .void} a w:=by
 refine⟨r.h.reserve _,r.size,fun j=>(r.tmp j).mono G.le_refl (Homes.le_append _ _),r.marks,fun j hj=> ?_⟩;obtain⟨y,y1,y2,y3⟩:=r.mark j hj;refine⟨y,Homes.le_append _ _ _ _ (by simp) y1,y2,?_⟩;show(S.h++_)[S.d.getD j 0]? =_;rw[aL (List.getElem?_eq_some_iff.1 y3).1];exact y3
theorem killV_bif(K:Nat)(c:Bool)(v u:V):killV K (bif c then v else u)=bif c then killV K v else killV K u:=by cases c<;>rfl
theorem killB_bif(K:Nat)(c:Bool)(v u:Blk):killB K (bif c then v else u)=bif c then killB K v else killB K u:=by cases c<;>rfl
section
variable {P:Program} {ro:Env} {ops:Array Oper} {S:St} {i:Nat} {o:Oper}
theorem AStep.lit(hi:ops[i]? =some o)(hw:wantedV ops S o=some true){t e:TypeId}{len:Nat}{parts:Array (Nat × Operand)}{zs cs:List V}
  (hop:o.op=.buildSlice t len parts) (hu:P.underlying t=some (.slice e)) (hz:zeroCs P e=some zs)
  (hc:decide (hasT P e=true/\0<szOf P e/\len*szOf P e<=16777216/\zs.length=szOf P e)=true)
  (hb:fillV P (fun i=>some (i*szOf P e,e)) ((List.range (len*szOf P e)).map fun q=>zs.getD (q%szOf P e) .undef) (mapV parts S.eval)=some cs) (himm:underL 0 cs=true):
  AStep P ro ops i S (S.put o.dst (if len=0 then .nils else .list (szOf P e) len (litC (szOf P e) len cs))):=by
 obtain⟨hT,h1,h2,hzl⟩:=of_decide_eq_true hc;refine AStep.of_val hi hw (fun c hcc=>by rw[hop]at hcc;cases hcc) fun β G K a w q=> ?_;obtain⟨ra,f1,f2,f3⟩:=buildSlice_run (G:=G) q.eval hu hT h1 h2 hz hzl hb himm o hop
 have hle:G.le ⟨fun b=>if b=w.heap.size then some (.cells ra e)else G b,G.amb⟩:=⟨fun b ob hob=>by
  by_cases hbs:b=w.heap.size
  ·have:=q.h.keep _ _ (q.h.gk _ _ hob);subst hbs;have:=(Array.getElem?_eq_some_iff.1 this).1;omega
  ·simpa[hbs]using hob,rfl⟩
 obtain⟨K',k1,k2,k3⟩:=q.h.kept (G':=⟨fun b=>if b=w.heap.size then some (.cells ra e)else G b,G.amb⟩) (w':=w.alloc (.cells ra e)) hle
  ⟨fun b ob hob=>by
   by_cases hbs:b=w.heap.size
   ·simp only[hbs,if_true]at hob;rw[hbs,heap_alloc_new,hob]
   ·simp only[hbs,if_false]at hob;have hk:=q.h.keep _ _ (q.h.gk _ _ hob)
    rw[heap_alloc_lt _ _ (Array.getElem?_eq_some_iff.1 hk).1];exact hk,q.h.gamb.mild (Mild.alloc w _)⟩
  (fun b ob hob=>by
   by_cases hbs:b=w.heap.size
   ·right;omega
   ·simp only[hbs,if_false]at hob
    exact .inl hob)
  (fun b hb=>heap_alloc_lt _ _ hb) (by simp) (Mild.alloc w _)
 refine⟨_,_,β,_,K',f1,Homes.low_refl _ _,k2,k1,⟨k3,q.size,fun j=>(q.tmp j).mono hle (Homes.le_refl _),q.marks,q.mark⟩,?_⟩;by_cases h0:len=0
 ·simp only[h0,if_true];exact .nils
 ·simp only[h0,if_false];have hlm:len<=16777216:=Nat.le_trans (Nat.le_mul_of_pos_right len h1) h2;refine .list (cs:=ra) (e:=e) (fz:=(0,0)) (by simp) (by omega) (Nat.le_refl _) (by unfold maxn;omega) fun p j hp _=> ?_;rw[Nat.zero_add,litC_eq hp];exact(f3 _).mono hle (Homes.le_refl _)
end
theorem AOps.tree{P:Program}{ro:Env}{ops:Array Oper}{is:List Nat}{S S':St}{g:DT}(h:runOpsG P ro.m ops (fun T d=>match d with|.done _ _=>some (.done .normal T)|_=>none) is none S g=some g)
  (hg:g.holds P ro (fun e T=>e=.normal/\T=S') (fun _ _=>False)):AOps P ro ops is S (fun e T=>e=.normal/\T=S'):=
 runOpsG_ok (L:=fun _ _=>False) (Q:=fun e T=>e=.normal/\T=S') (fun T d hd hh=>by
  split at hd
  ·cases hd;exact hh
  ·cases hd) is none S g h hg
end Ab
namespace Ab
open Go
section
variable {P:Program} {ro:Env} {ops:Array Oper} {S:St} {i:Nat} {o:Oper}
theorem AStep.to{S1 S2:St}(h:AStep P ro ops i S S1)(e:S1=S2):AStep P ro ops i S S2:=e▸h
theorem AStep.read{b:Bool}{v:V}(hi:ops[i]? =some o)(hw:wantedV ops S o=some true)(hf:∀d,o.op≠ .defer d)(he:evalOp P S.eval S.h o.op=some (b,v,S.h))(hb:b=true):AStep P ro ops i S (S.put o.dst v):=by
 subst hb;exact AStep.of_ops (AOps.step hi hw he (fun _ _=>rfl) (AOps.nil ⟨rfl,rfl⟩))
theorem AStep.app{t:TypeId}{s x:Operand}{ob:Bool}{p:Nat->Bool}{v:V}{S1:St}(hi:ops[i]? =some o)(hw:wantedV ops S o=some true)
  (ho:o.op=.call {callee:=.builtin .append,args:= #[s,x],argTypes:= #[t,t]}) (he:appendV P ro.m S t (S.eval s) (S.eval x)=some (ob,p,v,S1)) (hob:ob=true) (hp:∀r,p r=true):AStep P ro ops i S (S1.put o.dst v):=
 AStep.of_ops (AOps.append hi hw ho he hob hp (AOps.nil ⟨rfl,rfl⟩))
theorem AStep.tree{S':St}{g:DT}(h:runOpsG P ro.m ops (fun T d=>match d with|.done _ _=>some (.done .normal T)|_=>none) [i] none S g=some g)
  (hg:g.holds P ro (fun e T=>e=.normal/\T=S') (fun _ _=>False)):AStep P ro ops i S S':=AStep.of_ops (AOps.tree h hg)
end
end Ab
namespace Ab
open Go
theorem reach_ready{ops:Array Oper}{l:Array Bool}{i j:Nat}(h:reach ops 12 i j=true)(hc:Closed ops l)(hr:j∈Region.ready .any ops l):l.getD i false=true:=by
 rw[mem_ready]at hr;obtain⟨_,o,ho,hall⟩:=hr;refine reach_done hc 12 i j h fun o' ho' e he hb=> ?_;rw[ho]at ho';cases ho';exact hall e he hb
theorem reach_not{ops:Array Oper}{l:Array Bool}{i j:Nat}(h:reach ops 12 i j=true)(hc:Closed ops l)(hi:l.getD i false=false):l.getD j false=false:=by
 cases hj:l.getD j false with
 |false=>rfl
 |true=>exact absurd (reach_done hc 12 i j h (hc j hj)) (by rw[hi];exact Bool.false_ne_true)
theorem gset7{l:Array Bool}{i:Nat}(h:i<l.size)(q:Nat):(l.setIfInBounds i true).getD q false=if i=q then true else l.getD q false:=by
 by_cases e:i=q
 ·subst e;simp[h]
 ·rw[if_neg e,getD_set_ne false e]
section
variable {P:Program} {ro:Env} {ops:Array Oper} {S:St} {i:Nat} {o:Oper}
theorem AStep.mk0(hi:ops[i]? =some o)(hw:wantedV ops S o=some true){t e:TypeId}{l c:Operand}{k k':IntKind}{n:Int}{q wd:Nat}{zs:List V}(hop:o.op=.makeSlice t l c)(hl:S.eval l=.int k n)(hc:S.eval c=.int k' n)
  (hu:P.underlying t=some (.slice e)) (hz:zeroCs P e=some zs) (hd:decide (hasT P e=true/\szOf P e=wd/\0<wd/\zs.length=wd/\P.bytesOf e<=65536)=true) (hvd:S.h[q]? =some .void) (h1:0<=n) (h3:n<=4294967296):
  AStep P ro ops i S ({S with h:=S.h.set q (.rows e wd n.toNat fun _ j=>zs.getD j .undef)}.put o.dst (.row q n.toNat)):=by
 obtain⟨he,hsz0,h0,hzl,hby⟩:=of_decide_eq_true hd;subst hsz0;refine AStep.of_val hi hw (fun c hcc=>by rw[hop]at hcc;cases hcc) fun β G K a w r=> ?_;have hl':=r.eval l;have hc':=r.eval c;rw[hl]at hl';rw[hc]at hc';generalize hx:a.eval l=lx at hl'
 generalize hy:a.eval c=cx at hc'
 cases hl';cases hc';obtain⟨z,z1,z2,z3⟩:=zeroCs_ok hz w
 have hinfo:∃i,P.info? e=some i:=by
  unfold hasT at he
  cases hi:P.info? e with
  |none=>simp[hi]at he
  |some i=>exact⟨i,rfl⟩
 obtain⟨i,hi⟩:=hinfo
 have hiz:i.zero=some z:=by
  cases hiz:i.zero with
  |none=>simp[zeroCs,hi,hiz]at hz
  |some z'=>
   have:(zeroValue e).run P w=.ok z' w:=by simp only[zeroValue,Sem.run_bind,run_typeInfo' hi,Result.andThen_ok,hiz,Sem.run_pure]
   rw[this]at z1;cases z1;rfl
 have hsz:i.size=szOf P e:=by simp[szOf,Program.cellsOf,hi]
 have hb':i.bytes<=65536:=by simpa[Program.bytesOf,hi]using hby
 have hbytes:(i.bytes:Int)*n<=281474976710656:=by
  obtain⟨n,rfl⟩:=Int.eq_ofNat_of_zero_le h1;have:i.bytes*n<=65536*4294967296:=Nat.mul_le_mul hb' (by omega);have:((i.bytes*n:Nat):Int)<=281474976710656:=by omega
  rwa[Int.natCast_mul]at this
 have hr:=run_make (P:=P) w t e i z hu hi hiz k k' n n h1 (Int.le_refl _) hbytes (by omega);have hzs:z.cells.size=szOf P e:=by rw[z2,hzl]
 have hlt:q<β.length:=by rw[r.h.len];exact(List.getElem?_eq_some_iff.1 hvd).1
 have hle:=le_set_void (x:=.lie ⟨w.heap.size,szOf P e,n.toNat⟩) (r.h.void_home hvd)
 have hrun:(execOp a.eval o).run P w=.ok (.value (.slice (some ⟨w.heap.size,0,none⟩) n.toNat n.toNat)) (w.alloc (.cells (madeCells z.cells (n.toNat*i.size)) e)):=by
  simp only[execOp,hop,hx,hy,Sem.run_bind,hr,Result.andThen_ok,Sem.run_pure]
 refine⟨_,_,β.set q (.lie ⟨w.heap.size,szOf P e,n.toNat⟩),G,K,hrun,hle.low _,G.ext_refl K,K.le_refl,r.refill hvd hle (r.h.fillG (fun b hb=>heap_alloc_lt w _ hb) (by simp) hvd (x:=⟨w.heap.size,szOf P e,n.toNat⟩) (Nat.le_refl _) (by simp) ?_ (Mild.alloc w _)),?_⟩
 ·refine⟨rfl,h0,by unfold maxLen;show n.toNat<=_;omega,_,heap_alloc_new w _,by rw[size_madeCells,hsz],Nat.le_refl _,by unfold maxn;omega,fun q j hq hj=> ?_⟩
  have hlt:q*szOf P e+j<n.toNat*szOf P e:=by
   have:(q+1)*szOf P e<=n.toNat*szOf P e:=Nat.mul_le_mul_right _ hq;rw[Nat.succ_mul]at this;omega
  have hmod:(q*szOf P e+j)%szOf P e=j:=by rw[Nat.mul_comm,Nat.mul_add_mod,Nat.mod_eq_of_lt hj]
  have:=z3 G [] j;have hj':j<z.cells.size:=by rw[hzs];exact hj
  simp only[madeCells,aG,Array.getElem?_map,Array.getElem?_range,hsz,hlt,if_true,Option.map_some,Option.getD_some,hzs,hmod];rw[getElem!_pos z.cells j hj'];simpa[aG,hj']using this
 ·exact .row (List.getElem?_set_self hlt) (Nat.le_refl _) (Nat.le_refl _) (by unfold maxn;omega)
theorem AStep.alloc0(hi:ops[i]? =some o)(hw:wantedV ops S o=some true){t:TypeId}{q:Nat}{zs:List V}(hop:o.op=.alloc t)(hz:zeroCs P t=some zs)(hvd:S.h[q]? =some .void):
  AStep P ro ops i S ({S with h:=S.h.set q (zeroBlk P t zs).1}.put o.dst (.ref q 0 0)):=by
 refine AStep.of_val hi hw (fun c hcc=>by rw[hop]at hcc;cases hcc) fun β G K a w r=> ?_;obtain⟨z,z1,z2,z3⟩:=zeroCs_ok hz w;have hlt:q<β.length:=by rw[r.h.len];exact(List.getElem?_eq_some_iff.1 hvd).1
 have hle:=le_set_void (x:=.lie ⟨w.heap.size,(zeroBlk P t zs).2.1,(zeroBlk P t zs).2.2⟩) (r.h.void_home hvd)
 have hrun:(execOp a.eval o).run P w=.ok (.value (.pointer (some ⟨w.heap.size,0,none⟩))) (w.alloc (.cells z.cells t)):=by
  simp only[execOp,hop,Instr.alloc,Sem.run_bind,z1,Result.andThen_ok,newVar,newRow,run_newObj,Sem.run_pure,World.alloc_eq]
 refine⟨_,_,β.set q (.lie ⟨w.heap.size,(zeroBlk P t zs).2.1,(zeroBlk P t zs).2.2⟩),G,K,hrun,hle.low _,G.ext_refl K,K.le_refl,r.refill hvd hle (r.h.fillG (fun b hb=>heap_alloc_lt w _ hb) (by simp) hvd (x:=⟨w.heap.size,(zeroBlk P t zs).2.1,(zeroBlk P t zs).2.2⟩) (Nat.le_refl _) (by simp) (zeroBlk_ok w z2 z3) (Mild.alloc w _)),?_⟩;have:=Rel.ref (G:=G) (β:=β.set q (.lie ⟨w.heap.size,(zeroBlk P t zs).2.1,(zeroBlk P t zs).2.2⟩)) (i:=q) (r:=0) (off:=0) (List.getElem?_set_self hlt)
 simp only[Nat.zero_mul,Nat.add_zero]at this;exact this
end
abbrev Tab:=List (List Nat × List Nat)
def mkb(t:Tab)(i:Nat)(v:Bool)(c:Nat->Bool)(j:Nat):Bool:=
 bif Nat.beq j i then v else bif ((t.getD i ([],[])).1.any (Nat.beq j))then true else bif ((t.getD i ([],[])).2.any (Nat.beq j))then c j else false
def tabOK(ops:Array Oper)(t:Tab)(m:Nat):Bool:=
 (List.range m).all fun i=>((t.getD i ([],[])).1.all fun j=>reach ops 12 j i)&&(List.range m).all fun j=>Nat.beq j i||(t.getD i ([],[])).1.any (Nat.beq j)||(t.getD i ([],[])).2.any (Nat.beq j)||reach ops 12 i j
theorem beq_nat{a b:Nat}:Nat.beq a b=true↔a=b:=⟨Nat.eq_of_beq_eq_true,fun h=>h▸Nat.beq_refl a⟩
theorem any_beq{l:List Nat}{j:Nat}:l.any (Nat.beq j)=true↔j∈l:=by
 rw[List.any_eq_true];constructor
 ·rintro⟨x,hx,e⟩;rw[beq_nat.1 e];exact hx
 ·exact fun h=>⟨j,h,beq_nat.2 rfl⟩
theorem AWP.region_bits{P:Program}{ro:Env}{id:Nat}{ops:Array Oper}{S:St}{Q:Exit->St->Prop}(m nn:Nat)(t:Tab)(hmx:P.follows .mixedOrders=true)(st:(Nat->Bool)->St)
  (step:∀i,i<m->∀c,AStep P ro ops i (st (mkb t i false c)) (st (mkb t i true c)))
  (last:AOps P ro ops (List.range' m (ops.size-m)) (st fun j=>Nat.blt j m) Q)
  (hback:backOK ops=true:=by kernel_rfl) (hm:Nat.ble m ops.size=true:=by kernel_rfl) (ht:((List.range' m (ops.size-m)).all (tailAt ops))=true:=by kernel_rfl) (htab:tabOK ops t m=true:=by kernel_rfl)
  (h0:st (fun _=>false)={S with h:=S.h++List.replicate nn .void}:=by kernel_rfl):AWP P ro (.region id ops true) S Q:=by
 have hm':m<=ops.size:=Nat.le_of_ble_eq_true hm;refine AWP.region_anyC m hmx hback hm' (fun j h1 h2=> ?_) (fun l=>st fun j=>l.getD j false) (fun β G K a w r=>⟨_,Homes.le_append β (List.replicate nn Hm.void),?_⟩) (fun l i hl hi hli hlj hc hr=> ?_) (fun l hl h1 h2=> ?_)
 ·rw[List.all_eq_true]at ht;exact ht j (List.mem_range'_1.2 ⟨h1,by omega⟩)
 ·have e:(fun j=>(Array.replicate ops.size false).getD j false)=fun _=>false:=by
   funext j
   rw[aG,Array.getElem?_replicate];split<;>rfl
  rw[e,h0];exact r.reserve nn
 ·unfold tabOK at htab;rw[List.all_eq_true]at htab;have hti:=htab i (List.mem_range.2 hi);rw[Bool.and_eq_true,List.all_eq_true,List.all_eq_true]at hti;obtain⟨t1,t2⟩:=hti
  have key:∀v:Bool,∀j,(if i=j then v else l.getD j false)=mkb t i v (fun j=>l.getD j false) j:=fun v j=>by
   unfold mkb;by_cases e:i=j
   ·rw[if_pos e,beq_nat.2 e.symm];rfl
   ·rw[if_neg e,Bool.eq_false_iff.2 (fun q=>e (beq_nat.1 q).symm)];show _=bif _ then true else _;by_cases h1:j∈(t.getD i ([],[])).1
    ·rw[any_beq.2 h1];exact reach_ready (t1 j h1) hc hr
    ·rw[Bool.eq_false_iff.2 fun q=>h1 (any_beq.1 q)];show _=bif _ then _ else false;by_cases h2:j∈(t.getD i ([],[])).2
     ·rw[any_beq.2 h2];rfl
     ·rw[Bool.eq_false_iff.2 fun q=>h2 (any_beq.1 q)];show l.getD j false=false;by_cases hjm:j<m
      ·have:=t2 j (List.mem_range.2 hjm);rw[Bool.eq_false_iff.2 fun q=>e (beq_nat.1 q).symm,Bool.eq_false_iff.2 fun q=>h1 (any_beq.1 q),Bool.eq_false_iff.2 fun q=>h2 (any_beq.1 q)]at this;exact reach_not (by simpa using this) hc hli
      ·exact hlj j (by omega)
  have e1:(fun j=>l.getD j false)=mkb t i false fun j=>l.getD j false:=by
   funext j
   rw[<-key false j];split
   ·rename_i q;rw[<-q];exact hli
   ·rfl
  have e2:(fun j=>(l.setIfInBounds i true).getD j false)=mkb t i true fun j=>l.getD j false:=by
   funext j;rw[gset7 (by omega),key true j]
  show AStep P ro ops i (st fun j=>l.getD j false) (st fun j=>(l.setIfInBounds i true).getD j false);rw[e2];conv=>arg 5;rw[e1]
  exact step i hi _
 ·have e:(fun j=>l.getD j false)=fun j=>Nat.blt j m:=by
   funext j
   by_cases q:j<m
   ·rw[h1 j q,show Nat.blt j m=true from Nat.ble_eq_true_of_le q]
   ·rw[h2 j (by omega)];refine(Bool.eq_false_iff.2 fun z=>q ?_).symm;exact Nat.le_of_ble_eq_true z
  show AOps P ro ops _ (st fun j=>l.getD j false) Q;rw[e];exact last
theorem mkb_free(t:Tab)(i:Nat)(v:Bool)(c:Nat->Bool)(fr:List Nat)(h:(t.getD i ([],[])).2=fr):mkb t i v c=mkb t i v fun j=>(fr.map c).getD (fr.findIdx (Nat.beq j)) false:=by
 funext j
 unfold mkb;rw[h];by_cases q:fr.any (Nat.beq j)=true
 ·have hlt:fr.findIdx (Nat.beq j)<fr.length:=List.findIdx_lt_length.2 (List.any_eq_true.1 q);have hg:=List.findIdx_getElem (w:=hlt)
  have e:(fr.map c).getD (fr.findIdx (Nat.beq j)) false=c j:=by
   rw[gE,List.getElem?_map,List.getElem?_eq_getElem hlt];show c fr[fr.findIdx (Nat.beq j)]=c j;rw[<-beq_nat.1 hg]
  simp only[e]
 ·rw[Bool.eq_false_iff.2 q];rfl
section
variable {P:Program} {ro:Env} {ops:Array Oper} {i:Nat} {S S2:St}
theorem AStep.rd(b:Bool)(v:V)(hb:b=true)(hi:ops[i]? =some (ops.getD i default):=by kernel_rfl)(hw:wantedV ops S (ops.getD i default)=some true:=by kernel_rfl)(hf:(match(ops.getD i default).op with|.defer _=>false|_=>true)=true:=by kernel_rfl)
  (he:evalOp P S.eval S.h (ops.getD i default).op=some (b,v,S.h):=by kernel_rfl) (e:S.put (ops.getD i default).dst v=S2:=by kernel_rfl):AStep P ro ops i S S2:=
 AStep.to (AStep.read hi hw (fun d q=>by rw[q]at hf;cases hf) he hb) e
theorem AStep.lt(t e len:Nat)(parts:Array (Nat × Operand))(zs cs:List V)(hi:ops[i]? =some (ops.getD i default):=by kernel_rfl)(hw:wantedV ops S (ops.getD i default)=some true:=by kernel_rfl)(hop:(ops.getD i default).op=.buildSlice t len parts:=by kernel_rfl)(hu:P.underlying t=some (.slice e):=by kernel_rfl)(hz:zeroCs P e=some zs:=by kernel_rfl)
  (hc:decide (hasT P e=true/\0<szOf P e/\len*szOf P e<=16777216/\zs.length=szOf P e)=true:=by kernel_rfl)
  (hb:fillV P (fun i=>some (i*szOf P e,e)) ((List.range (len*szOf P e)).map fun q=>zs.getD (q%szOf P e) .undef) (mapV parts S.eval)=some cs:=by kernel_rfl) (himm:underL 0 cs=true:=by kernel_rfl)
  (h2:S.put (ops.getD i default).dst (if len=0 then .nils else .list (szOf P e) len (litC (szOf P e) len cs))=S2:=by kernel_rfl):AStep P ro ops i S S2:=AStep.to (AStep.lit hi hw hop hu hz hc hb himm) h2
theorem AStep.ap(t:Nat)(s x:Operand)(q:Nat)(blk:Blk)(ob:Bool)(p:Nat->Bool)(v:V)(hob:ob=true)(hp:∀r,p r=true)(h2:({killS q S with h:=(killS q S).h.set q blk}.put (ops.getD i default).dst v)=S2)(hi:ops[i]? =some (ops.getD i default):=by kernel_rfl)(hw:wantedV ops S (ops.getD i default)=some true:=by kernel_rfl)
  (ho:(ops.getD i default).op=.call {callee:=.builtin .append,args:= #[s,x],argTypes:= #[t,t]}:=by kernel_rfl) (he:appendV P ro.m S t (S.eval s) (S.eval x)=some (ob,p,v,{killS q S with h:=(killS q S).h.set q blk}):=by kernel_rfl):AStep P ro ops i S S2:=AStep.to (AStep.app hi hw ho he hob hp) h2
theorem AStep.al(t q:Nat)(zs:List V)(hi:ops[i]? =some (ops.getD i default):=by kernel_rfl)(hw:wantedV ops S (ops.getD i default)=some true:=by kernel_rfl)(hop:(ops.getD i default).op=.alloc t:=by kernel_rfl)(hz:zeroCs P t=some zs:=by kernel_rfl)(hvd:S.h[q]? =some .void:=by kernel_rfl)
  (h2:({S with h:=S.h.set q (zeroBlk P t zs).1}.put (ops.getD i default).dst (.ref q 0 0))=S2:=by kernel_rfl):AStep P ro ops i S S2:=AStep.to (AStep.alloc0 hi hw hop hz hvd) h2
theorem AStep.mk(t e:Nat)(l c:Operand)(n:Int)(q wd:Nat)(zs:List V)(h1:0<=n)(h3:n<=4294967296)(hi:ops[i]? =some (ops.getD i default):=by kernel_rfl)(hw:wantedV ops S (ops.getD i default)=some true:=by kernel_rfl)(hop:(ops.getD i default).op=.makeSlice t l c:=by kernel_rfl)(hl:S.eval l=.int .i64 n:=by kernel_rfl)(hc:S.eval c=.int .i64 n:=by kernel_rfl)
  (hu:P.underlying t=some (.slice e):=by kernel_rfl) (hz:zeroCs P e=some zs:=by kernel_rfl) (hd:decide (hasT P e=true/\szOf P e=wd/\0<wd/\zs.length=wd/\P.bytesOf e<=65536)=true:=by kernel_rfl) (hvd:S.h[q]? =some .void:=by kernel_rfl)
  (h2:({S with h:=S.h.set q (.rows e wd n.toNat fun _ j=>zs.getD j .undef)}.put (ops.getD i default).dst (.row q n.toNat))=S2:=by kernel_rfl):AStep P ro ops i S S2:=AStep.to (AStep.mk0 hi hw hop hl hc hu hz hd hvd h1 h3) h2
end
theorem RH.take{β:Homes}{G K:Kept}{h:List Blk}{w:World}(r:RH β G K h w){n:Nat}(hu:(h.take n).all (Blk.under n)=true):RH (β.take n) G K (h.take n) w:=by
 have get:∀ {i:Nat} {k:Blk},(h.take n)[i]? =some k->i<n/\h[i]? =some k:=fun {i k} hi=>by
  rw[List.getElem?_take]at hi;split at hi
  ·rename_i hn;exact⟨hn,hi⟩
  ·cases hi
 have getb:∀ {i:Nat},i<n->(β.take n)[i]? =β[i]? :=fun hi=>List.getElem?_take_of_lt hi;refine⟨by simp[r.len],fun i k hk=> ?_,fun i j x y k k' hi hj g g' hbi hbj e=> ?_,fun i x k hi g hb=> ?_,r.keep,r.gk,r.amb,fun i X tr hi=> ?_⟩
 ·obtain⟨h1,h2⟩:=get hk;rw[getb h1];exact(r.blk i k h2).take (List.all_eq_true.1 hu k (List.mem_of_getElem? hk))
 ·obtain⟨h1,h2⟩:=get hi;obtain⟨h3,h4⟩:=get hj;rw[getb h1]at hbi;rw[getb h3]at hbj;exact r.inj i j x y k k' h2 h4 g g' hbi hbj e
 ·obtain⟨h1,h2⟩:=get hi;rw[getb h1]at hb;exact r.sep i x k h2 g hb
 ·obtain⟨h1,h2⟩:=get hi;obtain⟨l,E,q1,q2,q3,q4⟩:=r.ext i X tr h2;refine⟨l,E,by rw[getb h1];exact q1,q2,q3,fun b hb=>⟨(q4 b hb).1,fun j x k hj g hbj=> ?_⟩⟩;obtain⟨h5,h6⟩:=get hj;rw[getb h5]at hbj;exact(q4 b hb).2 j x k h6 g hbj
def V.at(i:Nat):V->V
 |.ref 0 r off=>.ref i r off
 |v=>v
theorem Rel.low{G:Kept}{β γ:Homes}{v:V}{x:Value}(h:Rel G β v x)(hu:v.under 0=true):Rel G γ v x:=by
 have:=h.take (m:=0) hu;rw[List.take_zero]at this;exact this.up γ
theorem HCalls.at{P:Program}{f:FuncId}{args:List V}{v:V}{cs cs':List V}(hc:HCalls P f args v [.cells cs] [.cells cs'])(ha:∀j,(∃r off,args.getD j .undef=.ref 0 r off)\/(args.getD j .undef).under 0=true)(hv:v.under 0=true)(hk:underL 0 cs=true)(hk':underL 0 cs'=true)
  {h:List Blk} {i:Nat} (hi:h[i]? =some (.cells cs)):HCalls P f (args.map (V.at i)) v h (h.set i (.cells cs')):=
 ⟨hc.1,fun β G K w xs r hl hr=>by
  have hB:=r.blk i _ hi
  obtain⟨x,hx⟩:∃x,β[i]? =some (.lie x):=by
   cases hb:β[i]? with
   |none=>rw[hb]at hB;exact hB.elim
   |some m=>
    rw[hb]at hB
    cases m with
    |lie x=>exact⟨x,rfl⟩
    |void=>exact hB.elim
    |nil=>exact hB.elim
    |ext l=>exact hB.elim
  rw[hx]at hB;obtain⟨hKx,hlt⟩:=r.sep i x _ hi (by simp) hx
  obtain⟨K0,hK0⟩:∃K0:Kept,K0=⟨fun b=>if b=x.b then none else w.heap[b]?,K.amb⟩:=⟨_,rfl⟩
  have k0x:K0 x.b=none:=by rw[hK0];simp
  have k0o:∀b,b≠x.b->K0 b=w.heap[b]? :=fun b hb=>by rw[hK0];simp[hb]
  have hGK0:G.le K0:=⟨fun b o hb=>by
   have h1:=r.gk b o hb;have h2:b≠x.b:=fun e=>by rw[e,hKx]at h1;cases h1
   rw[k0o b h2];exact r.keep b o h1,r.gk.same.trans (by rw[hK0])⟩
  have r0:RH [.lie x] G K0 [.cells cs] w:=by
   refine⟨rfl,fun j k hj=> ?_,fun j l y z k k' hj hl _ _ _ _ _=> ?_,fun j y k hj _ hb=> ?_,fun b o hb=> ?_,hGK0,by rw[hK0];exact r.amb,fun j X tr hj=> ?_⟩
   ·match j,hj with
    |0,hj=>
     cases hj;obtain⟨c,e,h1,h2,h3⟩:=hB;exact⟨c,e,h1,h2,fun q hq=>(h3 q hq).low (underL_getD hk q)⟩
    |j+1,hj=>simp at hj
   ·match j,l,hj,hl with
    |0,0,_,_=>rfl
    |j+1,_,hj,_=>simp at hj
    |0,l+1,_,hl=>simp at hl
   ·match j,hj,hb with
    |0,_,hb=>cases hb;exact⟨k0x,hlt⟩
    |j+1,hj,_=>simp at hj
   ·by_cases e:b=x.b
    ·rw[e,k0x]at hb;cases hb
    ·rw[k0o b e]at hb;exact hb
   ·match j,hj with
    |0,hj=>cases hj
    |j+1,hj=>simp at hj
  refine(hc.tight rfl rfl [.lie x] G K0 w xs r0 (by simpa using hl) fun j hj=> ?_).mono ?_
  ·have h1:=hr j (by simpa using hj)
   have e1:(args.map (V.at i)).getD j .undef=V.at i (args.getD j .undef):=by
    simp only[gE,List.getElem?_map];cases args[j]? <;>rfl
   rw[e1]at h1;rcases ha j with⟨q,off,e⟩|hu
   ·rw[e]at h1⊢;change Rel G β (.ref i q off) _ at h1
    generalize xs.getD j Go.undef=y at h1
    cases h1 with
    |ref hb=>rw[hx]at hb;cases hb;exact .ref rfl
   ·have e2:V.at i (args.getD j .undef)=args.getD j .undef:=by
     generalize args.getD j .undef=u at hu
     unfold V.at;split
     ·simp[V.under]at hu
     ·rfl
    rw[e2]at h1;exact h1.low hu
  rintro e w' ⟨⟨y,γ,G',K',rfl,hγ,hG,hK,r',hy⟩,hmild⟩
  have hg0:γ=[.lie x]:=by
   have h1:=hγ 0 (.lie x) (by simp) rfl;have h2:γ.length=1:=r'.len
   match γ,h1,h2 with
   |[z],h1,_=>cases h1;rfl
  subst hg0
  have hold:∀b,b<w.heap.size->b≠x.b->w'.heap[b]? =w.heap[b]? :=fun b hb hne=>by
   have e1:w.heap[b]? =some w.heap[b]:=Array.getElem?_eq_getElem hb;rw[e1];exact r'.keep b _ (hK b _ (by rw[k0o b hne];exact e1))
  have hx':=r'.sep 0 x _ rfl (by simp) rfl
  have hsz:w.heap.size<=w'.heap.size:=by
   rcases Nat.lt_or_ge w'.heap.size w.heap.size with q|q
   ·by_cases e:w'.heap.size=x.b
    ·have:=hx'.2;omega
    ·have:=hold w'.heap.size q e;rw[Array.getElem?_eq_none (Nat.le_refl _),Array.getElem?_eq_getElem q]at this;cases this
   ·exact q
  have hnew:∀b o,G' b=some o->G b=some o\/w.heap.size<=b:=fun b o hb=>by
   rcases hG.2 b o hb with q|q
   ·exact .inl q
   ·rcases Nat.lt_or_ge b w.heap.size with z|z
    ·by_cases e:b=x.b
     ·have:=r'.gk b o hb;rw[e,hx'.1]at this;cases this
     ·rw[k0o b e,Array.getElem?_eq_getElem z]at q;cases q
    ·exact .inr z
  have hKlt:∀b o,K b=some o->b<w.heap.size:=fun b o hb=>(Array.getElem?_eq_some_iff.1 (r.keep b o hb)).1
  have hKn:∀b,w.heap.size<=b->K b=none:=fun b hb=>by
   cases q:K b with
   |none=>rfl
   |some o=>have:=hKlt b o q;omega
  obtain⟨K2,hK2⟩:∃K2:Kept,K2=⟨fun b=>match K b with|some o=>some o|none=>G' b,K.amb⟩:=⟨_,rfl⟩
  have k2K:∀b o,K b=some o->K2 b=some o:=fun b o hb=>by rw[hK2];simp[hb]
  have k2n:∀b,K b=none->K2 b=G' b:=fun b hb=>by rw[hK2];simp[hb]
  have k2none:∀b,b<w.heap.size->K b=none->K2 b=none:=fun b hb hn=>by
   rw[k2n b hn]
   cases q:G' b with
   |none=>rfl
   |some o=>
    rcases hnew b o q with z|z
    ·have:=r.gk b o z;rw[hn]at this;cases this
    ·omega
  have hsame:K.amb=G'.amb:=by rw[<-r.gk.same];exact hG.1.same
  refine⟨y,β,G',K2,rfl,Homes.le_refl _,⟨hG.1,fun b o hb=>(hnew b o hb).imp id (hKn b)⟩,⟨k2K,by rw[hK2]⟩,⟨by simp[r.len],fun j k hj=> ?_,fun j l y z k k' hj hl g g' hbj hbl e=> ?_,fun j y k hj g hb=> ?_,fun b o hb=> ?_,⟨fun b o hb=> ?_,?_⟩,?_,fun j X tr hj=> ?_⟩,hy.low hv⟩
  ·by_cases e:j=i
   ·subst e;rw[List.getElem?_set_self (List.getElem?_eq_some_iff.1 hi).1]at hj;cases hj;rw[hx];obtain⟨c,t,h1,h2,h3⟩:=r'.blk 0 _ rfl;exact⟨c,t,h1,h2,fun q hq=>(h3 q hq).low (underL_getD hk' q)⟩
   ·rw[sN (Ne.symm e)]at hj;by_cases hg:k=.gone
    ·subst hg;cases(β[j]?.getD .void)<;>trivial
    refine(r.blk j k hj).mono hG.1 (Homes.le_refl _) fun y hy=> ?_
    have hb:β[j]? =some (.lie y):=by
     cases hb:β[j]? with
     |none=>simp[hb]at hy
     |some z=>simp[hb]at hy;rw[hy]
    refine hold y.b (r.sep j y k hj hg hb).2 fun e2=>e ?_;exact r.inj j i y x k _ hj hi hg (by simp) hb hx e2
  ·have look:∀ {j:Nat} {k:Blk},(h.set i (.cells cs'))[j]? =some k->k≠ .gone->∃k2,h[j]? =some k2/\k2≠ .gone:=fun {j k} hj g=>by
    by_cases e:j=i
    ·subst e;exact⟨_,hi,by simp⟩
    ·rw[sN (Ne.symm e)]at hj;exact⟨k,hj,g⟩
   obtain⟨k2,q1,q2⟩:=look hj g;obtain⟨k3,q3,q4⟩:=look hl g';exact r.inj j l y z k2 k3 q1 q3 q2 q4 hbj hbl e
  ·by_cases e:j=i
   ·subst e;rw[hx]at hb;cases hb;exact⟨k2none _ hlt hKx,Nat.lt_of_lt_of_le hlt hsz⟩
   ·rw[sN (Ne.symm e)]at hj;have hs:=r.sep j y k hj g hb;exact⟨k2none _ hs.2 hs.1,Nat.lt_of_lt_of_le hs.2 hsz⟩
  ·cases q:K b with
   |none=>rw[k2n b q]at hb;exact r'.keep b o (r'.gk b o hb)
   |some o'=>
    rw[k2K b o' q]at hb;cases hb;have hne:b≠x.b:=fun e=>by rw[e,hKx]at q;cases q
    rw[hold b (hKlt b _ q) hne];exact r.keep b _ q
  ·cases q:K b with
   |none=>rw[k2n b q];exact hb
   |some o'=>
    rw[k2K b o' q];rcases hnew b o hb with z|z
    ·have:=r.gk b o z;rw[q]at this;exact this
    ·have:=hKlt b o' q;omega
  ·rw[hK2];exact hsame.symm
  ·rw[hK2];exact r.amb.mild hmild
  ·have hne:j≠i:=fun e=>by
    subst e;rw[List.getElem?_set_self (List.getElem?_eq_some_iff.1 hi).1]at hj;cases hj
   rw[sN (Ne.symm hne)]at hj;obtain⟨l,E,h1,h2,h3,h4⟩:=r.ext j X tr hj
   have hE:∀b,E b≠none->b<w.heap.size/\b≠x.b:=fun b hb=>⟨Ext.lt h2 hb,fun e=>(h4 b hb).2 i x _ hi (by simp) hx e.symm⟩
   refine⟨l,E,h1,X.stable h2 (fun b o hb=> ?_) (fun b o hb=> ?_) hsz hmild,⟨fun b o hb=>k2K b o (h3 b o hb),h3.same.trans (by rw[hK2])⟩,fun b hb=>⟨k2none b (hE b hb).1 (h4 b hb).1,fun q z k hq g hz=> ?_⟩⟩
   ·have q:=X.keeps h2 b o hb;have:=hE b (by rw[hb];simp);rw[hold b this.1 this.2];exact q
   ·have q:=h3 b o hb;have hne2:b≠x.b:=fun e=>by rw[e,hKx]at q;cases q
    rw[hold b (hKlt b o q) hne2];exact r.keep b o q
   ·by_cases e:q=i
    ·subst e;rw[hx]at hz;cases hz;exact fun e=>(hE b hb).2 e.symm
    ·rw[sN (Ne.symm e)]at hq
     exact(h4 b hb).2 q z k hq g hz⟩
def V.atR(i:Nat):V->V
 |.ref 0 r off=>.ref i r off
 |.row 0 n=>.row i n
 |v=>v
theorem HCalls.atRow{P:Program}{f:FuncId}{args:List V}{v:V}{et:TypeId}{wd n n2:Nat}{c0 c2:Nat->Nat->V}(hc:HCalls P f args v [.rows et wd n c0] [.rows et wd n2 c2])(ha:∀j,(∃r off,args.getD j .undef=.ref 0 r off)\/(∃m,args.getD j .undef=.row 0 m)\/(args.getD j .undef).under 0=true)(hv:(∃m,v=.row 0 m)\/v.under 0=true)(h0n:0<n)
  {h:List Blk} {i:Nat} (hi:h[i]? =some (.rows et wd n c0)):HCalls P f (args.map (V.atR i)) (V.atR i v) h (h.set i (.rows et wd n2 c2)):=
 ⟨hc.1,fun β G K w xs r hl hr=>by
  have hB:=r.blk i _ hi
  obtain⟨x,hx⟩:∃x,β[i]? =some (.lie x):=by
   cases hb:β[i]? with
   |none=>rw[hb]at hB;exact hB.elim
   |some m=>
    rw[hb]at hB
    cases m with
    |lie x=>exact⟨x,rfl⟩
    |void=>exact hB.elim
    |nil=>exact absurd hB.1 (by omega)
    |ext l=>exact hB.elim
  rw[hx]at hB;obtain⟨hKx,hlt⟩:=r.sep i x _ hi (by simp) hx
  obtain⟨K0,hK0⟩:∃K0:Kept,K0=⟨fun b=>if b=x.b then none else w.heap[b]?,K.amb⟩:=⟨_,rfl⟩
  have k0x:K0 x.b=none:=by rw[hK0];simp
  have k0o:∀b,b≠x.b->K0 b=w.heap[b]? :=fun b hb=>by rw[hK0];simp[hb]
  have hGK0:G.le K0:=⟨fun b o hb=>by
   have h1:=r.gk b o hb;have h2:b≠x.b:=fun e=>by rw[e,hKx]at h1;cases h1
   rw[k0o b h2];exact r.keep b o h1,r.gk.same.trans (by rw[hK0])⟩
  have r0:RH [.lie x] G K0 [.rows et wd n c0] w:=by
   refine⟨rfl,fun j k hj=> ?_,fun j l y z k k' hj hl _ _ _ _ _=> ?_,fun j y k hj _ hb=> ?_,fun b o hb=> ?_,hGK0,by rw[hK0];exact r.amb,fun j X tr hj=> ?_⟩
   ·match j,hj with
    |0,hj=>
     cases hj;exact hB
    |j+1,hj=>simp at hj
   ·match j,l,hj,hl with
    |0,0,_,_=>rfl
    |j+1,_,hj,_=>simp at hj
    |0,l+1,_,hl=>simp at hl
   ·match j,hj,hb with
    |0,_,hb=>cases hb;exact⟨k0x,hlt⟩
    |j+1,hj,_=>simp at hj
   ·by_cases e:b=x.b
    ·rw[e,k0x]at hb;cases hb
    ·rw[k0o b e]at hb;exact hb
   ·match j,hj with
    |0,hj=>cases hj
    |j+1,hj=>simp at hj
  refine(hc.tight rfl rfl [.lie x] G K0 w xs r0 (by simpa using hl) fun j hj=> ?_).mono ?_
  ·have h1:=hr j (by simpa using hj)
   have e1:(args.map (V.atR i)).getD j .undef=V.atR i (args.getD j .undef):=by
    simp only[gE,List.getElem?_map];cases args[j]? <;>rfl
   rw[e1]at h1;rcases ha j with⟨q,off,e⟩|⟨m,e⟩|hu
   ·rw[e]at h1⊢;change Rel G β (.ref i q off) _ at h1
    generalize xs.getD j Go.undef=y at h1
    cases h1 with
    |ref hb=>rw[hx]at hb;cases hb;exact .ref rfl
   ·rw[e]at h1⊢;change Rel G β (.row i m) _ at h1
    generalize xs.getD j Go.undef=y at h1
    cases h1 with
    |row hb q1 q2 q3=>rw[hx]at hb;cases hb;exact .row rfl q1 q2 q3
    |row0 hb=>rw[hx]at hb;cases hb
   ·have e2:V.atR i (args.getD j .undef)=args.getD j .undef:=by
     generalize args.getD j .undef=u at hu
     unfold V.atR;split
     ·simp[V.under]at hu
     ·simp[V.under]at hu
     ·rfl
    rw[e2]at h1;exact h1.low hu
  rintro e w' ⟨⟨y,γ,G',K',rfl,hγ,hG,hK,r',hy⟩,hmild⟩
  have hg0:γ=[.lie x]:=by
   have h1:=hγ 0 (.lie x) (by simp) rfl;have h2:γ.length=1:=r'.len
   match γ,h1,h2 with
   |[z],h1,_=>cases h1;rfl
  subst hg0
  have hold:∀b,b<w.heap.size->b≠x.b->w'.heap[b]? =w.heap[b]? :=fun b hb hne=>by
   have e1:w.heap[b]? =some w.heap[b]:=Array.getElem?_eq_getElem hb;rw[e1];exact r'.keep b _ (hK b _ (by rw[k0o b hne];exact e1))
  have hx':=r'.sep 0 x _ rfl (by simp) rfl
  have hsz:w.heap.size<=w'.heap.size:=by
   rcases Nat.lt_or_ge w'.heap.size w.heap.size with q|q
   ·by_cases e:w'.heap.size=x.b
    ·have:=hx'.2;omega
    ·have:=hold w'.heap.size q e;rw[Array.getElem?_eq_none (Nat.le_refl _),Array.getElem?_eq_getElem q]at this;cases this
   ·exact q
  have hnew:∀b o,G' b=some o->G b=some o\/w.heap.size<=b:=fun b o hb=>by
   rcases hG.2 b o hb with q|q
   ·exact .inl q
   ·rcases Nat.lt_or_ge b w.heap.size with z|z
    ·by_cases e:b=x.b
     ·have:=r'.gk b o hb;rw[e,hx'.1]at this;cases this
     ·rw[k0o b e,Array.getElem?_eq_getElem z]at q;cases q
    ·exact .inr z
  have hKlt:∀b o,K b=some o->b<w.heap.size:=fun b o hb=>(Array.getElem?_eq_some_iff.1 (r.keep b o hb)).1
  have hKn:∀b,w.heap.size<=b->K b=none:=fun b hb=>by
   cases q:K b with
   |none=>rfl
   |some o=>have:=hKlt b o q;omega
  obtain⟨K2,hK2⟩:∃K2:Kept,K2=⟨fun b=>match K b with|some o=>some o|none=>G' b,K.amb⟩:=⟨_,rfl⟩
  have k2K:∀b o,K b=some o->K2 b=some o:=fun b o hb=>by rw[hK2];simp[hb]
  have k2n:∀b,K b=none->K2 b=G' b:=fun b hb=>by rw[hK2];simp[hb]
  have k2none:∀b,b<w.heap.size->K b=none->K2 b=none:=fun b hb hn=>by
   rw[k2n b hn]
   cases q:G' b with
   |none=>rfl
   |some o=>
    rcases hnew b o q with z|z
    ·have:=r.gk b o z;rw[hn]at this;cases this
    ·omega
  have hsame:K.amb=G'.amb:=by rw[<-r.gk.same];exact hG.1.same
  refine⟨y,β,G',K2,rfl,Homes.le_refl _,⟨hG.1,fun b o hb=>(hnew b o hb).imp id (hKn b)⟩,⟨k2K,by rw[hK2]⟩,⟨by simp[r.len],fun j k hj=> ?_,fun j l y z k k' hj hl g g' hbj hbl e=> ?_,fun j y k hj g hb=> ?_,fun b o hb=> ?_,⟨fun b o hb=> ?_,?_⟩,?_,fun j X tr hj=> ?_⟩,?_⟩
  ·by_cases e:j=i
   ·subst e;rw[List.getElem?_set_self (List.getElem?_eq_some_iff.1 hi).1]at hj;cases hj;rw[hx];exact r'.blk 0 _ rfl
   ·rw[sN (Ne.symm e)]at hj;by_cases hg:k=.gone
    ·subst hg;cases(β[j]?.getD .void)<;>trivial
    refine(r.blk j k hj).mono hG.1 (Homes.le_refl _) fun y hy=> ?_
    have hb:β[j]? =some (.lie y):=by
     cases hb:β[j]? with
     |none=>simp[hb]at hy
     |some z=>simp[hb]at hy;rw[hy]
    refine hold y.b (r.sep j y k hj hg hb).2 fun e2=>e ?_;exact r.inj j i y x k _ hj hi hg (by simp) hb hx e2
  ·have look:∀ {j:Nat} {k:Blk},(h.set i (.rows et wd n2 c2))[j]? =some k->k≠ .gone->∃k2,h[j]? =some k2/\k2≠ .gone:=fun {j k} hj g=>by
    by_cases e:j=i
    ·subst e;exact⟨_,hi,by simp⟩
    ·rw[sN (Ne.symm e)]at hj;exact⟨k,hj,g⟩
   obtain⟨k2,q1,q2⟩:=look hj g;obtain⟨k3,q3,q4⟩:=look hl g';exact r.inj j l y z k2 k3 q1 q3 q2 q4 hbj hbl e
  ·by_cases e:j=i
   ·subst e;rw[hx]at hb;cases hb;exact⟨k2none _ hlt hKx,Nat.lt_of_lt_of_le hlt hsz⟩
   ·rw[sN (Ne.symm e)]at hj;have hs:=r.sep j y k hj g hb;exact⟨k2none _ hs.2 hs.1,Nat.lt_of_lt_of_le hs.2 hsz⟩
  ·cases q:K b with
   |none=>rw[k2n b q]at hb;exact r'.keep b o (r'.gk b o hb)
   |some o'=>
    rw[k2K b o' q]at hb;cases hb;have hne:b≠x.b:=fun e=>by rw[e,hKx]at q;cases q
    rw[hold b (hKlt b _ q) hne];exact r.keep b _ q
  ·cases q:K b with
   |none=>rw[k2n b q];exact hb
   |some o'=>
    rw[k2K b o' q];rcases hnew b o hb with z|z
    ·have:=r.gk b o z;rw[q]at this;exact this
    ·have:=hKlt b o' q;omega
  ·rw[hK2];exact hsame.symm
  ·rw[hK2];exact r.amb.mild hmild
  ·have hne:j≠i:=fun e=>by
    subst e;rw[List.getElem?_set_self (List.getElem?_eq_some_iff.1 hi).1]at hj;cases hj
   rw[sN (Ne.symm hne)]at hj;obtain⟨l,E,h1,h2,h3,h4⟩:=r.ext j X tr hj
   have hE:∀b,E b≠none->b<w.heap.size/\b≠x.b:=fun b hb=>⟨Ext.lt h2 hb,fun e=>(h4 b hb).2 i x _ hi (by simp) hx e.symm⟩
   refine⟨l,E,h1,X.stable h2 (fun b o hb=> ?_) (fun b o hb=> ?_) hsz hmild,⟨fun b o hb=>k2K b o (h3 b o hb),h3.same.trans (by rw[hK2])⟩,fun b hb=>⟨k2none b (hE b hb).1 (h4 b hb).1,fun q z k hq g hz=> ?_⟩⟩
   ·have q:=X.keeps h2 b o hb;have:=hE b (by rw[hb];simp);rw[hold b this.1 this.2];exact q
   ·have q:=h3 b o hb;have hne2:b≠x.b:=fun e=>by rw[e,hKx]at q;cases q
    rw[hold b (hKlt b o q) hne2];exact r.keep b o q
   ·by_cases e:q=i
    ·subst e;rw[hx]at hz;cases hz;exact fun e=>(hE b hb).2 e.symm
    ·rw[sN (Ne.symm e)]at hq;exact(h4 b hb).2 q z k hq g hz
  ·rcases hv with⟨m,rfl⟩|hv
   ·show Rel G' β (.row i m) y
    cases hy with
    |row hb q1 q2 q3=>cases hb;exact .row hx q1 q2 q3
    |row0 hb=>cases hb
   ·have e2:V.atR i v=v:=by
     unfold V.atR;split
     ·simp[V.under]at hv
     ·simp[V.under]at hv
     ·rfl
    rw[e2];exact hy.low hv⟩
theorem AWP.ownCell{P:Program}{ro:Env}{c:Code}{S:St}{Q:Exit->St->Prop}{i j n:Nat}{cs:List V}(e:TypeId)(c0:Nat->Nat->V)(hi:S.h[i]? =some (.cells cs))(hj:cs[j]? =some .nils)(hn:0<n)
  (h:AWP P ro c ⟨S.t,(S.h++ [Blk.rows e n 0 c0]).set i (.cells (cs.set j (.row S.h.length 0))),S.d⟩ Q):AWP P ro c S Q:=fun β G K a w r=>by
 have hil:=(List.getElem?_eq_some_iff.1 hi).1;have hjl:=(List.getElem?_eq_some_iff.1 hj).1;have r1:=r.push_none e c0 hn;have hz:(β++ [Hm.nil])[S.h.length]? =some .nil:=by rw[<-r.h.len];simp
 have hi1:(S.h++ [Blk.rows e n 0 c0])[i]? =some (.cells cs):=by rw[aL hil];exact hi
 have r2:RS (β++ [Hm.nil]) G K ⟨S.t,(S.h++ [Blk.rows e n 0 c0]).set i (.cells (cs.set j (.row S.h.length 0))),S.d⟩ a w:=by
  refine⟨r1.h.swap hi1 (by simp) rfl ?_,r1.size,r1.tmp,r1.marks,fun q hq=> ?_⟩
  ·have hB:=r1.h.blk i _ hi1;revert hB
   generalize(β++ [Hm.nil])[i]?.getD .void=z
   cases z with
   |void=>exact fun h=>h.elim
   |nil=>exact fun h=>h.elim
   |ext l=>exact fun h=>h.elim
   |lie y=>
    rintro⟨ca,t,h1,h2,h3⟩
    refine⟨ca,t,h1,by simpa using h2,fun q hq=> ?_⟩;have hq':q<cs.length:=by simpa using hq
    by_cases q1:j=q
    ·subst q1;have h4:=h3 j hjl;rw[gE,hj]at h4;rw[gE,List.getElem?_set_self hjl];generalize ca.getD j Go.undef=x at h4
     cases h4;exact .row0 hz
    ·rw[gE,sN q1,<-List.getD_eq_getElem?_getD];exact h3 q hq'
  ·obtain⟨x,h1,h2,h3⟩:=r1.mark q hq;have hne:i≠S.d.getD q 0:=by intro e9;rw[<-e9]at h3;rw[show({S with h:=S.h++ [Blk.rows e n 0 c0]}:St).h=S.h++ [.rows e n 0 c0]from rfl,hi1]at h3;cases h3
   refine⟨x,h1,h2,?_⟩;show((S.h++ [Blk.rows e n 0 c0]).set i _)[S.d.getD q 0]? =_;rw[sN hne];exact h3
 exact wpIn_mono (h _ G K a w r2) fun e a w hp=>hp.up ((Homes.le_append _ _).low _) (G.ext_refl K) K.le_refl
theorem zeroCells_get(zc:Array Value)(n q:Nat)(hq:q<n*zc.size):(Builtin.zeroCells zc n).toList.getD q Go.undef=zc.getD (q%zc.size) Go.undef:=by
 have h0:0<zc.size:=by
  rcases Nat.eq_zero_or_pos zc.size with h|h
  ·rw[h]at hq;simp at hq
  ·exact h
 have hm:q%zc.size<zc.size:=Nat.mod_lt _ h0;simp[Builtin.zeroCells,gE,hq,aG,hm]
theorem zeroCells_len(zc:Array Value)(n:Nat):(Builtin.zeroCells zc n).toList.length=n*zc.size:=by simp[Builtin.zeroCells]
theorem sem_clear{P:Program}{h:List Blk}{x:Operand}{t e:TypeId}{i r n w m:Nat}{et:TypeId}{c:Nat->Nat->V}{zs:List V}(hu:P.underlying t=some (.slice e))(hz:zeroCs P e=some zs)(hzl:zs.length=w)(hsc:zs.all V.scalar=true)(hi:h[i]? =some (.rows et w m c))(hr:r+n<=m):
  SemOK P (.call {callee:=.builtin .clear,args:= #[x],argTypes:= #[t]}) [(x,.sub i r 0 w n)] h (.tuple []) (h.set i (.rows et w m fun q j=>if r<=q/\q<r+n then zs.getD j .undef else c q j)):=fun β G K w0 ρ' oper ho _ rh hρ=>by
 have hx:=hρ (x,.sub i r 0 w n) (by simp);simp only at hx;have hB:=rh.blk i _ hi
 have fin:∀w',(Builtin.clear_ #[t] oper.type #[ρ' x]).run P w0=.ok (.tuple #[]) w'->RH β G K (h.set i (.rows et w m fun q j=>if r<=q/\q<r+n then zs.getD j .undef else c q j)) w'->OpOK P β G K w0 ρ' oper (.tuple []) (h.set i (.rows et w m fun q j=>if r<=q/\q<r+n then zs.getD j .undef else c q j)):=fun w' hrun hrh=>
  ⟨.value (.tuple #[]),w',β,by
   simp only[execOp,ho,resolve,Sem.run_bind,Sem.run_pure,Result.andThen_ok,invoke,builtin,List.map_toArray,List.map_cons,List.map_nil,hrun],Homes.le_refl _,hrh,.tuple rfl fun j hj=>by simp at hj⟩
 rcases Nat.eq_zero_or_pos n with h0|h0
 ·subst h0;refine fin w0 ?_ (rh.swap hi (by simp) rfl ?_)
  ·have:∃a cp,ρ' x=.slice a 0 cp:=by generalize ρ' x=xv at hx;cases hx<;>exact⟨_,_,rfl⟩
   obtain⟨a1,c1,e1⟩:=this;rw[e1];cases a1<;>simp[Builtin.clear_,run_underlying' hu]
  ·revert hB
   cases β[i]?.getD .void with
   |void=>exact id
   |nil=>exact id
   |ext l=>exact id
   |lie z=>
    rintro⟨h1,hn,hcm,ca,h2,h3,h4,h5,h6⟩
    refine⟨h1,hn,hcm,ca,h2,h3,h4,h5,fun q j hq hj=> ?_⟩;show Rel G [] (if r<=q/\q<r+0 then zs.getD j V.undef else c q j) _;rw[if_neg (by omega)];exact h6 q j hq hj
 ·generalize hxv:ρ' x=xv at hx
  cases hx with
  |sub0=>omega
  |sub hb hc hm=>
   rename_i cap z;rw[hb]at hB;obtain⟨hw,hn,hcm,cur,hh,hs,hmc,hmx,hrr⟩:=hB;obtain⟨zv,z1,z2,z3⟩:=zeroCs_ok hz w0;have hzw:zv.cells.size=w:=by rw[z2,hzl]
   have hlen:(Builtin.zeroCells zv.cells n).toList.length=n*w:=by rw[zeroCells_len,hzw]
   have hone:∀v∈(Builtin.zeroCells zv.cells n).toList,v.oneCell'=true:=fun v hv=>by
    obtain⟨q,hq,rfl⟩:=List.mem_iff_getElem.1 hv;rw[hlen]at hq;have hmod:q%w<w:=Nat.mod_lt _ hn;have e1:=zeroCells_get zv.cells n q (by rw[hzw];exact hq);rw[gE,List.getElem?_eq_getElem (by rw[hlen];exact hq),Option.getD_some,hzw]at e1;rw[e1]
    have hs1:(zs.getD (q%w) .undef).scalar=true:=by
     have hl:q%w<zs.length:=by omega
     rw[gE,List.getElem?_eq_getElem hl];exact List.all_eq_true.1 hsc _ (List.getElem_mem hl)
    exact((z3 G β (q%w)).scalar hs1).2
   subst hw;have hroom:(r+n)*z.w<=z.cap*z.w:=Nat.mul_le_mul_right _ (by omega);rw[Nat.add_mul]at hroom;have hst:=run_storeCells_at (P:=P) z.b (r*z.w) et (Builtin.zeroCells zv.cells n).toList 0 cur w0 hh (by rw[hlen,hs];omega) hone;refine fin (w0.setRow z.b (cur.toList.take (r*z.w+0)++(Builtin.zeroCells zv.cells n).toList++cur.toList.drop (r*z.w+0+(Builtin.zeroCells zv.cells n).toList.length)).toArray) ?_ (rh.write hi (by simp) hb (fun b hb'=>setRow_other w0 _ _ _ hb') (by simp) ⟨rfl,hn,hcm,_,setRow_heap w0 _ cur _ et _ hh,?_,hmc,hmx,fun q j hq hj=> ?_⟩)
   ·rw[hxv]
    obtain⟨n1,rfl⟩:∃n1,n=n1+1:=⟨n-1,by omega⟩
    simp only[Nat.add_zero]at hst⊢;simp[Builtin.clear_,run_underlying' hu,z1,hst]
   ·simp only[List.size_toArray,List.length_append,List.length_take,List.length_drop,Array.length_toList,hlen,hs,Nat.add_zero];omega
   ·have hlt:q*z.w+j<z.cap*z.w:=by
     have:(q+1)*z.w<=z.cap*z.w:=Nat.mul_le_mul_right _ (by omega);rw[Nat.succ_mul]at this;omega
    have hget:∀l:List Value,(l.toArray).getD (q*z.w+j) Go.undef=l.getD (q*z.w+j) Go.undef:=fun l=>by simp
    rw[hget];simp only[Nat.add_zero];show Rel G [] (if r<=q/\q<r+n then zs.getD j V.undef else c q j) _;by_cases g1:q<r
    ·have hk:q*z.w+j<r*z.w:=by
      have:(q+1)*z.w<=r*z.w:=Nat.mul_le_mul_right _ g1;rw[Nat.succ_mul]at this;omega
     rw[if_neg (by omega),List.append_assoc,gE (a:=Go.undef),aL (by simp only[List.length_take,Array.length_toList,hs];omega),List.getElem?_take,if_pos hk];have:=hrr q j hq hj;simpa[aG]using this
    ·by_cases g2:q<r+n
     ·rw[if_pos ⟨by omega,g2⟩]
      obtain⟨d,rfl⟩:∃d,q=r+d:=⟨q-r,by omega⟩
      have hk:d*z.w+j<n*z.w:=by
       have:(d+1)*z.w<=n*z.w:=Nat.mul_le_mul_right _ (by omega);rw[Nat.succ_mul]at this;omega
      have htl:(cur.toList.take (r*z.w)).length=r*z.w:=by simp only[List.length_take,Array.length_toList,hs];omega
      have e1:=zeroCells_get zv.cells n (d*z.w+j) (by rw[hzw];exact hk);have hmod:(d*z.w+j)%z.w=j:=by rw[Nat.mul_comm,Nat.mul_add_mod];exact Nat.mod_eq_of_lt hj
      rw[hzw,hmod]at e1
      rw[List.append_assoc,gE (a:=Go.undef),List.getElem?_append_right (by rw[htl,Nat.add_mul];omega),htl,aL (by rw[hlen,Nat.add_mul];omega),
       show(r+d)*z.w+j-r*z.w=d*z.w+j by rw[Nat.add_mul];omega,<-List.getD_eq_getElem?_getD,e1]
      exact z3 G [] j
     ·rw[if_neg (by omega)]
      obtain⟨d,rfl⟩:∃d,q=r+n+d:=⟨q-(r+n),by omega⟩
      have htl:(cur.toList.take (r*z.w)++(Builtin.zeroCells zv.cells n).toList).length=(r+n)*z.w:=by simp only[List.length_append,List.length_take,Array.length_toList,hs,hlen,Nat.add_mul];omega
      rw[gE (a:=Go.undef),List.getElem?_append_right (by rw[htl,Nat.add_mul (r+n)];omega),htl,List.getElem?_drop,hlen];have:=hrr (r+n+d) j hq hj;rw[show r*z.w+n*z.w+((r+n+d)*z.w+j-(r+n)*z.w)=(r+n+d)*z.w+j by simp only[Nat.add_mul];omega];simpa[aG]using this
theorem HCalls.frz{P:Program}{f:FuncId}{args:List V}{v:V}{h h':List Blk}{i:Nat}{S':St}(hc:HCalls P f args v h h')(hS:frzS ⟨[v],h',[]⟩ i=some (true,S')):HCalls P f args (S'.t.getD 0 .undef) h S'.h:=
 ⟨hc.1,fun β G K w xs r hl hr=>(hc.2 β G K w xs r hl hr).mono (by
  rintro e w' ⟨x,β',G',K',rfl,h1,h2,h3,h4,h5⟩
  have r1:RS β' G' K' ⟨[v],h',[]⟩ {tmps:= #[x],defers:=[]} w':=⟨h4,rfl,fun j=>by
   cases j with
   |zero=>exact h5
   |succ j=>exact .undef _,rfl,fun j hj=>by simp at hj⟩
  obtain⟨G2,g2,K2,k2,r2⟩:=r1.frz hS
  exact⟨x,β',G2,K2,rfl,h1,h2.trans h3 g2,h3.trans k2,r2.h,r2.tmp 0⟩)⟩
def offB(i:Nat):Blk->Bool
 |.cells cs=>cs.all (V.off i)
 |.iter v _ _=>v.off i
 |.rowsL _ _ _ _ _ _ v=>v.off i
 |.maps _ vs=>vs.all (V.off i)
 |_=>true
theorem killV_off{i:Nat}{v:V}(h:v.off i=true):killV i v=v:=by unfold killV;rw[h];rfl
theorem frzV_off{i w:Nat}{c:Nat->Nat->V}{v:V}(h:v.off i=true):frzV i w c v=v:=by
 unfold frzV;split
 ·rename_i j n;simp only[V.off]at h
  cases hb:j==i with
  |false=>rfl
  |true=>rw[beq_iff_eq]at hb;subst hb;simp at h
 ·rfl
theorem frzOK_off{i m:Nat}{v:V}(h:v.off i=true):frzOK i m v=true:=by
 unfold frzOK;split
 ·rename_i j n;simp only[V.off]at h
  cases hb:j==i with
  |false=>rfl
  |true=>rw[beq_iff_eq]at hb;subst hb;simp at h
 ·rfl
theorem map_off{i:Nat}{f:V->V}(hf:∀v,v.off i=true->f v=v):∀ {vs:List V},vs.all (V.off i)=true->vs.map f=vs
 |[],_=>rfl
 |v::vs,h=>by
  simp only[List.all_cons,Bool.and_eq_true]at h;rw[List.map_cons,hf v h.1,map_off hf h.2]
theorem frzB_off{i w:Nat}{c:Nat->Nat->V}{b:Blk}(h:offB i b=true):killB i (frzB i w c b)=b:=by
 cases b with
 |cells cs=>
  have h1:cs.map (frzV i w c)=cs:=map_off (fun v hv=>frzV_off hv) h;have h2:cs.map (killV i)=cs:=map_off (fun v hv=>killV_off hv) h;simp only[frzB]
  cases cs.any isR with
  |true=>simp only[cond_true,killB,h1,h2]
  |false=>simp only[cond_false,killB,h2]
 |iter v n s=>simp only[frzB,killB,killV_off (show v.off i=true from h)]
 |rowsL e w' n c' r0 j0 v=>simp only[frzB,killB,frzV_off (show v.off i=true from h),killV_off (show v.off i=true from h)]
 |maps ks vs=>simp only[frzB,killB,map_off (fun v hv=>killV_off hv) (show vs.all (V.off i)=true from h)]
 |_=>rfl
theorem okL_off{i m:Nat}{b:Blk}(h:offB i b=true):okL i m b=true:=by
 cases b with
 |cells cs=>
  simp only[okL,List.all_eq_true];intro v hv;exact frzOK_off (List.all_eq_true.1 h v hv)
 |rowsL e w' n c' r0 j0 v=>exact frzOK_off h
 |_=>rfl
theorem HCalls.frzOff{P:Program}{f:FuncId}{args:List V}{h h':List Blk}{q m n wd:Nat}{e:TypeId}{c:Nat->Nat->V}(hc:HCalls P f args (.row q m) h h')(hq:h'[q]? =some (.rows e wd n c))(hm:m<=n)(ho:h'.all (offB q)=true):HCalls P f args (.list wd m c) h (h'.set q .gone):=by
 have hmap:(h'.map fun b=>killB q (frzB q wd c b))=h':=by
  have:∀l:List Blk,l.all (offB q)=true->(l.map fun b=>killB q (frzB q wd c b))=l:=by
   intro l
   induction l with
   |nil=>intro _;rfl
   |cons b l ih=>
    intro hl;simp only[List.all_cons,Bool.and_eq_true]at hl;rw[List.map_cons,frzB_off hl.1,ih hl.2]
  exact this h' ho
 have hob:(bif h'.any isL then([V.row q m]:List V).all (frzOK q n)&&h'.all (okL q n)else([V.row q m]:List V).all (frzOK q n))=true:=by
  have h1:([V.row q m]:List V).all (frzOK q n)=true:=by simp[frzOK,hm]
  have h2:h'.all (okL q n)=true:=by
   rw[List.all_eq_true]at ho⊢;exact fun b hb=>okL_off (ho b hb)
  rw[h1,h2];cases h'.any isL<;>rfl
 have hS:frzS ⟨[.row q m],h',[]⟩ q=some (true,⟨[.list wd m c],h'.set q .gone,[]⟩):=by
  simp only[frzS,hq,frzR];rw[hob,hmap];simp[frzV,killV,V.off]
 exact hc.frz hS
theorem HCalls.res{P:Program}{f:FuncId}{args:List V}{v v':V}{h h':List Blk}(hc:HCalls P f args v h h')(hv:VLe v v'):HCalls P f args v' h h':=
 ⟨hc.1,fun β G K w xs r hl hr=>(hc.2 β G K w xs r hl hr).mono (by
  rintro e w' ⟨x,β',G',K',rfl,h1,h2,h3,h4,h5⟩
  exact⟨x,β',G',K',rfl,h1,h2,h3,h4,hv _ _ _ h5⟩)⟩
theorem HCalls.telR{P:Program}{f:FuncId}{args:List V}{v:V}{h h':List Blk}{q n wd:Nat}{e:TypeId}{c c':Nat->Nat->V}(hc:HCalls P f args v h h')(hq:h'[q]? =some (.rows e wd n c))(hv:∀r j,r<n->j<wd->VLe (c r j) (c' r j)):HCalls P f args v h (h'.set q (.rows e wd n c')):=
 ⟨hc.1,fun β G K w xs r hl hr=>(hc.2 β G K w xs r hl hr).mono (by
  rintro e0 w' ⟨x,β',G',K',rfl,h1,h2,h3,h4,h5⟩
  refine⟨x,β',G',K',rfl,h1,h2,h3,h4.swap hq (by simp) rfl ?_,h5⟩;have hB:=h4.blk q _ hq;revert hB
  cases β'[q]?.getD .void with
  |void=>exact id
  |nil=>exact id
  |ext l=>exact id
  |lie z=>
   rintro⟨q1,q2,q3,ca,q4,q5,q6,q7,q8⟩
   exact⟨q1,q2,q3,ca,q4,q5,q6,q7,fun r j hr hj=>hv r j hr hj _ _ _ (q8 r j hr hj)⟩)⟩
end Ab
