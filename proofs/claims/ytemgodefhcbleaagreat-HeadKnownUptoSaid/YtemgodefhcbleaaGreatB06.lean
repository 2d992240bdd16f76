/-
  Part of the proof of the Head laws. Conditions: those that stand in each theorem.
-/
import Derived.Laws.Strings
import Derived.Test.YtemgodefhcbleaaGreatChecked
import Derived.KernelRfl
import Derived.Laws.CopyRow
import Derived.Test.YtemgodefhcbleaaGreatB05
set_option linter.unusedSimpArgs false
set_option linter.unusedVariables false
set_option maxRecDepth 100000
namespace Go.Proofs.YtemgodefhcbleaaGreat
open Ab Go
theorem bl_irr:∀a:List UInt8,Op.bytesLess a a=false
 |[]=>rfl
 |x::a=>by simp[Op.bytesLess,bl_irr a]
theorem bl_trans:∀a b c:List UInt8,Op.bytesLess a b=true→Op.bytesLess b c=true→Op.bytesLess a c=true
 |_,[],_,h,_=>by cases‹List UInt8›<;>simp[Op.bytesLess]at h
 |_,_::_,[],_,h=>by simp[Op.bytesLess]at h
 |[],_::_,_::_,_,_=>rfl
 |x::a,y::b,z::c,h1,h2=>by
  simp only[Op.bytesLess,Bool.or_eq_true,Bool.and_eq_true,decide_eq_true_eq,beq_iff_eq]at*
  rcases h1 with h1|⟨rfl,h1⟩
  ·rcases h2 with h2|⟨rfl,h2⟩
   ·exact .inl (UInt8.lt_trans h1 h2)
   ·exact .inl h1
  ·rcases h2 with h2|⟨rfl,h2⟩
   ·exact .inl h2
   ·exact .inr ⟨rfl,bl_trans a b c h1 h2⟩
theorem bl_tri:∀a b:List UInt8,Op.bytesLess a b=true∨a=b∨Op.bytesLess b a=true
 |[],[]=>.inr (.inl rfl)
 |[],_::_=>.inl rfl
 |_::_,[]=>.inr (.inr rfl)
 |x::a,y::b=>by
  simp only[Op.bytesLess,Bool.or_eq_true,Bool.and_eq_true,decide_eq_true_eq,beq_iff_eq]
  rcases Nat.lt_trichotomy x.toNat y.toNat with h|h|h
  ·exact .inl (.inl (UInt8.lt_iff_toNat_lt.2 h))
  ·have e:x=y:=UInt8.toNat_inj.1 h
   subst e
   rcases bl_tri a b with q|q|q
   ·exact .inl (.inr ⟨rfl,q⟩)
   ·subst q;exact .inr (.inl rfl)
   ·exact .inr (.inr (.inr ⟨rfl,q⟩))
  ·exact .inr (.inr (.inl (UInt8.lt_iff_toNat_lt.2 h)))
def blt(a b:ByteArray):Bool:=Op.bytesLess a.toList b.toList
theorem ba_inj{a b:ByteArray}(h:a.toList=b.toList):a=b:=by
 rw[ByteArray.toList_eq,ByteArray.toList_eq]at h
 exact ByteArray.ext (Array.toList_inj.1 h)
theorem blt_irr(a:ByteArray):blt a a=false:=bl_irr _
theorem blt_trans{a b c:ByteArray}(h1:blt a b=true)(h2:blt b c=true):blt a c=true:=bl_trans _ _ _ h1 h2
theorem blt_tri(a b:ByteArray):blt a b=true∨a=b∨blt b a=true:=by
 rcases bl_tri a.toList b.toList with h|h|h
 ·exact .inl h
 ·exact .inr (.inl (ba_inj h))
 ·exact .inr (.inr h)
def Up(l:List ByteArray):Prop:=l.Pairwise fun a b=>blt a b=true
def insU(s:ByteArray):List ByteArray→List ByteArray
 |[]=>[s]
 |x::r=>if s=x then x::r else if blt s x=true then s::x::r else x::insU s r
def sortU(l:List ByteArray):List ByteArray:=l.foldr insU []
theorem mem_insU{s t:ByteArray}:∀ {l:List ByteArray},t∈insU s l↔t=s∨t∈l
 |[]=>by simp[insU]
 |x::r=>by
  unfold insU
  split
  ·rename_i h;subst h;simp
  split
  ·simp
  ·rw[List.mem_cons,mem_insU,List.mem_cons]
   constructor
   ·rintro(h|h|h)
    ·exact .inr (.inl h)
    ·exact .inl h
    ·exact .inr (.inr h)
   ·rintro(h|h|h)
    ·exact .inr (.inl h)
    ·exact .inl h
    ·exact .inr (.inr h)
theorem insU_up(s:ByteArray):∀ {l:List ByteArray},Up l→Up (insU s l)
 |[],_=>List.pairwise_singleton _ _
 |x::r,h=>by
  obtain⟨h1,h2⟩:=List.pairwise_cons.1 h
  unfold insU
  split
  ·exact h
  rename_i ne
  split
  ·rename_i lt
   exact List.pairwise_cons.2 ⟨fun y hy=>by
    rcases List.mem_cons.1 hy with q|q
    ·subst q;exact lt
    ·exact blt_trans lt (h1 y q),h⟩
  ·rename_i nlt
   refine List.pairwise_cons.2 ⟨fun y hy=> ?_,insU_up s h2⟩
   rcases mem_insU.1 hy with q|q
   ·subst q
    rcases blt_tri x y with z|z|z
    ·exact z
    ·exact absurd z.symm ne
    ·exact absurd z nlt
   ·exact h1 y q
theorem sortU_up:∀l:List ByteArray,Up (sortU l)
 |[]=>List.Pairwise.nil
 |x::l=>insU_up x (sortU_up l)
theorem mem_sortU{t:ByteArray}:∀ {l:List ByteArray},t∈sortU l↔t∈l
 |[]=>by simp[sortU]
 |x::l=>by
  show t∈insU x (sortU l)↔_
  rw[mem_insU,mem_sortU,List.mem_cons]
theorem insU_len(s:ByteArray):∀l:List ByteArray,(insU s l).length≤l.length+1
 |[]=>by simp[insU]
 |x::r=>by
  unfold insU
  split
  ·simp
  split
  ·simp
  ·simp only[List.length_cons];have:=insU_len s r;omega
theorem sortU_len:∀l:List ByteArray,(sortU l).length≤l.length
 |[]=>Nat.le_refl _
 |x::l=>by
  have h1:=insU_len x (sortU l)
  have h2:=sortU_len l
  show(insU x (sortU l)).length≤_
  simp only[List.length_cons];omega
theorem Up.filter{a:List ByteArray}(h:Up a)(p:ByteArray→Bool):Up (a.filter p):=List.Pairwise.filter p h
def allNames(b:Book):List ByteArray:=b.bodies.flatMap fun x=>x.shown.map (·.as_)
def personsR(b:Book):List ByteArray:=sortU (allNames b)
end Go.Proofs.YtemgodefhcbleaaGreat
namespace Go.Proofs.YtemgodefhcbleaaGreat
open Ab
def tstr:Ty ByteArray:=⟨1,fun s=>[.str s],ByteArray.empty⟩
def tu8:Ty Int:=⟨1,fun n=>[.int .u8 n],0⟩
def tu16:Ty Int:=⟨1,fun n=>[.int .u16 n],0⟩
def tlist{τ:Type}(E:Ty τ):Ty (List τ):=⟨1,fun l=>[E.lst l],[]⟩
def tSpan:Ty Span:=⟨2,fun x=>[.int .i64 x.lo,.int .i64 x.hi],zSpan⟩
def tShown:Ty Shown:=⟨2,fun x=>[.int .i64 x.day,.str x.as_],zShown⟩
def tBody:Ty Body:=⟨2,fun x=>[.str x.name,tShown.lst x.shown],zBody⟩
def tLine:Ty Line:=⟨7,fun x=>[.int .i64 x.day,.int .i64 x.kind,.int .i64 x.a,.int .i64 x.b,.int .i64 x.c,.int .i64 x.d,.int .i64 x.set],zLine⟩
def tBook:Ty Book:=⟨3,fun x=>[tBody.lst x.bodies,tstr.lst x.heads,tLine.lst x.lines],⟨[],[],[]⟩⟩
def tPair:Ty Pair:=⟨2,fun x=>[.int .i64 x.a,.int .i64 x.b],zPair⟩
@[simp] theorem z1:tint.zero=0:=rfl
@[simp] theorem z2:tBody.zero=zBody:=rfl
@[simp] theorem z3:tShown.zero=zShown:=rfl
@[simp] theorem z4:tSpan.zero=zSpan:=rfl
@[simp] theorem z5:tLine.zero=zLine:=rfl
theorem z6{τ:Type}{E:Ty τ}:(tlist E).zero=[]:=rfl
theorem z8:tPair.zero=zPair:=rfl
theorem z12:tstr.zero=ByteArray.empty:=rfl
theorem mx:Tryz.prog.follows .mixedOrders=true:=by kernel_rfl
theorem flatMap_get{τ:Type}(E:Ty τ)(hw:∀x,(E.cells x).length=E.w):∀(xs:List τ) (i j:Nat),i<xs.length→j<E.w→(xs.flatMap E.cells).getD (i*E.w+j) .undef=(E.cells (xs.getD i E.zero)).getD j .undef
 |[],i,j,hi,hj=>by simp at hi
 |x::xs,0,j,hi,hj=>by
  simp only[List.flatMap_cons,Nat.zero_mul,Nat.zero_add]
  rw[getD_append_left (by rw[hw];exact hj)];rfl
 |x::xs,i+1,j,hi,hj=>by
  simp only[List.flatMap_cons]
  rw[getD_append_right (by rw[hw,Nat.succ_mul];omega),hw,show(i+1)*E.w+j-E.w=i*E.w+j by rw[Nat.succ_mul];omega]
  rw[flatMap_get E hw xs i j (by simpa using hi) hj];rfl
theorem VLe.lit{τ:Type}(E:Ty τ)(xs:List τ){w n:Nat}{cs:List V}(hn:n=xs.length)(hc:xs.flatMap E.cells=cs)(hw:∀x,(E.cells x).length=E.w)(hww:w=E.w:=by rfl):VLe (.list w n (litC w n cs)) (E.lst xs):=by
 subst hww;subst hn;subst hc
 exact VLe.list fun i j hi hj=>by rw[litC_eq hi,flatMap_get E hw xs i j hi hj];rfl
def rowsFn{τ:Type}(E:Ty τ)(f:Nat→τ):Nat→Nat→V:=fun i j=>(E.cells (f i)).getD j .undef
def upd{τ:Type}(f:Nat→τ)(i:Nat)(x:τ):Nat→τ:=fun j=>if j=i then x else f j
theorem tel_upd{τ:Type}(E:Ty τ)(f:Nat→τ)(i:Nat)(x:τ){n w:Nat}(vs:List V)(hv:vs=E.cells x)(hw:(E.cells x).length=w):∀r j,r<n→j<w→
  VLe ((fun r' j=>if r'=i∧0≤j∧j<0+vs.length then vs.getD (j-0) .undef else rowsFn E f r' j) r j) (rowsFn E (upd f i x) r j):=fun r j _ hj=>by
 subst hv
 by_cases h:r=i
 ·subst h
  simp only[Nat.zero_le,Nat.zero_add,true_and,hw,hj,if_true,Nat.sub_zero,rowsFn,upd]
  exact VLe.refl _
 ·simp only[h,false_and,if_false,rowsFn,upd]
  exact VLe.refl _
theorem tel_set{τ:Type}(E:Ty τ)(l:List τ)(i:Nat)(x:τ){n w:Nat}(vs:List V)(hv:vs=E.cells x)(hw:(E.cells x).length=w)(hn:n=l.length):∀r j,r<n→j<w→
  VLe ((fun r' j=>if r'=i∧0≤j∧j<0+vs.length then vs.getD (j-0) .undef else rowsOf E l r' j) r j) (rowsOf E (l.set i x) r j):=fun r j hr hj=>by
 subst hv;subst hn
 by_cases h:r=i
 ·subst h
  simp only[Nat.zero_le,Nat.zero_add,true_and,hw,hj,if_true,Nat.sub_zero,rowsOf,List.getD_eq_getElem?_getD,List.getElem?_set_self hr,Option.getD_some]
  exact VLe.refl _
 ·simp only[h,false_and,if_false,rowsOf,List.getD_eq_getElem?_getD,List.getElem?_set_ne (Ne.symm h)]
  exact VLe.refl _
def regOf(id:Nat):Code→Option (Array Oper)
 |.region j ops _=>if j=id then some ops else none
 |.seq a b=>match regOf id a with|some o=>some o|none=>regOf id b
 |.cond _ a b=>match regOf id a with|some o=>some o|none=>regOf id b
 |.block _ a=>regOf id a
 |.scope a=>regOf id a
 |.loop a=>regOf id a
 |.rangeFunc _ _ a b=>match regOf id a with|some o=>some o|none=>regOf id b
 |_=>none
def opAt(fn:Func)(id i:Nat):Op:=match regOf id (fn.body.getD .skip)with|some ops=>(match ops[i]? with|some o=>o.op|none=>.move (.tmp 0))|none=>.move (.tmp 0)
def rngOf:Code→Option Code
 |.seq a b=>match rngOf a with|some o=>some o|none=>rngOf b
 |.cond _ a b=>match rngOf a with|some o=>some o|none=>rngOf b
 |.block _ a=>rngOf a
 |.scope a=>rngOf a
 |.loop a=>rngOf a
 |.rangeFunc g ps a b=>some (.rangeFunc g ps a b)
 |_=>none
def rangeOf(fn:Func):Code:=(rngOf (fn.body.getD .skip)).getD .skip
def regionOf(fn:Func)(id:Nat):Code:=.region id ((regOf id (fn.body.getD .skip)).getD #[]) true
theorem bodyQ_mono{P:Program}{fn:Func}{post post':V→Prop}{e:Exit}{S:St}(h:bodyQ P fn post e S)(hp:∀v,post v→post' v):bodyQ P fn post' e S:=by
 obtain⟨h1,h2,v,u,h3,h4,h5⟩:=h
 exact⟨h1,h2,v,u,h3,h4,hp u h5⟩
theorem PCalls.enters{P:Program}{f:FuncId}{fn:Func}{c:Code}(hf:P.funcs[f]? =some fn)(hb:fn.body=some c)(hn:(fn.name== "runtime.NumGoroutine")=false):∀xs w,(callFunc f xs).run P w=.ok (.enter f xs) w:=by
 have hn':¬fn.name= "runtime.NumGoroutine" :=by simpa using hn
 intro xs w;simp[callFunc,hf,hn',hb]
inductive Has:V→Nat→Prop where
 |list {w n c}:Has (.list w n c) n
 |agg {vs n} (j:Nat) (h:Has (vs.getD j .undef) n) (hj:j<vs.length):Has (.agg vs) n
 |row {w n c m} (i j:Nat) (hi:i<n) (hj:j<w) (h:Has (c i j) m):Has (.list w n c) m
 |cref {n c m} (j:Nat) (hj:j<n) (h:Has (c j) m):Has (.cref n c) m
theorem Has.le{v:V}{n:Nat}(h:Has v n):∀ {G:Kept} {β:Homes} {x:Value},Rel G β v x→n≤maxn:=by
 induction h with
 |list=>intro G β x hx;cases hx with|list0=>exact Nat.zero_le _|list _ _ _ hn _=>exact hn
 |agg j _ hj ih=>intro G β x hx;cases hx with|agg hs hr=>exact ih (hr j hj)
 |row i j hi hj _ ih=>intro G β x hx;cases hx with|list0=>omega|list _ _ _ _ hc=>exact ih (hc i j hi hj)
 |cref j hj _ ih=>intro G β x hx;cases hx with|cref _ _ hc=>exact ih (hc j hj)
theorem PCalls.assume{P:Program}{f:FuncId}{args:List V}{post:V→Prop}(hc:∀xs w,(callFunc f xs).run P w=.ok (.enter f xs) w){n:Nat}(j:Nat)(hj:j<args.length)(hh:Has (args.getD j .undef) n)(h:n≤maxn→PCalls P f args post):PCalls P f args post:=
 ⟨hc,fun G w xs hk hl hr=>(h (hh.le (hr j hj))).2 G w xs hk hl hr⟩
theorem mem_getD{τ:Type}{l:List τ}{x:τ}(d:τ)(h:x∈l):∃i,i<l.length∧l.getD i d=x:=by
 obtain⟨i,hi,e⟩:=List.getElem_of_mem h
 exact⟨i,hi,by simp[List.getD_eq_getElem?_getD,hi,e]⟩
theorem inR64{n:Int}(h1: -9223372036854775808≤n)(h2:n≤9223372036854775807):inR .i64 n=true:=by
 have a:IntKind.min .i64= -9223372036854775808:=by rfl
 have b:IntKind.max .i64=9223372036854775807:=by rfl
 simp only[inR,a,b,Bool.and_eq_true,decide_eq_true_eq];exact⟨h1,h2⟩
theorem inRi{i n:Nat}(hi:i<n)(hn:n≤maxn):inR .i64 ((i:Int)+1)=true:=by
 have:n≤281474976710656:=hn
 exact inR64 (by omega) (by omega)
theorem SS:(∀ {α:Type} {p:α→Prop} {a:α} {l:List α},(∀x,x∈a::l→p x)↔p a∧∀x,x∈l→p x)∧(∀ {α:Type} {a:α},¬a∈([]:List α))∧(∀a:Prop,(False→a)↔True)∧(∀ {α:Prop},(True→α)↔α)∧
  (∀α:Prop,(α→True)=True)∧(∀α:Type,(α→True)=True)∧(∀p:Prop,(p∧True)=p)∧(∀p:Prop,(True∧p)=p)∧(∀ {p:Prop} [Decidable p],(decide p=true)=p)∧(∀ {p:Prop} {_x:Decidable p},decide p=false↔¬p)∧
  (∀ {a b:Bool},(!a)=b↔a= !b)∧(!true)=false∧(!false)=true∧(∀ {α:Type} [BEq α] [LawfulBEq α] {a b:α},(a==b)=true↔a=b)∧(∀ {α:Type} [BEq α] [LawfulBEq α] {a b:α},(a==b)=false↔a≠b)∧
  (∀ {α:Type} [BEq α] [LawfulBEq α] {a b:α},(a !=b)=true↔a≠b)∧(∀ {α:Type} [BEq α] [LawfulBEq α] {a b:α},(a !=b)=false↔a=b)∧(∀a b:Bool,((a&&b)=true)=(a=true∧b=true))∧(true=false)=False∧(false=true)=False∧
  (∀a:Int,¬a<a)∧(∀ {n m:Nat},(n:Int)<m↔n<m)∧(¬False)=True∧(¬True)=False∧(∀n:Nat,(n:Int).toNat=n)∧(∀n:Nat,(0:Int)≤n)∧(∀ {α:Type} (a b:α),(a≠b)=¬a=b)∧(∀ {α:Prop} (a b:α),(a≠b)=¬a=b)∧
  (∀ {α:Type} [LT α] {x y:α},x>y↔y<x)∧(∀ {α:Type} [LE α] {x y:α},x≥y↔y≤x)∧(∀ {n:Nat},(n:Int)=0↔n=0):=
 ⟨List.forall_mem_cons,List.not_mem_nil,false_imp_iff,true_imp_iff,implies_true,implies_true,and_true,true_and,decide_eq_true_eq,decide_eq_false_iff_not,Bool.not_eq_eq_eq_not,Bool.not_true,Bool.not_false,beq_iff_eq,beq_eq_false_iff_ne,bne_iff_ne,bne_eq_false_iff_eq,Bool.and_eq_true,Bool.true_eq_false,Bool.false_eq_true,Int.lt_irrefl,Int.ofNat_lt,not_false_eq_true,not_true_eq_false,Int.toNat_natCast,Int.natCast_nonneg,ne_eq,ne_eq,gt_iff_lt,ge_iff_le,Int.natCast_eq_zero⟩
abbrev fF(n:Go.FuncId):V:=.func (.func n) [] []
abbrev iI(n:Int):V:=.int .i64 n
abbrev uU:V:=.undef
abbrev rR(v:V):V:=.cref 1 fun q=>([v]:List V).getD q .undef
abbrev fG(n:Go.FuncId)(cs:List V):V:=.func (.func n) [] cs
abbrev Sm{α ρ:Type}(m:Nat)(g:α→List Item × St)(T:α→Tr α ρ)(n:ρ→Go.Exit × St):Prop:=∀a,∃k,runG Tryz.prog m k (startOf (g a).1) (g a).2 ((T a).toD g n)=some ((T a).toD g n)
theorem PCalls.wq{α ρ:Type}{f:Go.FuncId}{fn:Go.Func}{c:Go.Code}{args:List V}{post:V→Prop}{T:α→Tr α ρ}{g:α→List Item × St}{n:ρ→Go.Exit × St}{v:ρ→V}{e:α}(hf:Tryz.prog.funcs[f]? =some fn)(s:Sm 0 g T n)
  (q:∀r,bodyQ Tryz.prog fn (·=v r) (n r).1 (n r).2) (h:WP Tryz.prog ⟨none,0⟩ T (Ends' fun r=>post (v r)) e) (he:g e=([.code c],{t:=args++List.replicate (fn.ntmps-args.length) .undef,h:=[],d:=[]}):=by rfl)
  (hb:fn.body=some c:=by kernel_rfl) (hn:(fn.name== "runtime.NumGoroutine")=false:=by kernel_rfl):PCalls Tryz.prog f args post:=
 PCalls.wp mx hf hb hn T g n e he s h fun r hr=>bodyQ_mono (q r) fun u hu=>by subst hu;exact hr
theorem bq{P:Go.Program}{fn:Go.Func}{e:Go.Exit}{S:St}(v:V)(hr:resultV P fn {S with h:=shut S.d S.h}=some v)(hd:S.d=[]:=by rfl)(he:e=Go.Exit.ret:=by rfl)(hi:v.imm=true:=by rfl):bodyQ P fn (·=v) e S:=
 ⟨.inr he,by rw[hd];exact List.nodup_nil,v,v,hr,.imm hi,rfl⟩
abbrev PC(f:Go.FuncId)(args:List V)(post:V→Prop):Prop:=PCalls Tryz.prog f args post
abbrev WQ{α ρ:Type}(T:α→Tr α ρ)(v:ρ→V)(post:V→Prop)(e:α):Prop:=WP Tryz.prog ⟨none,0⟩ T (Ends' fun r=>post (v r)) e
abbrev bd(f:Go.Func)(a:List V)(n:Nat):List Item × St:=([.code (f.body.getD .skip)],⟨a++List.replicate n .undef,[],[]⟩)
abbrev cC(x:Book):List V:=[tBody.lst x.bodies,tstr.lst x.heads,tLine.lst x.lines]
end Go.Proofs.YtemgodefhcbleaaGreat
namespace Ab
open Go
theorem AWP.region_anyC{P:Program}{ro:Env}{id:Nat}{ops:Array Oper}{S:St}{Q:Exit→St→Prop}(m:Nat)(hmx:P.follows .mixedOrders=true)(hback:backOK ops=true)(hm:m≤ops.size)
  (ht:∀j,m≤j→j<ops.size→tailAt ops j=true) (inv:Array Bool→St) (h0:∀β G K a w,RS β G K S a w→∃β',β.le β'∧RS β' G K (inv (Array.replicate ops.size false)) a w)
  (step:∀(l:Array Bool) (i:Nat),l.size=ops.size→i<m→l.getD i false=false→(∀j,m≤j→l.getD j false=false)→Closed ops l→i∈Region.ready .any ops l→AStep P ro ops i (inv l) (inv (l.setIfInBounds i true)))
  (last:∀(l:Array Bool),l.size=ops.size→(∀i,i<m→l.getD i false=true)→(∀j,m≤j→l.getD j false=false)→AOps P ro ops (List.range' m (ops.size-m)) (inv l) Q):AWP P ro (.region id ops true) S Q:=fun β G K a w r=>by
 refine wpIn_region_any hmx ?_
 have key:∀(fuel:Nat) (l:Array Bool) β G K a w,l.size=ops.size→unl l m+(ops.size-m)≤fuel→(∀j,m≤j→l.getD j false=false)→Closed ops l→RS β G K (inv l) a w→wpAnyIn (wide ro) 0 P .any ops (Post ro.m Q β G K) fuel l a w:=by
  intro fuel
  induction fuel with
  |zero=>
   intro l β G K a w hl hf hj hcl r
   have h1:=unl_zero l m (by omega)
   exact tail_any hback ht (ops.size-m) m 0 l a w (by omega) (Nat.le_refl _) (by omega) hl h1 (fun i hi _=>hj i hi) (last l hl h1 hj β G K a w r)
  |succ fuel ih=>
   intro l β G K a w hl hf hj hcl r
   by_cases hz:unl l m=0
   ·have h1:=unl_zero l m hz
    exact tail_any hback ht (ops.size-m) m (fuel+1) l a w (by omega) (Nat.le_refl _) (by omega) hl h1 (fun i hi _=>hj i hi) (last l hl h1 hj β G K a w r)
   ·
    have ex:∃q,q<m∧l.getD q false=false∧∀i,i<q→l.getD i false=true:=by
     clear ih hf r step last
     have:∀k,unl l k≠0→∃q,q<k∧l.getD q false=false∧∀i,i<q→l.getD i false=true:=by
      intro k
      induction k with
      |zero=>intro h;simp[unl]at h
      |succ k ihk=>
       intro h
       by_cases hk:unl l k=0
       ·refine⟨k,by omega,?_,unl_zero l k hk⟩
        cases hc:l.getD k false with
        |false=>rfl
        |true=>simp[unl,hk,hc]at h
       ·obtain⟨q,q1,q2,q3⟩:=ihk hk
        exact⟨q,by omega,q2,q3⟩
     exact this m hz
    obtain⟨q,q1,q2,q3⟩:=ex
    refine⟨fun hnil=> ?_,fun i hi=> ?_⟩
    ·have:=least_ready hback hl (q:=q) (by omega) q3 q2
     rw[hnil]at this;cases this
    ·have hi':=hi
     rw[mem_ready]at hi'
     obtain⟨e0,o,ho,_⟩:=hi'
     have hlt:=(Array.getElem?_eq_some_iff.1 ho).1
     have e:l.getD i true=l.getD i false:=by simp[Array.getD_eq_getD_getElem?,show i<l.size by omega]
     rw[e]at e0
     have him:i<m:=by
      rcases Nat.lt_or_ge i m with z|z
      ·exact z
      ·have:=tailAt_ready hcl (ht i z hlt) hi q (by omega)
       rw[q2]at this;cases this
     refine step l i hl him e0 hj hcl hi β G K a w _ _ r fun β' G' K' a' w' hL hG hK r'=> ?_
     have hu:=unl_set l i (by omega) e0 m
     rw[if_pos him]at hu
     have hpos:=unl_pos l i e0 m him
     have:=ih (l.setIfInBounds i true) β' G' K' a' w' (by simp[hl]) (by omega) (fun j hj'=>by rw[getD_set_ne false (by omega)];exact hj j hj') (hcl.set hi) r'
     exact any_mono (fun e a w hp=>hp.up hL hG hK) this
 obtain⟨β',hle,r'⟩:=h0 β G K a w r
 refine any_mono (fun e a w hp=>hp.up (hle.low _) (G.ext_refl K) K.le_refl) (key ops.size _ β' G K a _ (by simp) ?_ (fun j _=> ?_) (fun j hj=> ?_) r'.drew)
 ·have:∀k,unl (Array.replicate ops.size false) k≤k:=by
   intro k
   induction k with
   |zero=>simp[unl]
   |succ k ih=>simp only[unl];split<;>omega
  have:=this m
  omega
 ·simp only[Array.getD_eq_getD_getElem?,Array.getElem?_replicate];split<;>rfl
 ·exfalso
  have:(Array.replicate ops.size false).getD j false=false:=by simp only[Array.getD_eq_getD_getElem?,Array.getElem?_replicate];split<;>rfl
  rw[this]at hj;cases hj
theorem RS.reserve{β:Homes}{G K:Kept}{S:St}{a:Act}{w:World}(r:RS β G K S a w)(n:Nat):RS (β++List.replicate n Hm.void) G K {S with h:=S.h++List.replicate n .void} a w:=by
 refine⟨r.h.reserve _,r.size,fun j=>(r.tmp j).mono G.le_refl (Homes.le_append _ _),r.marks,fun j hj=> ?_⟩
 obtain⟨y,y1,y2,y3⟩:=r.mark j hj
 refine⟨y,Homes.le_append _ _ _ _ (by simp) y1,y2,?_⟩
 show(S.h++_)[S.d.getD j 0]? =_
 rw[List.getElem?_append_left (List.getElem?_eq_some_iff.1 y3).1];exact y3
theorem killV_bif(K:Nat)(c:Bool)(v u:V):killV K (bif c then v else u)=bif c then killV K v else killV K u:=by cases c<;>rfl
theorem killB_bif(K:Nat)(c:Bool)(v u:Blk):killB K (bif c then v else u)=bif c then killB K v else killB K u:=by cases c<;>rfl
section
variable {P:Program} {ro:Env} {ops:Array Oper} {S:St} {i:Nat} {o:Oper}
theorem AStep.lit(hi:ops[i]? =some o)(hw:wantedV ops S o=some true){t e:TypeId}{len:Nat}{parts:Array (Nat × Operand)}{zs cs:List V}
  (hop:o.op=.buildSlice t len parts) (hu:P.underlying t=some (.slice e)) (hz:zeroCs P e=some zs)
  (hc:decide (hasT P e=true∧0<szOf P e∧len*szOf P e≤16777216∧zs.length=szOf P e)=true)
  (hb:fillV P (fun i=>some (i*szOf P e,e)) ((List.range (len*szOf P e)).map fun q=>zs.getD (q%szOf P e) .undef) (mapV parts S.eval)=some cs) (himm:underL 0 cs=true):
  AStep P ro ops i S (S.put o.dst (if len=0 then .nils else .list (szOf P e) len (litC (szOf P e) len cs))):=by
 obtain⟨hT,h1,h2,hzl⟩:=of_decide_eq_true hc
 refine AStep.of_val hi hw (fun c hcc=>by rw[hop]at hcc;cases hcc) fun β G K a w q=> ?_
 obtain⟨ra,f1,f2,f3⟩:=buildSlice_run (G:=G) q.eval hu hT h1 h2 hz hzl hb himm o hop
 have hle:G.le ⟨fun b=>if b=w.heap.size then some (.cells ra e)else G b,G.amb⟩:=⟨fun b ob hob=>by
  by_cases hbs:b=w.heap.size
  ·have:=q.h.keep _ _ (q.h.gk _ _ hob)
   subst hbs
   have:=(Array.getElem?_eq_some_iff.1 this).1;omega
  ·simpa[hbs]using hob,rfl⟩
 obtain⟨K',k1,k2,k3⟩:=q.h.kept (G':=⟨fun b=>if b=w.heap.size then some (.cells ra e)else G b,G.amb⟩) (w':=w.alloc (.cells ra e)) hle
  ⟨fun b ob hob=>by
   by_cases hbs:b=w.heap.size
   ·simp only[hbs,if_true]at hob;rw[hbs,heap_alloc_new,hob]
   ·simp only[hbs,if_false]at hob
    have hk:=q.h.keep _ _ (q.h.gk _ _ hob)
    rw[heap_alloc_lt _ _ (Array.getElem?_eq_some_iff.1 hk).1];exact hk,q.h.gamb.mild (Mild.alloc w _)⟩
  (fun b ob hob=>by
   by_cases hbs:b=w.heap.size
   ·right;omega
   ·simp only[hbs,if_false]at hob
    exact .inl hob)
  (fun b hb=>heap_alloc_lt _ _ hb) (by simp) (Mild.alloc w _)
 refine⟨_,_,β,_,K',f1,Homes.low_refl _ _,k2,k1,⟨k3,q.size,fun j=>(q.tmp j).mono hle (Homes.le_refl _),q.marks,q.mark⟩,?_⟩
 by_cases h0:len=0
 ·simp only[h0,if_true];exact .nils
 ·simp only[h0,if_false]
  have hlm:len≤16777216:=Nat.le_trans (Nat.le_mul_of_pos_right len h1) h2
  refine .list (cs:=ra) (e:=e) (fz:=(0,0)) (by simp) (by omega) (Nat.le_refl _) (by unfold maxn;omega) fun p j hp _=> ?_
  rw[Nat.zero_add,litC_eq hp]
  exact(f3 _).mono hle (Homes.le_refl _)
end
theorem AOps.tree{P:Program}{ro:Env}{ops:Array Oper}{is:List Nat}{S S':St}{g:DT}(h:runOpsG P ro.m ops (fun T d=>match d with|.done _ _=>some (.done .normal T)|_=>none) is none S g=some g)
  (hg:g.holds P ro (fun e T=>e=.normal∧T=S') (fun _ _=>False)):AOps P ro ops is S (fun e T=>e=.normal∧T=S'):=
 runOpsG_ok (L:=fun _ _=>False) (Q:=fun e T=>e=.normal∧T=S') (fun T d hd hh=>by
  split at hd
  ·cases hd;exact hh
  ·cases hd) is none S g h hg
end Ab
namespace Ab
open Go
section
variable {P:Program} {ro:Env} {ops:Array Oper} {S:St} {i:Nat} {o:Oper}
theorem AStep.to{S1 S2:St}(h:AStep P ro ops i S S1)(e:S1=S2):AStep P ro ops i S S2:=e▸h
theorem AStep.read{b:Bool}{v:V}(hi:ops[i]? =some o)(hw:wantedV ops S o=some true)(hf:∀d,o.op≠ .defer d)(he:evalOp P S.eval S.h o.op=some (b,v,S.h))(hb:b=true):AStep P ro ops i S (S.put o.dst v):=by
 subst hb
 exact AStep.of_ops (AOps.step hi hw he (fun _ _=>rfl) (AOps.nil ⟨rfl,rfl⟩))
theorem AStep.app{t:TypeId}{s x:Operand}{ob:Bool}{p:Nat→Bool}{v:V}{S1:St}(hi:ops[i]? =some o)(hw:wantedV ops S o=some true)
  (ho:o.op=.call {callee:=.builtin .append,args:= #[s,x],argTypes:= #[t,t]}) (he:appendV P ro.m S t (S.eval s) (S.eval x)=some (ob,p,v,S1)) (hob:ob=true) (hp:∀r,p r=true):AStep P ro ops i S (S1.put o.dst v):=
 AStep.of_ops (AOps.append hi hw ho he hob hp (AOps.nil ⟨rfl,rfl⟩))
theorem AStep.tree{S':St}{g:DT}(h:runOpsG P ro.m ops (fun T d=>match d with|.done _ _=>some (.done .normal T)|_=>none) [i] none S g=some g)
  (hg:g.holds P ro (fun e T=>e=.normal∧T=S') (fun _ _=>False)):AStep P ro ops i S S':=AStep.of_ops (AOps.tree h hg)
end
end Ab
namespace Ab
open Go
theorem reach_ready{ops:Array Oper}{l:Array Bool}{i j:Nat}(h:reach ops 12 i j=true)(hc:Closed ops l)(hr:j∈Region.ready .any ops l):l.getD i false=true:=by
 rw[mem_ready]at hr
 obtain⟨_,o,ho,hall⟩:=hr
 refine reach_done hc 12 i j h fun o' ho' e he hb=> ?_
 rw[ho]at ho';cases ho'
 exact hall e he hb
theorem reach_not{ops:Array Oper}{l:Array Bool}{i j:Nat}(h:reach ops 12 i j=true)(hc:Closed ops l)(hi:l.getD i false=false):l.getD j false=false:=by
 cases hj:l.getD j false with
 |false=>rfl
 |true=>exact absurd (reach_done hc 12 i j h (hc j hj)) (by rw[hi];exact Bool.false_ne_true)
theorem gset7{l:Array Bool}{i:Nat}(h:i<l.size)(q:Nat):(l.setIfInBounds i true).getD q false=if i=q then true else l.getD q false:=by
 by_cases e:i=q
 ·subst e;simp[h]
 ·rw[if_neg e,getD_set_ne false e]
theorem RH.take{β:Homes}{G K:Kept}{h:List Blk}{w:World}(r:RH β G K h w){n:Nat}(hu:(h.take n).all (Blk.under n)=true):RH (β.take n) G K (h.take n) w:=by
 have get:∀ {i:Nat} {k:Blk},(h.take n)[i]? =some k→i<n∧h[i]? =some k:=fun {i k} hi=>by
  rw[List.getElem?_take]at hi
  split at hi
  ·rename_i hn;exact⟨hn,hi⟩
  ·cases hi
 have getb:∀ {i:Nat},i<n→(β.take n)[i]? =β[i]? :=fun hi=>List.getElem?_take_of_lt hi
 refine⟨by simp[r.len],fun i k hk=> ?_,fun i j x y k k' hi hj g g' hbi hbj e=> ?_,fun i x k hi g hb=> ?_,r.keep,r.gk,r.amb,fun i X tr hi=> ?_⟩
 ·obtain⟨h1,h2⟩:=get hk
  rw[getb h1]
  exact(r.blk i k h2).take (List.all_eq_true.1 hu k (List.mem_of_getElem? hk))
 ·obtain⟨h1,h2⟩:=get hi
  obtain⟨h3,h4⟩:=get hj
  rw[getb h1]at hbi;rw[getb h3]at hbj
  exact r.inj i j x y k k' h2 h4 g g' hbi hbj e
 ·obtain⟨h1,h2⟩:=get hi
  rw[getb h1]at hb
  exact r.sep i x k h2 g hb
 ·obtain⟨h1,h2⟩:=get hi
  obtain⟨l,E,q1,q2,q3,q4⟩:=r.ext i X tr h2
  refine⟨l,E,by rw[getb h1];exact q1,q2,q3,fun b hb=>⟨(q4 b hb).1,fun j x k hj g hbj=> ?_⟩⟩
  obtain⟨h5,h6⟩:=get hj
  rw[getb h5]at hbj
  exact(q4 b hb).2 j x k h6 g hbj
def V.at(i:Nat):V→V
 |.ref 0 r off=>.ref i r off
 |v=>v
theorem Rel.low{G:Kept}{β γ:Homes}{v:V}{x:Value}(h:Rel G β v x)(hu:v.under 0=true):Rel G γ v x:=by
 have:=h.take (m:=0) hu
 rw[List.take_zero]at this
 exact this.up γ
theorem HCalls.at{P:Program}{f:FuncId}{args:List V}{v:V}{cs cs':List V}(hc:HCalls P f args v [.cells cs] [.cells cs'])(ha:∀j,(∃r off,args.getD j .undef=.ref 0 r off)∨(args.getD j .undef).under 0=true)(hv:v.under 0=true)(hk:underL 0 cs=true)(hk':underL 0 cs'=true)
  {h:List Blk} {i:Nat} (hi:h[i]? =some (.cells cs)):HCalls P f (args.map (V.at i)) v h (h.set i (.cells cs')):=
 ⟨hc.1,fun β G K w xs r hl hr=>by
  have hB:=r.blk i _ hi
  obtain⟨x,hx⟩:∃x,β[i]? =some (.lie x):=by
   cases hb:β[i]? with
   |none=>rw[hb]at hB;exact hB.elim
   |some m=>
    rw[hb]at hB
    cases m with
    |lie x=>exact⟨x,rfl⟩
    |void=>exact hB.elim
    |nil=>exact hB.elim
    |ext l=>exact hB.elim
  rw[hx]at hB
  obtain⟨hKx,hlt⟩:=r.sep i x _ hi (by simp) hx
  obtain⟨K0,hK0⟩:∃K0:Kept,K0=⟨fun b=>if b=x.b then none else w.heap[b]?,K.amb⟩:=⟨_,rfl⟩
  have k0x:K0 x.b=none:=by rw[hK0];simp
  have k0o:∀b,b≠x.b→K0 b=w.heap[b]? :=fun b hb=>by rw[hK0];simp[hb]
  have hGK0:G.le K0:=⟨fun b o hb=>by
   have h1:=r.gk b o hb
   have h2:b≠x.b:=fun e=>by rw[e,hKx]at h1;cases h1
   rw[k0o b h2];exact r.keep b o h1,r.gk.same.trans (by rw[hK0])⟩
  have r0:RH [.lie x] G K0 [.cells cs] w:=by
   refine⟨rfl,fun j k hj=> ?_,fun j l y z k k' hj hl _ _ _ _ _=> ?_,fun j y k hj _ hb=> ?_,fun b o hb=> ?_,hGK0,by rw[hK0];exact r.amb,fun j X tr hj=> ?_⟩
   ·match j,hj with
    |0,hj=>
     cases hj
     obtain⟨c,e,h1,h2,h3⟩:=hB
     exact⟨c,e,h1,h2,fun q hq=>(h3 q hq).low (underL_getD hk q)⟩
    |j+1,hj=>simp at hj
   ·match j,l,hj,hl with
    |0,0,_,_=>rfl
    |j+1,_,hj,_=>simp at hj
    |0,l+1,_,hl=>simp at hl
   ·match j,hj,hb with
    |0,_,hb=>cases hb;exact⟨k0x,hlt⟩
    |j+1,hj,_=>simp at hj
   ·by_cases e:b=x.b
    ·rw[e,k0x]at hb;cases hb
    ·rw[k0o b e]at hb;exact hb
   ·match j,hj with
    |0,hj=>cases hj
    |j+1,hj=>simp at hj
  refine(hc.tight rfl rfl [.lie x] G K0 w xs r0 (by simpa using hl) fun j hj=> ?_).mono ?_
  ·have h1:=hr j (by simpa using hj)
   have e1:(args.map (V.at i)).getD j .undef=V.at i (args.getD j .undef):=by
    simp only[List.getD_eq_getElem?_getD,List.getElem?_map]
    cases args[j]? <;>rfl
   rw[e1]at h1
   rcases ha j with⟨q,off,e⟩|hu
   ·rw[e]at h1⊢
    change Rel G β (.ref i q off) _ at h1
    generalize xs.getD j Go.undef=y at h1
    cases h1 with
    |ref hb=>rw[hx]at hb;cases hb;exact .ref rfl
   ·have e2:V.at i (args.getD j .undef)=args.getD j .undef:=by
     generalize args.getD j .undef=u at hu
     unfold V.at
     split
     ·simp[V.under]at hu
     ·rfl
    rw[e2]at h1
    exact h1.low hu
  rintro e w' ⟨⟨y,γ,G',K',rfl,hγ,hG,hK,r',hy⟩,hmild⟩
  have hg0:γ=[.lie x]:=by
   have h1:=hγ 0 (.lie x) (by simp) rfl
   have h2:γ.length=1:=r'.len
   match γ,h1,h2 with
   |[z],h1,_=>cases h1;rfl
  subst hg0
  have hold:∀b,b<w.heap.size→b≠x.b→w'.heap[b]? =w.heap[b]? :=fun b hb hne=>by
   have e1:w.heap[b]? =some w.heap[b]:=Array.getElem?_eq_getElem hb
   rw[e1];exact r'.keep b _ (hK b _ (by rw[k0o b hne];exact e1))
  have hx':=r'.sep 0 x _ rfl (by simp) rfl
  have hsz:w.heap.size≤w'.heap.size:=by
   rcases Nat.lt_or_ge w'.heap.size w.heap.size with q|q
   ·by_cases e:w'.heap.size=x.b
    ·have:=hx'.2;omega
    ·have:=hold w'.heap.size q e
     rw[Array.getElem?_eq_none (Nat.le_refl _),Array.getElem?_eq_getElem q]at this;cases this
   ·exact q
  have hnew:∀b o,G' b=some o→G b=some o∨w.heap.size≤b:=fun b o hb=>by
   rcases hG.2 b o hb with q|q
   ·exact .inl q
   ·rcases Nat.lt_or_ge b w.heap.size with z|z
    ·by_cases e:b=x.b
     ·have:=r'.gk b o hb;rw[e,hx'.1]at this;cases this
     ·rw[k0o b e,Array.getElem?_eq_getElem z]at q;cases q
    ·exact .inr z
  have hKlt:∀b o,K b=some o→b<w.heap.size:=fun b o hb=>(Array.getElem?_eq_some_iff.1 (r.keep b o hb)).1
  have hKn:∀b,w.heap.size≤b→K b=none:=fun b hb=>by
   cases q:K b with
   |none=>rfl
   |some o=>have:=hKlt b o q;omega
  obtain⟨K2,hK2⟩:∃K2:Kept,K2=⟨fun b=>match K b with|some o=>some o|none=>G' b,K.amb⟩:=⟨_,rfl⟩
  have k2K:∀b o,K b=some o→K2 b=some o:=fun b o hb=>by rw[hK2];simp[hb]
  have k2n:∀b,K b=none→K2 b=G' b:=fun b hb=>by rw[hK2];simp[hb]
  have k2none:∀b,b<w.heap.size→K b=none→K2 b=none:=fun b hb hn=>by
   rw[k2n b hn]
   cases q:G' b with
   |none=>rfl
   |some o=>
    rcases hnew b o q with z|z
    ·have:=r.gk b o z;rw[hn]at this;cases this
    ·omega
  have hsame:K.amb=G'.amb:=by rw[←r.gk.same];exact hG.1.same
  refine⟨y,β,G',K2,rfl,Homes.le_refl _,⟨hG.1,fun b o hb=>(hnew b o hb).imp id (hKn b)⟩,⟨k2K,by rw[hK2]⟩,⟨by simp[r.len],fun j k hj=> ?_,fun j l y z k k' hj hl g g' hbj hbl e=> ?_,fun j y k hj g hb=> ?_,fun b o hb=> ?_,⟨fun b o hb=> ?_,?_⟩,?_,fun j X tr hj=> ?_⟩,hy.low hv⟩
  ·by_cases e:j=i
   ·subst e
    rw[List.getElem?_set_self (List.getElem?_eq_some_iff.1 hi).1]at hj;cases hj
    rw[hx]
    obtain⟨c,t,h1,h2,h3⟩:=r'.blk 0 _ rfl
    exact⟨c,t,h1,h2,fun q hq=>(h3 q hq).low (underL_getD hk' q)⟩
   ·rw[List.getElem?_set_ne (Ne.symm e)]at hj
    by_cases hg:k=.gone
    ·subst hg;cases(β[j]?.getD .void)<;>trivial
    refine(r.blk j k hj).mono hG.1 (Homes.le_refl _) fun y hy=> ?_
    have hb:β[j]? =some (.lie y):=by
     cases hb:β[j]? with
     |none=>simp[hb]at hy
     |some z=>simp[hb]at hy;rw[hy]
    refine hold y.b (r.sep j y k hj hg hb).2 fun e2=>e ?_
    exact r.inj j i y x k _ hj hi hg (by simp) hb hx e2
  ·have look:∀ {j:Nat} {k:Blk},(h.set i (.cells cs'))[j]? =some k→k≠ .gone→∃k2,h[j]? =some k2∧k2≠ .gone:=fun {j k} hj g=>by
    by_cases e:j=i
    ·subst e;exact⟨_,hi,by simp⟩
    ·rw[List.getElem?_set_ne (Ne.symm e)]at hj;exact⟨k,hj,g⟩
   obtain⟨k2,q1,q2⟩:=look hj g
   obtain⟨k3,q3,q4⟩:=look hl g'
   exact r.inj j l y z k2 k3 q1 q3 q2 q4 hbj hbl e
  ·by_cases e:j=i
   ·subst e
    rw[hx]at hb;cases hb
    exact⟨k2none _ hlt hKx,Nat.lt_of_lt_of_le hlt hsz⟩
   ·rw[List.getElem?_set_ne (Ne.symm e)]at hj
    have hs:=r.sep j y k hj g hb
    exact⟨k2none _ hs.2 hs.1,Nat.lt_of_lt_of_le hs.2 hsz⟩
  ·cases q:K b with
   |none=>rw[k2n b q]at hb;exact r'.keep b o (r'.gk b o hb)
   |some o'=>
    rw[k2K b o' q]at hb;cases hb
    have hne:b≠x.b:=fun e=>by rw[e,hKx]at q;cases q
    rw[hold b (hKlt b _ q) hne];exact r.keep b _ q
  ·cases q:K b with
   |none=>rw[k2n b q];exact hb
   |some o'=>
    rw[k2K b o' q]
    rcases hnew b o hb with z|z
    ·have:=r.gk b o z;rw[q]at this;exact this
    ·have:=hKlt b o' q;omega
  ·rw[hK2];exact hsame.symm
  ·rw[hK2];exact r.amb.mild hmild
  ·have hne:j≠i:=fun e=>by
    subst e
    rw[List.getElem?_set_self (List.getElem?_eq_some_iff.1 hi).1]at hj;cases hj
   rw[List.getElem?_set_ne (Ne.symm hne)]at hj
   obtain⟨l,E,h1,h2,h3,h4⟩:=r.ext j X tr hj
   have hE:∀b,E b≠none→b<w.heap.size∧b≠x.b:=fun b hb=>⟨Ext.lt h2 hb,fun e=>(h4 b hb).2 i x _ hi (by simp) hx e.symm⟩
   refine⟨l,E,h1,X.stable h2 (fun b o hb=> ?_) (fun b o hb=> ?_) hsz hmild,⟨fun b o hb=>k2K b o (h3 b o hb),h3.same.trans (by rw[hK2])⟩,fun b hb=>⟨k2none b (hE b hb).1 (h4 b hb).1,fun q z k hq g hz=> ?_⟩⟩
   ·have q:=X.keeps h2 b o hb
    have:=hE b (by rw[hb];simp)
    rw[hold b this.1 this.2];exact q
   ·have q:=h3 b o hb
    have hne2:b≠x.b:=fun e=>by rw[e,hKx]at q;cases q
    rw[hold b (hKlt b o q) hne2];exact r.keep b o q
   ·by_cases e:q=i
    ·subst e
     rw[hx]at hz;cases hz
     exact fun e=>(hE b hb).2 e.symm
    ·rw[List.getElem?_set_ne (Ne.symm e)]at hq
     exact(h4 b hb).2 q z k hq g hz⟩
def V.atR(i:Nat):V→V
 |.ref 0 r off=>.ref i r off
 |.row 0 n=>.row i n
 |v=>v
theorem HCalls.atRow{P:Program}{f:FuncId}{args:List V}{v:V}{et:TypeId}{wd n n2:Nat}{c0 c2:Nat→Nat→V}(hc:HCalls P f args v [.rows et wd n c0] [.rows et wd n2 c2])(ha:∀j,(∃r off,args.getD j .undef=.ref 0 r off)∨(∃m,args.getD j .undef=.row 0 m)∨(args.getD j .undef).under 0=true)(hv:(∃m,v=.row 0 m)∨v.under 0=true)(h0n:0<n)
  {h:List Blk} {i:Nat} (hi:h[i]? =some (.rows et wd n c0)):HCalls P f (args.map (V.atR i)) (V.atR i v) h (h.set i (.rows et wd n2 c2)):=
 ⟨hc.1,fun β G K w xs r hl hr=>by
  have hB:=r.blk i _ hi
  obtain⟨x,hx⟩:∃x,β[i]? =some (.lie x):=by
   cases hb:β[i]? with
   |none=>rw[hb]at hB;exact hB.elim
   |some m=>
    rw[hb]at hB
    cases m with
    |lie x=>exact⟨x,rfl⟩
    |void=>exact hB.elim
    |nil=>exact absurd hB.1 (by omega)
    |ext l=>exact hB.elim
  rw[hx]at hB
  obtain⟨hKx,hlt⟩:=r.sep i x _ hi (by simp) hx
  obtain⟨K0,hK0⟩:∃K0:Kept,K0=⟨fun b=>if b=x.b then none else w.heap[b]?,K.amb⟩:=⟨_,rfl⟩
  have k0x:K0 x.b=none:=by rw[hK0];simp
  have k0o:∀b,b≠x.b→K0 b=w.heap[b]? :=fun b hb=>by rw[hK0];simp[hb]
  have hGK0:G.le K0:=⟨fun b o hb=>by
   have h1:=r.gk b o hb
   have h2:b≠x.b:=fun e=>by rw[e,hKx]at h1;cases h1
   rw[k0o b h2];exact r.keep b o h1,r.gk.same.trans (by rw[hK0])⟩
  have r0:RH [.lie x] G K0 [.rows et wd n c0] w:=by
   refine⟨rfl,fun j k hj=> ?_,fun j l y z k k' hj hl _ _ _ _ _=> ?_,fun j y k hj _ hb=> ?_,fun b o hb=> ?_,hGK0,by rw[hK0];exact r.amb,fun j X tr hj=> ?_⟩
   ·match j,hj with
    |0,hj=>
     cases hj
     exact hB
    |j+1,hj=>simp at hj
   ·match j,l,hj,hl with
    |0,0,_,_=>rfl
    |j+1,_,hj,_=>simp at hj
    |0,l+1,_,hl=>simp at hl
   ·match j,hj,hb with
    |0,_,hb=>cases hb;exact⟨k0x,hlt⟩
    |j+1,hj,_=>simp at hj
   ·by_cases e:b=x.b
    ·rw[e,k0x]at hb;cases hb
    ·rw[k0o b e]at hb;exact hb
   ·match j,hj with
    |0,hj=>cases hj
    |j+1,hj=>simp at hj
  refine(hc.tight rfl rfl [.lie x] G K0 w xs r0 (by simpa using hl) fun j hj=> ?_).mono ?_
  ·have h1:=hr j (by simpa using hj)
   have e1:(args.map (V.atR i)).getD j .undef=V.atR i (args.getD j .undef):=by
    simp only[List.getD_eq_getElem?_getD,List.getElem?_map]
    cases args[j]? <;>rfl
   rw[e1]at h1
   rcases ha j with⟨q,off,e⟩|⟨m,e⟩|hu
   ·rw[e]at h1⊢
    change Rel G β (.ref i q off) _ at h1
    generalize xs.getD j Go.undef=y at h1
    cases h1 with
    |ref hb=>rw[hx]at hb;cases hb;exact .ref rfl
   ·rw[e]at h1⊢
    change Rel G β (.row i m) _ at h1
    generalize xs.getD j Go.undef=y at h1
    cases h1 with
    |row hb q1 q2 q3=>rw[hx]at hb;cases hb;exact .row rfl q1 q2 q3
    |row0 hb=>rw[hx]at hb;cases hb
   ·have e2:V.atR i (args.getD j .undef)=args.getD j .undef:=by
     generalize args.getD j .undef=u at hu
     unfold V.atR
     split
     ·simp[V.under]at hu
     ·simp[V.under]at hu
     ·rfl
    rw[e2]at h1
    exact h1.low hu
  rintro e w' ⟨⟨y,γ,G',K',rfl,hγ,hG,hK,r',hy⟩,hmild⟩
  have hg0:γ=[.lie x]:=by
   have h1:=hγ 0 (.lie x) (by simp) rfl
   have h2:γ.length=1:=r'.len
   match γ,h1,h2 with
   |[z],h1,_=>cases h1;rfl
  subst hg0
  have hold:∀b,b<w.heap.size→b≠x.b→w'.heap[b]? =w.heap[b]? :=fun b hb hne=>by
   have e1:w.heap[b]? =some w.heap[b]:=Array.getElem?_eq_getElem hb
   rw[e1];exact r'.keep b _ (hK b _ (by rw[k0o b hne];exact e1))
  have hx':=r'.sep 0 x _ rfl (by simp) rfl
  have hsz:w.heap.size≤w'.heap.size:=by
   rcases Nat.lt_or_ge w'.heap.size w.heap.size with q|q
   ·by_cases e:w'.heap.size=x.b
    ·have:=hx'.2;omega
    ·have:=hold w'.heap.size q e
     rw[Array.getElem?_eq_none (Nat.le_refl _),Array.getElem?_eq_getElem q]at this;cases this
   ·exact q
  have hnew:∀b o,G' b=some o→G b=some o∨w.heap.size≤b:=fun b o hb=>by
   rcases hG.2 b o hb with q|q
   ·exact .inl q
   ·rcases Nat.lt_or_ge b w.heap.size with z|z
    ·by_cases e:b=x.b
     ·have:=r'.gk b o hb;rw[e,hx'.1]at this;cases this
     ·rw[k0o b e,Array.getElem?_eq_getElem z]at q;cases q
    ·exact .inr z
  have hKlt:∀b o,K b=some o→b<w.heap.size:=fun b o hb=>(Array.getElem?_eq_some_iff.1 (r.keep b o hb)).1
  have hKn:∀b,w.heap.size≤b→K b=none:=fun b hb=>by
   cases q:K b with
   |none=>rfl
   |some o=>have:=hKlt b o q;omega
  obtain⟨K2,hK2⟩:∃K2:Kept,K2=⟨fun b=>match K b with|some o=>some o|none=>G' b,K.amb⟩:=⟨_,rfl⟩
  have k2K:∀b o,K b=some o→K2 b=some o:=fun b o hb=>by rw[hK2];simp[hb]
  have k2n:∀b,K b=none→K2 b=G' b:=fun b hb=>by rw[hK2];simp[hb]
  have k2none:∀b,b<w.heap.size→K b=none→K2 b=none:=fun b hb hn=>by
   rw[k2n b hn]
   cases q:G' b with
   |none=>rfl
   |some o=>
    rcases hnew b o q with z|z
    ·have:=r.gk b o z;rw[hn]at this;cases this
    ·omega
  have hsame:K.amb=G'.amb:=by rw[←r.gk.same];exact hG.1.same
  refine⟨y,β,G',K2,rfl,Homes.le_refl _,⟨hG.1,fun b o hb=>(hnew b o hb).imp id (hKn b)⟩,⟨k2K,by rw[hK2]⟩,⟨by simp[r.len],fun j k hj=> ?_,fun j l y z k k' hj hl g g' hbj hbl e=> ?_,fun j y k hj g hb=> ?_,fun b o hb=> ?_,⟨fun b o hb=> ?_,?_⟩,?_,fun j X tr hj=> ?_⟩,?_⟩
  ·by_cases e:j=i
   ·subst e
    rw[List.getElem?_set_self (List.getElem?_eq_some_iff.1 hi).1]at hj;cases hj
    rw[hx]
    exact r'.blk 0 _ rfl
   ·rw[List.getElem?_set_ne (Ne.symm e)]at hj
    by_cases hg:k=.gone
    ·subst hg;cases(β[j]?.getD .void)<;>trivial
    refine(r.blk j k hj).mono hG.1 (Homes.le_refl _) fun y hy=> ?_
    have hb:β[j]? =some (.lie y):=by
     cases hb:β[j]? with
     |none=>simp[hb]at hy
     |some z=>simp[hb]at hy;rw[hy]
    refine hold y.b (r.sep j y k hj hg hb).2 fun e2=>e ?_
    exact r.inj j i y x k _ hj hi hg (by simp) hb hx e2
  ·have look:∀ {j:Nat} {k:Blk},(h.set i (.rows et wd n2 c2))[j]? =some k→k≠ .gone→∃k2,h[j]? =some k2∧k2≠ .gone:=fun {j k} hj g=>by
    by_cases e:j=i
    ·subst e;exact⟨_,hi,by simp⟩
    ·rw[List.getElem?_set_ne (Ne.symm e)]at hj;exact⟨k,hj,g⟩
   obtain⟨k2,q1,q2⟩:=look hj g
   obtain⟨k3,q3,q4⟩:=look hl g'
   exact r.inj j l y z k2 k3 q1 q3 q2 q4 hbj hbl e
  ·by_cases e:j=i
   ·subst e
    rw[hx]at hb;cases hb
    exact⟨k2none _ hlt hKx,Nat.lt_of_lt_of_le hlt hsz⟩
   ·rw[List.getElem?_set_ne (Ne.symm e)]at hj
    have hs:=r.sep j y k hj g hb
    exact⟨k2none _ hs.2 hs.1,Nat.lt_of_lt_of_le hs.2 hsz⟩
  ·cases q:K b with
   |none=>rw[k2n b q]at hb;exact r'.keep b o (r'.gk b o hb)
   |some o'=>
    rw[k2K b o' q]at hb;cases hb
    have hne:b≠x.b:=fun e=>by rw[e,hKx]at q;cases q
    rw[hold b (hKlt b _ q) hne];exact r.keep b _ q
  ·cases q:K b with
   |none=>rw[k2n b q];exact hb
   |some o'=>
    rw[k2K b o' q]
    rcases hnew b o hb with z|z
    ·have:=r.gk b o z;rw[q]at this;exact this
    ·have:=hKlt b o' q;omega
  ·rw[hK2];exact hsame.symm
  ·rw[hK2];exact r.amb.mild hmild
  ·have hne:j≠i:=fun e=>by
    subst e
    rw[List.getElem?_set_self (List.getElem?_eq_some_iff.1 hi).1]at hj;cases hj
   rw[List.getElem?_set_ne (Ne.symm hne)]at hj
   obtain⟨l,E,h1,h2,h3,h4⟩:=r.ext j X tr hj
   have hE:∀b,E b≠none→b<w.heap.size∧b≠x.b:=fun b hb=>⟨Ext.lt h2 hb,fun e=>(h4 b hb).2 i x _ hi (by simp) hx e.symm⟩
   refine⟨l,E,h1,X.stable h2 (fun b o hb=> ?_) (fun b o hb=> ?_) hsz hmild,⟨fun b o hb=>k2K b o (h3 b o hb),h3.same.trans (by rw[hK2])⟩,fun b hb=>⟨k2none b (hE b hb).1 (h4 b hb).1,fun q z k hq g hz=> ?_⟩⟩
   ·have q:=X.keeps h2 b o hb
    have:=hE b (by rw[hb];simp)
    rw[hold b this.1 this.2];exact q
   ·have q:=h3 b o hb
    have hne2:b≠x.b:=fun e=>by rw[e,hKx]at q;cases q
    rw[hold b (hKlt b o q) hne2];exact r.keep b o q
   ·by_cases e:q=i
    ·subst e
     rw[hx]at hz;cases hz
     exact fun e=>(hE b hb).2 e.symm
    ·rw[List.getElem?_set_ne (Ne.symm e)]at hq
     exact(h4 b hb).2 q z k hq g hz
  ·rcases hv with⟨m,rfl⟩|hv
   ·show Rel G' β (.row i m) y
    cases hy with
    |row hb q1 q2 q3=>cases hb;exact .row hx q1 q2 q3
    |row0 hb=>cases hb
   ·have e2:V.atR i v=v:=by
     unfold V.atR
     split
     ·simp[V.under]at hv
     ·simp[V.under]at hv
     ·rfl
    rw[e2];exact hy.low hv⟩
theorem AWP.ownCell{P:Program}{ro:Env}{c:Code}{S:St}{Q:Exit→St→Prop}{i j n:Nat}{cs:List V}(e:TypeId)(c0:Nat→Nat→V)(hi:S.h[i]? =some (.cells cs))(hj:cs[j]? =some .nils)(hn:0<n)
  (h:AWP P ro c ⟨S.t,(S.h++ [Blk.rows e n 0 c0]).set i (.cells (cs.set j (.row S.h.length 0))),S.d⟩ Q):AWP P ro c S Q:=fun β G K a w r=>by
 have hil:=(List.getElem?_eq_some_iff.1 hi).1
 have hjl:=(List.getElem?_eq_some_iff.1 hj).1
 have r1:=r.push_none e c0 hn
 have hz:(β++ [Hm.nil])[S.h.length]? =some .nil:=by rw[←r.h.len];simp
 have hi1:(S.h++ [Blk.rows e n 0 c0])[i]? =some (.cells cs):=by rw[List.getElem?_append_left hil];exact hi
 have r2:RS (β++ [Hm.nil]) G K ⟨S.t,(S.h++ [Blk.rows e n 0 c0]).set i (.cells (cs.set j (.row S.h.length 0))),S.d⟩ a w:=by
  refine⟨r1.h.swap hi1 (by simp) rfl ?_,r1.size,r1.tmp,r1.marks,fun q hq=> ?_⟩
  ·have hB:=r1.h.blk i _ hi1
   revert hB
   generalize(β++ [Hm.nil])[i]?.getD .void=z
   cases z with
   |void=>exact fun h=>h.elim
   |nil=>exact fun h=>h.elim
   |ext l=>exact fun h=>h.elim
   |lie y=>
    rintro⟨ca,t,h1,h2,h3⟩
    refine⟨ca,t,h1,by simpa using h2,fun q hq=> ?_⟩
    have hq':q<cs.length:=by simpa using hq
    by_cases q1:j=q
    ·subst q1
     have h4:=h3 j hjl
     rw[List.getD_eq_getElem?_getD,hj]at h4
     rw[List.getD_eq_getElem?_getD,List.getElem?_set_self hjl]
     generalize ca.getD j Go.undef=x at h4
     cases h4
     exact .row0 hz
    ·rw[List.getD_eq_getElem?_getD,List.getElem?_set_ne q1,←List.getD_eq_getElem?_getD]
     exact h3 q hq'
  ·obtain⟨x,h1,h2,h3⟩:=r1.mark q hq
   have hne:i≠S.d.getD q 0:=by intro e9;rw[←e9]at h3;rw[show({S with h:=S.h++ [Blk.rows e n 0 c0]}:St).h=S.h++ [.rows e n 0 c0]from rfl,hi1]at h3;cases h3
   refine⟨x,h1,h2,?_⟩
   show((S.h++ [Blk.rows e n 0 c0]).set i _)[S.d.getD q 0]? =_
   rw[List.getElem?_set_ne hne];exact h3
 exact wpIn_mono (h _ G K a w r2) fun e a w hp=>hp.up ((Homes.le_append _ _).low _) (G.ext_refl K) K.le_refl
theorem zeroCells_get(zc:Array Value)(n q:Nat)(hq:q<n*zc.size):(Builtin.zeroCells zc n).toList.getD q Go.undef=zc.getD (q%zc.size) Go.undef:=by
 have h0:0<zc.size:=by
  rcases Nat.eq_zero_or_pos zc.size with h|h
  ·rw[h]at hq;simp at hq
  ·exact h
 have hm:q%zc.size<zc.size:=Nat.mod_lt _ h0
 simp[Builtin.zeroCells,List.getD_eq_getElem?_getD,hq,Array.getD_eq_getD_getElem?,hm]
theorem zeroCells_len(zc:Array Value)(n:Nat):(Builtin.zeroCells zc n).toList.length=n*zc.size:=by simp[Builtin.zeroCells]
theorem sem_clear{P:Program}{h:List Blk}{x:Operand}{t e:TypeId}{i r n w m:Nat}{et:TypeId}{c:Nat→Nat→V}{zs:List V}(hu:P.underlying t=some (.slice e))(hz:zeroCs P e=some zs)(hzl:zs.length=w)(hsc:zs.all V.scalar=true)(hi:h[i]? =some (.rows et w m c))(hr:r+n≤m):
  SemOK P (.call {callee:=.builtin .clear,args:= #[x],argTypes:= #[t]}) [(x,.sub i r 0 w n)] h (.tuple []) (h.set i (.rows et w m fun q j=>if r≤q∧q<r+n then zs.getD j .undef else c q j)):=fun β G K w0 ρ' oper ho _ rh hρ=>by
 have hx:=hρ (x,.sub i r 0 w n) (by simp)
 simp only at hx
 have hB:=rh.blk i _ hi
 have fin:∀w',(Builtin.clear_ #[t] oper.type #[ρ' x]).run P w0=.ok (.tuple #[]) w'→RH β G K (h.set i (.rows et w m fun q j=>if r≤q∧q<r+n then zs.getD j .undef else c q j)) w'→OpOK P β G K w0 ρ' oper (.tuple []) (h.set i (.rows et w m fun q j=>if r≤q∧q<r+n then zs.getD j .undef else c q j)):=fun w' hrun hrh=>
  ⟨.value (.tuple #[]),w',β,by
   simp only[execOp,ho,resolve,Sem.run_bind,Sem.run_pure,Result.andThen_ok,invoke,builtin,List.map_toArray,List.map_cons,List.map_nil,hrun],Homes.le_refl _,hrh,.tuple rfl fun j hj=>by simp at hj⟩
 rcases Nat.eq_zero_or_pos n with h0|h0
 ·subst h0
  refine fin w0 ?_ (rh.swap hi (by simp) rfl ?_)
  ·have:∃a cp,ρ' x=.slice a 0 cp:=by generalize ρ' x=xv at hx;cases hx<;>exact⟨_,_,rfl⟩
   obtain⟨a1,c1,e1⟩:=this
   rw[e1]
   cases a1<;>simp[Builtin.clear_,run_underlying' hu]
  ·revert hB
   cases β[i]?.getD .void with
   |void=>exact id
   |nil=>exact id
   |ext l=>exact id
   |lie z=>
    rintro⟨h1,hn,hcm,ca,h2,h3,h4,h5,h6⟩
    refine⟨h1,hn,hcm,ca,h2,h3,h4,h5,fun q j hq hj=> ?_⟩
    show Rel G [] (if r≤q∧q<r+0 then zs.getD j V.undef else c q j) _
    rw[if_neg (by omega)];exact h6 q j hq hj
 ·generalize hxv:ρ' x=xv at hx
  cases hx with
  |sub0=>omega
  |sub hb hc hm=>
   rename_i cap z
   rw[hb]at hB
   obtain⟨hw,hn,hcm,cur,hh,hs,hmc,hmx,hrr⟩:=hB
   obtain⟨zv,z1,z2,z3⟩:=zeroCs_ok hz w0
   have hzw:zv.cells.size=w:=by rw[z2,hzl]
   have hlen:(Builtin.zeroCells zv.cells n).toList.length=n*w:=by rw[zeroCells_len,hzw]
   have hone:∀v∈(Builtin.zeroCells zv.cells n).toList,v.oneCell'=true:=fun v hv=>by
    obtain⟨q,hq,rfl⟩:=List.mem_iff_getElem.1 hv
    rw[hlen]at hq
    have hmod:q%w<w:=Nat.mod_lt _ hn
    have e1:=zeroCells_get zv.cells n q (by rw[hzw];exact hq)
    rw[List.getD_eq_getElem?_getD,List.getElem?_eq_getElem (by rw[hlen];exact hq),Option.getD_some,hzw]at e1
    rw[e1]
    have hs1:(zs.getD (q%w) .undef).scalar=true:=by
     have hl:q%w<zs.length:=by omega
     rw[List.getD_eq_getElem?_getD,List.getElem?_eq_getElem hl]
     exact List.all_eq_true.1 hsc _ (List.getElem_mem hl)
    exact((z3 G β (q%w)).scalar hs1).2
   subst hw
   have hroom:(r+n)*z.w≤z.cap*z.w:=Nat.mul_le_mul_right _ (by omega)
   rw[Nat.add_mul]at hroom
   have hst:=run_storeCells_at (P:=P) z.b (r*z.w) et (Builtin.zeroCells zv.cells n).toList 0 cur w0 hh (by rw[hlen,hs];omega) hone
   refine fin (w0.setRow z.b (cur.toList.take (r*z.w+0)++(Builtin.zeroCells zv.cells n).toList++cur.toList.drop (r*z.w+0+(Builtin.zeroCells zv.cells n).toList.length)).toArray) ?_ (rh.write hi (by simp) hb (fun b hb'=>setRow_other w0 _ _ _ hb') (by simp) ⟨rfl,hn,hcm,_,setRow_heap w0 _ cur _ et _ hh,?_,hmc,hmx,fun q j hq hj=> ?_⟩)
   ·rw[hxv]
    obtain⟨n1,rfl⟩:∃n1,n=n1+1:=⟨n-1,by omega⟩
    simp only[Nat.add_zero]at hst⊢
    simp[Builtin.clear_,run_underlying' hu,z1,hst]
   ·simp only[List.size_toArray,List.length_append,List.length_take,List.length_drop,Array.length_toList,hlen,hs,Nat.add_zero]
    omega
   ·have hlt:q*z.w+j<z.cap*z.w:=by
     have:(q+1)*z.w≤z.cap*z.w:=Nat.mul_le_mul_right _ (by omega)
     rw[Nat.succ_mul]at this;omega
    have hget:∀l:List Value,(l.toArray).getD (q*z.w+j) Go.undef=l.getD (q*z.w+j) Go.undef:=fun l=>by simp
    rw[hget]
    simp only[Nat.add_zero]
    show Rel G [] (if r≤q∧q<r+n then zs.getD j V.undef else c q j) _
    by_cases g1:q<r
    ·have hk:q*z.w+j<r*z.w:=by
      have:(q+1)*z.w≤r*z.w:=Nat.mul_le_mul_right _ g1
      rw[Nat.succ_mul]at this;omega
     rw[if_neg (by omega),List.append_assoc,List.getD_eq_getElem?_getD (a:=Go.undef),List.getElem?_append_left (by simp only[List.length_take,Array.length_toList,hs];omega),List.getElem?_take,if_pos hk]
     have:=hrr q j hq hj
     simpa[Array.getD_eq_getD_getElem?]using this
    ·by_cases g2:q<r+n
     ·rw[if_pos ⟨by omega,g2⟩]
      obtain⟨d,rfl⟩:∃d,q=r+d:=⟨q-r,by omega⟩
      have hk:d*z.w+j<n*z.w:=by
       have:(d+1)*z.w≤n*z.w:=Nat.mul_le_mul_right _ (by omega)
       rw[Nat.succ_mul]at this;omega
      have htl:(cur.toList.take (r*z.w)).length=r*z.w:=by simp only[List.length_take,Array.length_toList,hs];omega
      have e1:=zeroCells_get zv.cells n (d*z.w+j) (by rw[hzw];exact hk)
      have hmod:(d*z.w+j)%z.w=j:=by rw[Nat.mul_comm,Nat.mul_add_mod];exact Nat.mod_eq_of_lt hj
      rw[hzw,hmod]at e1
      rw[List.append_assoc,List.getD_eq_getElem?_getD (a:=Go.undef),List.getElem?_append_right (by rw[htl,Nat.add_mul];omega),htl,List.getElem?_append_left (by rw[hlen,Nat.add_mul];omega),
       show(r+d)*z.w+j-r*z.w=d*z.w+j by rw[Nat.add_mul];omega,←List.getD_eq_getElem?_getD,e1]
      exact z3 G [] j
     ·rw[if_neg (by omega)]
      obtain⟨d,rfl⟩:∃d,q=r+n+d:=⟨q-(r+n),by omega⟩
      have htl:(cur.toList.take (r*z.w)++(Builtin.zeroCells zv.cells n).toList).length=(r+n)*z.w:=by simp only[List.length_append,List.length_take,Array.length_toList,hs,hlen,Nat.add_mul];omega
      rw[List.getD_eq_getElem?_getD (a:=Go.undef),List.getElem?_append_right (by rw[htl,Nat.add_mul (r+n)];omega),htl,List.getElem?_drop,hlen]
      have:=hrr (r+n+d) j hq hj
      rw[show r*z.w+n*z.w+((r+n+d)*z.w+j-(r+n)*z.w)=(r+n+d)*z.w+j by simp only[Nat.add_mul];omega]
      simpa[Array.getD_eq_getD_getElem?]using this
theorem HCalls.frz{P:Program}{f:FuncId}{args:List V}{v:V}{h h':List Blk}{i:Nat}{S':St}(hc:HCalls P f args v h h')(hS:frzS ⟨[v],h',[]⟩ i=some (true,S')):HCalls P f args (S'.t.getD 0 .undef) h S'.h:=
 ⟨hc.1,fun β G K w xs r hl hr=>(hc.2 β G K w xs r hl hr).mono (by
  rintro e w' ⟨x,β',G',K',rfl,h1,h2,h3,h4,h5⟩
  have r1:RS β' G' K' ⟨[v],h',[]⟩ {tmps:= #[x],defers:=[]} w':=⟨h4,rfl,fun j=>by
   cases j with
   |zero=>exact h5
   |succ j=>exact .undef _,rfl,fun j hj=>by simp at hj⟩
  obtain⟨G2,g2,K2,k2,r2⟩:=r1.frz hS
  exact⟨x,β',G2,K2,rfl,h1,h2.trans h3 g2,h3.trans k2,r2.h,r2.tmp 0⟩)⟩
def offB(i:Nat):Blk→Bool
 |.cells cs=>cs.all (V.off i)
 |.iter v _ _=>v.off i
 |.rowsL _ _ _ _ _ _ v=>v.off i
 |.maps _ vs=>vs.all (V.off i)
 |_=>true
theorem killV_off{i:Nat}{v:V}(h:v.off i=true):killV i v=v:=by unfold killV;rw[h];rfl
theorem frzV_off{i w:Nat}{c:Nat→Nat→V}{v:V}(h:v.off i=true):frzV i w c v=v:=by
 unfold frzV
 split
 ·rename_i j n
  simp only[V.off]at h
  cases hb:j==i with
  |false=>rfl
  |true=>rw[beq_iff_eq]at hb;subst hb;simp at h
 ·rfl
theorem frzOK_off{i m:Nat}{v:V}(h:v.off i=true):frzOK i m v=true:=by
 unfold frzOK
 split
 ·rename_i j n
  simp only[V.off]at h
  cases hb:j==i with
  |false=>rfl
  |true=>rw[beq_iff_eq]at hb;subst hb;simp at h
 ·rfl
theorem map_off{i:Nat}{f:V→V}(hf:∀v,v.off i=true→f v=v):∀ {vs:List V},vs.all (V.off i)=true→vs.map f=vs
 |[],_=>rfl
 |v::vs,h=>by
  simp only[List.all_cons,Bool.and_eq_true]at h
  rw[List.map_cons,hf v h.1,map_off hf h.2]
theorem frzB_off{i w:Nat}{c:Nat→Nat→V}{b:Blk}(h:offB i b=true):killB i (frzB i w c b)=b:=by
 cases b with
 |cells cs=>
  have h1:cs.map (frzV i w c)=cs:=map_off (fun v hv=>frzV_off hv) h
  have h2:cs.map (killV i)=cs:=map_off (fun v hv=>killV_off hv) h
  simp only[frzB]
  cases cs.any isR with
  |true=>simp only[cond_true,killB,h1,h2]
  |false=>simp only[cond_false,killB,h2]
 |iter v n s=>simp only[frzB,killB,killV_off (show v.off i=true from h)]
 |rowsL e w' n c' r0 j0 v=>simp only[frzB,killB,frzV_off (show v.off i=true from h),killV_off (show v.off i=true from h)]
 |maps ks vs=>simp only[frzB,killB,map_off (fun v hv=>killV_off hv) (show vs.all (V.off i)=true from h)]
 |_=>rfl
theorem okL_off{i m:Nat}{b:Blk}(h:offB i b=true):okL i m b=true:=by
 cases b with
 |cells cs=>
  simp only[okL,List.all_eq_true]
  intro v hv
  exact frzOK_off (List.all_eq_true.1 h v hv)
 |rowsL e w' n c' r0 j0 v=>exact frzOK_off h
 |_=>rfl
theorem HCalls.frzOff{P:Program}{f:FuncId}{args:List V}{h h':List Blk}{q m n wd:Nat}{e:TypeId}{c:Nat→Nat→V}(hc:HCalls P f args (.row q m) h h')(hq:h'[q]? =some (.rows e wd n c))(hm:m≤n)(ho:h'.all (offB q)=true):HCalls P f args (.list wd m c) h (h'.set q .gone):=by
 have hmap:(h'.map fun b=>killB q (frzB q wd c b))=h':=by
  have:∀l:List Blk,l.all (offB q)=true→(l.map fun b=>killB q (frzB q wd c b))=l:=by
   intro l
   induction l with
   |nil=>intro _;rfl
   |cons b l ih=>
    intro hl
    simp only[List.all_cons,Bool.and_eq_true]at hl
    rw[List.map_cons,frzB_off hl.1,ih hl.2]
  exact this h' ho
 have hob:(bif h'.any isL then([V.row q m]:List V).all (frzOK q n)&&h'.all (okL q n)else([V.row q m]:List V).all (frzOK q n))=true:=by
  have h1:([V.row q m]:List V).all (frzOK q n)=true:=by simp[frzOK,hm]
  have h2:h'.all (okL q n)=true:=by
   rw[List.all_eq_true]at ho⊢
   exact fun b hb=>okL_off (ho b hb)
  rw[h1,h2];cases h'.any isL<;>rfl
 have hS:frzS ⟨[.row q m],h',[]⟩ q=some (true,⟨[.list wd m c],h'.set q .gone,[]⟩):=by
  simp only[frzS,hq,frzR]
  rw[hob,hmap]
  simp[frzV,killV,V.off]
 exact hc.frz hS
theorem HCalls.res{P:Program}{f:FuncId}{args:List V}{v v':V}{h h':List Blk}(hc:HCalls P f args v h h')(hv:VLe v v'):HCalls P f args v' h h':=
 ⟨hc.1,fun β G K w xs r hl hr=>(hc.2 β G K w xs r hl hr).mono (by
  rintro e w' ⟨x,β',G',K',rfl,h1,h2,h3,h4,h5⟩
  exact⟨x,β',G',K',rfl,h1,h2,h3,h4,hv _ _ _ h5⟩)⟩
theorem HCalls.telR{P:Program}{f:FuncId}{args:List V}{v:V}{h h':List Blk}{q n wd:Nat}{e:TypeId}{c c':Nat→Nat→V}(hc:HCalls P f args v h h')(hq:h'[q]? =some (.rows e wd n c))(hv:∀r j,r<n→j<wd→VLe (c r j) (c' r j)):HCalls P f args v h (h'.set q (.rows e wd n c')):=
 ⟨hc.1,fun β G K w xs r hl hr=>(hc.2 β G K w xs r hl hr).mono (by
  rintro e0 w' ⟨x,β',G',K',rfl,h1,h2,h3,h4,h5⟩
  refine⟨x,β',G',K',rfl,h1,h2,h3,h4.swap hq (by simp) rfl ?_,h5⟩
  have hB:=h4.blk q _ hq
  revert hB
  cases β'[q]?.getD .void with
  |void=>exact id
  |nil=>exact id
  |ext l=>exact id
  |lie z=>
   rintro⟨q1,q2,q3,ca,q4,q5,q6,q7,q8⟩
   exact⟨q1,q2,q3,ca,q4,q5,q6,q7,fun r j hr hj=>hv r j hr hj _ _ _ (q8 r j hr hj)⟩)⟩
def YSpecL(P:Program)(X:Ext):Prop:=
 ∀(l:Nat) (tr:List V) (E:Kept) (w:World) (us:List V) (xs:Array Value) (Kf:Kept),X.I l tr E w→X.go tr=true→tr++ [.tuple us]<+:X.ys→X.base.le Kf→(∀b o,Kf b=some o→w.heap[b]? =some o)→Kf.amb.ok w→(∀b,Kf b≠none→E b=none)→
  us.length=xs.size→(∀j,j<us.length→Rel Kf [] (us.getD j .undef) (xs.getD j Go.undef))→
  YieldAt Fence.wide 0 P l xs w fun e w'=>∃E',e=.returned (.bool (X.go (tr++ [.tuple us])))∧X.I l (tr++ [.tuple us]) E' w'∧(∀b o,Kf b=some o→w'.heap[b]? =some o)∧(∀b,E' b≠none→Kf b=none)∧Kf.amb.ok w'
def IterL(P:Program)(f:FuncId)(caps ys:List V):Prop:=
 ∀X:Ext,X.ys=ys→YSpecL P X→X.go []=true→∃v,HCalls P f (.yld 0::caps) v [.ext X []] [.ext X (feed X.go [] ys)]
theorem RH.upG{β:Homes}{G G' K:Kept}{h:List Blk}{w:World}(r:RH β G K h w)(hg:G.le G')(hk:G'.le K):RH β G' K h w:=
 ⟨r.len,fun i k hi=>(r.blk i k hi).mono hg (Homes.le_refl _) fun _ _=>rfl,r.inj,r.sep,r.keep,hk,r.amb,r.ext⟩
theorem RH.freeG{β:Homes}{G G' K:Kept}{h:List Blk}{w:World}(r:RH β G K h w)(hf:∀(i:Nat) (k:Blk),h[i]? =some k→BlkFree k)(hk:G'.le K):RH β G' K h w:=
 ⟨r.len,fun i k hi=>(r.blk i k hi).free (hf i k hi),r.inj,r.sep,r.keep,hk,r.amb,r.ext⟩
theorem range_wpL{P:Program}{m:Nat}{β:Homes}{G K:Kept}{a:Act}{w:World}{S:St}(r:RS β G K S a w){g:Operand}{ps:Array Tmp}{assign body:Code}{f:FuncId}{caps ys:List V}{go:Nat→Bool}{H:Nat→List Blk}{jx:Exit}{jc:Code}{Qw:Exit→Act→World→Prop}
  (hg:S.eval g=.func (.func f) [] caps) (hcaps:underL 0 caps=true) (hcf:∀xs w,(callFunc f xs).run P w=.ok (.enter f xs) w) (hit:IterL P f caps ys) (hH0:H 0=S.h) (hlen:∀k,(H k).length=S.h.length) (hne:∀k,extAs S.h (H k))
  (hfree:∀(k i:Nat) (b:Blk),(H (k+1))[i]? =some b→BlkFree b) (hgo:go 0=true) (hj:exitCode jx=some jc)
  (hround:∀(l:Nat) (k:Nat) (us:List V),ys[k]? =some (.tuple us)→go k=true→us.length=ps.size∧
   AWP P ⟨some l,S.h.length⟩ assign ⟨setPs ps.toList us S.t,H k,[]⟩ fun e S1=>e=.normal∧extAs S.h S1.h∧
    AWP P ⟨some l,S.h.length⟩ body S1 fun e S2=>e=(bif go (k+1)then .normal else jx)∧S2.h=H (k+1))
  (hQ:∀(β2:Homes) (G2 K3:Kept) (D:Nat) (w4:World),β.le β2→β2.length=S.h.length→G.ext K G2→K.le K3→RH (β2++ [Hm.lie ⟨D,0,0⟩]) G2 K3 (H (stopK go 0 ys.length)++ [.obj (.deferred (some []))]) w4→
   Qw (bif go (stopK go 0 ys.length)then .normal else jx) {a with defers:=[{target:=.collected D,args:= #[]}]++a.defers} w4):
  (Code.rangeFunc g ps assign body).wpIn (wide ⟨none,m⟩) 0 P Qw a w:=by
 refine wpIn_rangeFunc fun fn hfn=> ?_
 have hfv:=r.eval g
 rw[hg]at hfv
 obtain⟨c',hfe,hcl,hcc⟩:∃c',a.eval g=.func (.func f) #[] c'∧caps.length=c'.size∧∀j,j<caps.length→Rel G β (caps.getD j .undef) (c'.getD j Go.undef):=by
  generalize a.eval g=x at hfv
  cases hfv with
  |func h1 h2 h3 h4=>
   rename_i f' c'
   have:f'= #[]:=Array.eq_empty_of_size_eq_zero (by simpa using h1.symm)
   subst this
   exact⟨c',rfl,h2,h4⟩
 obtain⟨D,hD⟩:∃D,w.heap.size=D:=⟨_,rfl⟩
 obtain⟨rec,hrec⟩:∃rec:LoopState→Option Code→Loop,rec=fun st pe=>{state:=st,pending:=pe,fn,tmps:=a.tmps,params:=ps,assign,body,defers:=D}:=⟨_,rfl⟩
 obtain⟨W1,hW1⟩:∃W1,(w.alloc (.deferred (some []))).alloc (.loop (rec .ready none))=W1:=⟨_,rfl⟩
 have hL1:W1.heap[D+1]? =some (.loop (rec .ready none)):=by
  rw[←hW1];have:=World.alloc_heap_new (w.alloc (.deferred (some []))) (.loop (rec .ready none));rwa[World.size_alloc,hD]at this
 have hK1:W1.heap[D]? =some (.deferred (some [])):=by
  rw[←hW1,←hD];exact(heap_alloc_lt _ _ (by simp)).trans (World.alloc_heap_new w _)
 have hold:∀b,b<D→W1.heap[b]? =w.heap[b]? :=fun b hb=>by
  rw[←hW1];exact(heap_alloc_lt _ _ (by simp[hD];omega)).trans (heap_alloc_lt _ _ (by omega))
 have hsz:W1.heap.size=D+2:=by rw[←hW1];simp[hD]
 have hKlt:∀b o,K b=some o→b<D:=fun b o hb=>by rw[←hD];exact(Array.getElem?_eq_some_iff.1 (r.h.keep b o hb)).1
 obtain⟨ES,hES⟩:=r.h.extOK
 have hbaseK:∀ {h:List Blk},extAs S.h h→∀(i:Nat) (X:Ext) (tr:List V),h[i]? =some (.ext X tr)→X.base.le K:=fun he i X tr hi=>by
  obtain⟨tr',h'⟩:=he i X tr hi
  exact(hES i X tr' h').choose_spec.2.2.1
 obtain⟨rk,hrk⟩:∃rk:Nat→Loop,rk=fun k=>bif go k then rec .ready none else rec .done (some jc):=⟨_,rfl⟩
 let mine:Kept→Homes→(Nat→Kept)→Nat→Nat→Prop:=fun K2 β2 E0 k b=>K b=none∧(K2 b≠none∨b=D+1∨(∃(i:Nat) (x:Home) (kb:Blk),(H k)[i]? =some kb∧kb≠ .gone∧β2[i]? =some (.lie x)∧x.b=b)∨own E0 (H k) b)
 let I:Nat→List V→Kept→World→Prop:=fun l tr E w'=>l=D+1∧∃(β2:Homes) (G2 K2:Kept) (E0:Nat→Kept) (wI:World),β.le β2∧G.ext K G2∧K.le K2∧RH β2 G2 K2 (H tr.length) wI∧wI.heap[D+1]? =some (.loop (rk tr.length))∧K2 (D+1)=none∧
  (∀(i:Nat) (x:Home) (kb:Blk),(H tr.length)[i]? =some kb→kb≠ .gone→β2[i]? =some (.lie x)→x.b≠D+1)∧(K2 D=some (.deferred (some []))∧G2 D=none)∧(∀b,mine K2 β2 E0 tr.length b→E b=wI.heap[b]?)∧(∀b,¬mine K2 β2 E0 tr.length b→E b=none)∧
  (∀b o,E b=some o→w'.heap[b]? =some o)∧ExtOK β2 K2 (H tr.length) wI E0∧(∀b,own E0 (H tr.length) b→b≠D+1)∧wI.heap.size≤w'.heap.size∧Mild wI w'
 have move:∀ {l:Nat} {tr:List V} {E:Kept} {w':World},I l tr E w'→(∀b o,K b=some o→w'.heap[b]? =some o)→K.amb.ok w'→∃(β2:Homes) (G2 K2:Kept) (E0:Nat→Kept),β.le β2∧G.ext K G2∧K.le K2∧RH β2 G2 K2 (H tr.length) w'∧w'.heap[D+1]? =some (.loop (rk tr.length))∧K2 (D+1)=none∧
   (∀(i:Nat) (x:Home) (kb:Blk),(H tr.length)[i]? =some kb→kb≠ .gone→β2[i]? =some (.lie x)→x.b≠D+1)∧(K2 D=some (.deferred (some []))∧G2 D=none)∧(∀b,mine K2 β2 E0 tr.length b→E b≠none)∧ExtOK β2 K2 (H tr.length) w' E0∧(∀b,own E0 (H tr.length) b→b≠D+1):=fun {l tr E w'} hI hk hka=>by
  obtain⟨-,β2,G2,K2,E0,wI,q1,q2,q3,q4,q5,q6,q7,q8,q9,q10,q11,q12,q13,q14,q15⟩:=hI
  have hmine:∀b,mine K2 β2 E0 tr.length b→b<wI.heap.size:=fun b hb=>by
   rcases hb.2 with h|rfl|⟨i,x,kb,h1,h2,h3,rfl⟩|h
   ·cases hb:K2 b with
    |none=>exact absurd hb h
    |some o=>exact(Array.getElem?_eq_some_iff.1 (q4.keep b o hb)).1
   ·exact(Array.getElem?_eq_some_iff.1 q5).1
   ·exact(q4.sep i x kb h1 h2 h3).2
   ·exact q12.lt h
  have hEm:∀b,mine K2 β2 E0 tr.length b→w'.heap[b]? =wI.heap[b]? :=fun b hb=>by
   have h1:=q9 b hb
   have h2:=hmine b hb
   rw[Array.getElem?_eq_getElem h2]at h1⊢
   exact q11 _ _ h1
  have hKD:K (D+1)=none:=by
   cases h:K (D+1)with
   |none=>rfl
   |some o=>have:=hKlt _ _ h;omega
  have hKown:∀b,own E0 (H tr.length) b→K b=none:=fun b hb=>by
   have h2:=q12.off hb
   cases h:K b with
   |none=>rfl
   |some o=>rw[q3 _ _ h]at h2;cases h2
  have hkeep:∀b o,K2 b=some o→w'.heap[b]? =some o:=fun b o hb=>by
   cases hKb:K b with
   |none=>rw[hEm b ⟨hKb,.inl (by rw[hb];simp)⟩];exact q4.keep b o hb
   |some o'=>rw[q3 b o' hKb]at hb;cases hb;exact hk b _ hKb
  have hext:ExtOK β2 K2 (H tr.length) w' E0:=q12.move (fun b hb=>q12.off hb) (fun b hb=>hEm b ⟨hKown b hb,.inr (.inr (.inr hb))⟩) (fun i X tr' hi=>(hbaseK (hne _) i X tr' hi).trans q3) hkeep q14 q15
  refine⟨β2,G2,K2,E0,q1,q2,q3,q4.changeX hext hkeep q4.gk (fun i x kb h1 h2 h3=> ?_) (by rw[←q3.same];exact hka),?_,q6,q7,q8,fun b hb=> ?_,hext,q13⟩
  ·have hs:=q4.sep i x kb h1 h2 h3
   have hKb:K x.b=none:=by
    cases h:K x.b with
    |none=>rfl
    |some o=>have:=q3 _ _ h;rw[hs.1]at this;cases this
   have hx:=hEm _ ⟨hKb,.inr (.inr (.inl ⟨i,x,kb,h1,h2,h3,rfl⟩))⟩
   exact⟨hs.1,hx,(Array.getElem?_eq_some_iff.1 (hx.trans (Array.getElem?_eq_getElem hs.2))).1⟩
  ·rw[hEm _ ⟨hKD,.inr (.inl rfl)⟩];exact q5
  ·rw[q9 b hb,Array.getElem?_eq_getElem (hmine b hb)];simp
 let X:Ext:={
  I:=I,go:=fun tr=>go tr.length,base:=K,ys:=ys,keeps:=fun {l tr E w1} h=>by
           obtain⟨q0,β2,G2,K2,E0,wI,q1,q2,q3,q4,q5,q6,q7,q8,q9,q10,q11,-⟩:=h
           exact q11,
          stable:=fun {l tr E w1 w2} h h1 _ h3 h4=>by
           obtain⟨q0,β2,G2,K2,E0,wI,q1,q2,q3,q4,q5,q6,q7,q8,q9,q10,q11,q12,q13,q14,q15⟩:=h
           exact⟨q0,β2,G2,K2,E0,wI,q1,q2,q3,q4,q5,q6,q7,q8,q9,q10,h1,q12,q13,Nat.le_trans q14 h3,q15.trans h4⟩}
 have hY:YSpecL P X:=by
  rintro l tr E w1 us xs Kf hI hgo1 hpre hbase hKf hamb hdis hul hrel
  have hsame:K.amb=Kf.amb:=hbase.same
  have hl:l=D+1:=hI.1
  subst hl
  obtain⟨β2,G2,K2,E0,q1,q2,q3,hr,hR,q6,q7,q8,q9,q12,q13⟩:=move hI (fun b o hb=>hKf b o (hbase b o hb)) (by rw[hsame];exact hamb)
  have hgo2:go tr.length=true:=hgo1
  have hrkk:rk tr.length=rec .ready none:=by rw[hrk];simp[hgo2]
  rw[hrkk]at hR
  have hys:ys[tr.length]? =some (.tuple us):=by
   obtain⟨s,hs⟩:=hpre
   show X.ys[tr.length]? =_
   rw[←hs];simp
  obtain⟨hps,hbody⟩:=hround (D+1) tr.length us hys hgo2
  have hy:=run_yield (P:=P) (args:=xs) hR (by rw[hrec];simp;omega)
  rw[hrec]at hy
  refine⟨fn,_,assign,body,hy,roundIn_of_wpIn trivial ?_⟩
  have hKD:K (D+1)=none:=by
   cases h:K (D+1)with
   |none=>rfl
   |some o=>have:=hKlt _ _ h;omega
  have hKfR:Kf (D+1)=none:=by
   cases h:Kf (D+1)with
   |none=>rfl
   |some o=>exact absurd (hdis (D+1) (by rw[h];simp)) (q9 _ ⟨hKD,.inr (.inl rfl)⟩)
  obtain⟨K3,hK3⟩:∃K3:Kept,K3=⟨fun b=>if b=D+1 then some (.loop (rec .ready none))else match K2 b with|some o=>some o|none=>Kf b,K.amb⟩:=⟨_,rfl⟩
  have k3s:K3.amb=K.amb:=by rw[hK3]
  have k3R:K3 (D+1)=some (.loop (rec .ready none)):=by rw[hK3];simp
  have k3a:∀b o,K2 b=some o→K3 b=some o:=fun b o hb=>by
   rw[hK3]
   have:b≠D+1:=by intro e;rw[e,q6]at hb;cases hb
   simp[this,hb]
  have k3f:∀b o,Kf b=some o→K3 b=some o:=fun b o hb=>by
   have:b≠D+1:=by intro e;rw[e,hKfR]at hb;cases hb
   cases h2:K2 b with
   |none=>rw[hK3];simp[this,h2,hb]
   |some o2=>
    have h3:=hr.keep b o2 h2
    rw[hKf b o hb]at h3;cases h3
    exact k3a _ _ h2
  have k3n:∀b,K3 b=none→b≠D+1∧K2 b=none∧Kf b=none:=fun b hb=>by
   rw[hK3]at hb
   simp only at hb
   split at hb
   ·cases hb
   ·rename_i hne
    split at hb
    ·cases hb
    ·rename_i h2;exact⟨hne,h2,hb⟩
  have hga:G2.amb=K.amb:=hr.gk.same.trans q3.same.symm
  obtain⟨G3,hG3⟩:∃G3:Kept,G3=⟨fun b=>match G2 b with|some o=>some o|none=>Kf b,K.amb⟩:=⟨_,rfl⟩
  have g3s:G3.amb=K.amb:=by rw[hG3]
  have g3a:G2.le G3:=⟨fun b o hb=>by rw[hG3];simp[hb],hga.trans g3s.symm⟩
  have g3n:∀b o,G3 b=some o→G2 b=some o∨Kf b=some o:=fun b o hb=>by
   rw[hG3]at hb
   simp only at hb
   split at hb
   ·rename_i o2 h2;exact .inl (by rw[h2];exact hb)
   ·exact .inr hb
  have g3k:G3.le K3:=⟨fun b o hb=>(g3n b o hb).elim (fun h=>k3a b o (hr.gk b o h)) (k3f b o),g3s.trans k3s.symm⟩
  have g3f:Kf.le G3:=by
   refine⟨fun b o hb=> ?_,hsame.symm.trans g3s.symm⟩
   cases h2:G2 b with
   |none=>rw[hG3];simp[h2,hb]
   |some o2=>
    have h3:=hr.keep b o2 (hr.gk b o2 h2)
    rw[hKf b o hb]at h3;cases h3
    exact g3a.sub b _ h2
  have hrel':∀j,j<us.length→Rel G3 β2 (us.getD j .undef) (xs.getD j Go.undef):=fun j hj=>Rel.mono g3f (hrel j hj) (Homes.nil_le _)
  have hset:=setPs_rel (G:=G3) (β:=β2) ps.toList us xs.toList S.t a.tmps (by simpa using hps) (by simp;omega) r.size (fun j=>(r.tmp j).mono (q2.1.trans g3a) q1) (fun j hj=>by
   have:=hrel' j hj
   simpa[List.getD_eq_getElem?_getD,Array.getD_eq_getD_getElem?]using this)
  have hfold:(ps.zip xs).foldl (fun tmps (t,a)=>tmps.setIfInBounds t a) a.tmps=(ps.toList.zip xs.toList).foldl (fun tm (p,a)=>tm.setIfInBounds p a) a.tmps:=by
   rw[←Array.foldl_toList,Array.toList_zip]
  have rs:RS β2 G3 K3 ⟨setPs ps.toList us S.t,H tr.length,[]⟩ {tmps:=(ps.zip xs).foldl (fun tmps (t,a)=>tmps.setIfInBounds t a) a.tmps,defers:=[]} w1:=by
   have hkeep:∀b o,K3 b=some o→w1.heap[b]? =some o:=fun b o hb=>by
    rw[hK3]at hb
    simp only at hb
    split at hb
    ·rename_i e;cases hb;rw[e];exact hR
    ·split at hb
     ·rename_i o2 h2;cases hb;exact hr.keep _ _ h2
     ·exact hKf _ _ hb
   have hext:ExtOK β2 K3 (H tr.length) w1 E0:=q12.move (fun b hb=>by
    have h2:=q12.off hb
    have hKb:K b=none:=by
     cases h:K b with
     |none=>rfl
     |some o=>rw[q3 _ _ h]at h2;cases h2
    have hf:Kf b=none:=by
     cases h:Kf b with
     |none=>rfl
     |some o=>exact absurd (hdis b (by rw[h];simp)) (q9 _ ⟨hKb,.inr (.inr (.inr hb))⟩)
    rw[hK3]
    simp[q13 b hb,h2,hf]) (fun _ _=>rfl) (fun i Y tr' hi=>((hbaseK (hne _) i Y tr' hi).trans q3).trans ⟨k3a,q3.same.symm.trans k3s.symm⟩) hkeep (Nat.le_refl _) (Mild.refl _)
   refine⟨(hr.changeX hext hkeep ⟨fun b o hb=>k3a b o (hr.gk b o hb),hr.gk.same.trans (q3.same.symm.trans k3s.symm)⟩ (fun i x kb h1 h2 h3=> ?_) (by rw[k3s,hsame];exact hamb)).upG g3a g3k,by rw[hfold];exact hset.1,fun j=>by rw[hfold];exact hset.2 j,rfl,by simp⟩
   ·have hs:=hr.sep i x kb h1 h2 h3
    refine⟨?_,rfl,hs.2⟩
    have hKb:K x.b=none:=by
     cases h:K x.b with
     |none=>rfl
     |some o=>have:=q3 _ _ h;rw[hs.1]at this;cases this
    have hf:Kf x.b=none:=by
     cases h:Kf x.b with
     |none=>rfl
     |some o=>exact absurd (hdis x.b (by rw[h];simp)) (q9 _ ⟨hKb,.inr (.inr (.inl ⟨i,x,kb,h1,h2,h3,rfl⟩))⟩)
    rw[hK3]
    simp[q7 i x kb h1 h2 h3,hs.1,hf]
  have ha:=hbody β2 G3 K3 _ w1 rs
  refine wpIn_mono ha ?_
  rintro e a1 wA ⟨S1,β',G',K',l1,g1,k1,r1,rfl,hn1,hb1⟩
  have hRA:wA.heap[D+1]? =some (.loop (rec .ready none)):=r1.h.keep _ _ (k1 _ _ k3R)
  have hltA:=(Array.getElem?_eq_some_iff.1 hRA).1
  refine⟨_,run_beginRound hRA (by rw[hrec]),?_⟩
  obtain⟨bz,hbz⟩:∃bz,Obj.loop {rec .ready none with state:=.busy}=bz:=⟨_,rfl⟩
  rw[hbz]
  obtain⟨K4,hK4⟩:∃K4:Kept,K4=⟨fun b=>if b=D+1 then some bz else K' b,K'.amb⟩:=⟨_,rfl⟩
  have k4s:K4.amb=K'.amb:=by rw[hK4]
  have k4R:K4 (D+1)=some bz:=by rw[hK4];simp
  have k4a:∀b,b≠D+1→K4 b=K' b:=fun b hb=>by rw[hK4];simp[hb]
  have k'R:K' (D+1)=some (.loop (rec .ready none)):=k1 _ _ k3R
  have g'R:G' (D+1)=none:=by
   cases h:G' (D+1)with
   |none=>rfl
   |some o=>
    rcases g1.2 _ _ h with h2|h2
    ·rcases g3n _ _ h2 with h2|h2
     ·have:=hr.gk _ _ h2;rw[q6]at this;cases this
     ·rw[hKfR]at h2;cases h2
    ·rw[k3R]at h2;cases h2
  have hKle3:K.le K3:=⟨fun b o hb=>k3a b o (q3 b o hb),k3s.symm⟩
  have hKle':K.le K':=hKle3.trans k1
  have hKle4:K.le K4:=⟨fun b o hb=>by rw[k4a b (fun e=>by rw[e,hKD]at hb;cases hb)];exact hKle' b o hb,hKle'.same.trans k4s.symm⟩
  have r2:RS β' G' K4 S1 a1 (wA.putObj (D+1) bz):=by
   have hkeep:∀b o,K4 b=some o→(wA.putObj (D+1) bz).heap[b]? =some o:=fun b o hb=>by
    by_cases e:b=D+1
    ·subst e;rw[k4R]at hb;cases hb;exact World.putObj_heap_same hltA
    ·rw[k4a b e]at hb;rw[World.putObj_heap_other e];exact r1.h.keep _ _ hb
   obtain⟨E1,hE1⟩:=r1.h.extOK
   have hne1:∀b,own E1 S1.h b→b≠D+1:=fun b hb e=>by have:=hE1.off hb;rw[e,k'R]at this;cases this
   have hext:=hE1.move (K':=K4) (w':=wA.putObj (D+1) bz) (fun b hb=>by rw[k4a b (hne1 b hb)];exact hE1.off hb) (fun b hb=>World.putObj_heap_other (hne1 b hb)) (fun i Y tr' hi=>(hbaseK hn1 i Y tr' hi).trans hKle4) hkeep (by simp) (Mild.putObj _ _ _)
   refine⟨r1.h.changeX hext hkeep ⟨fun b o hb=> ?_,r1.h.gk.same.trans k4s.symm⟩ (fun i x kb h1 h2 h3=> ?_) (by rw[k4s];exact r1.h.amb.mild (Mild.putObj _ _ _)),r1.size,r1.tmp,r1.marks,r1.mark⟩
   ·have e:b≠D+1:=by intro e;rw[e,g'R]at hb;cases hb
    rw[k4a b e];exact r1.h.gk _ _ hb
   ·have hs:=r1.h.sep i x kb h1 h2 h3
    have e:x.b≠D+1:=by intro e;rw[e,k'R]at hs;cases hs.1
    exact⟨by rw[k4a _ e];exact hs.1,World.putObj_heap_other e,by simpa using hs.2⟩
  refine wpIn_mono (hb1 β' G' K4 a1 _ r2) ?_
  rintro e2 a2 wC ⟨S2,β4,G4,K5,l4,g4,k4,r4,he2,hS2⟩
  have hRC:wC.heap[D+1]? =some bz:=r4.h.keep _ _ (k4 _ _ k4R)
  have hltC:=(Array.getElem?_eq_some_iff.1 hRC).1
  have k5f:∀b o,b≠D+1→K3 b=some o→K5 b=some o:=fun b o hb h=>k4 _ _ (by rw[k4a b hb];exact k1 _ _ h)
  have hlb:β2.length=S.h.length:=by rw[hr.len,hlen]
  have low24:β2.le β4:=by
   have:=Homes.low.trans l1 l4
   unfold Homes.low at this
   rwa[List.take_of_length_le (by simp only;omega)]at this
  rw[←hbz]at hRC
  have fin:∀(jump:Option Code),(jump=none∧go (tr.length+1)=true∨jump=some jc∧go (tr.length+1)=false)→
    ∃v w',(Instr.endRound (D+1) jump).run P wC=.ok v w'∧∃E',Ending.returned v=.returned (.bool (X.go (tr++ [.tuple us])))∧I (D+1) (tr++ [.tuple us]) E' w'∧(∀b o,Kf b=some o→w'.heap[b]? =some o)∧(∀b,E' b≠none→Kf b=none)∧Kf.amb.ok w':=fun jump hjump=>by
   refine⟨_,_,run_endRound jump hRC,?_⟩
   obtain⟨w4,hw4⟩:∃w4,wC.putObj (D+1) (.loop {{rec .ready none with state:=.busy} with state:=if jump.isNone then .ready else .done,pending:=jump})=w4:=⟨_,rfl⟩
   have h4R:w4.heap[D+1]? =some (.loop (rk (tr.length+1))):=by
    rw[←hw4,World.putObj_heap_same hltC,hrk,hrec]
    rcases hjump with⟨rfl,e⟩|⟨rfl,e⟩<;>simp[e]
   have h4o:∀b,b≠D+1→w4.heap[b]? =wC.heap[b]? :=fun b hb=>by rw[←hw4];exact World.putObj_heap_other hb
   have h4s:w4.heap.size=wC.heap.size:=by rw[←hw4];simp
   have h4m:Mild wC w4:=by rw[←hw4];exact Mild.putObj _ _ _
   rw[hw4]
   have hlen1:(tr++ [V.tuple us]).length=tr.length+1:=by simp
   obtain⟨K6,hK6⟩:∃K6:Kept,K6=⟨fun b=>open Classical in if b=D+1 then none else if K2 b=none∧Kf b≠none then none else K5 b,K5.amb⟩:=⟨_,rfl⟩
   have k6m:K6.amb=K5.amb:=by rw[hK6]
   have kall:K.amb=K5.amb:=k3s.symm.trans (k1.same.trans (k4s.symm.trans k4.same))
   have k6R:K6 (D+1)=none:=by rw[hK6];simp
   have k6a:∀b,b≠D+1→¬(K2 b=none∧Kf b≠none)→K6 b=K5 b:=fun b h1 h2=>by rw[hK6];simp only[if_neg h1,if_neg h2]
   have k6s:∀b o,K6 b=some o→b≠D+1∧¬(K2 b=none∧Kf b≠none)∧K5 b=some o:=fun b o h=>by
    rw[hK6]at h
    simp only at h
    split at h
    ·cases h
    ·rename_i h1
     split at h
     ·cases h
     ·rename_i h2;exact⟨h1,h2,h⟩
   have g4b:∀b o,G2 b=some o→b≠D+1∧¬(K2 b=none∧Kf b≠none):=fun b o h=>by
    have h2:=hr.gk _ _ h
    exact⟨fun e=>(by rw[e,q6]at h2;cases h2),fun hc=>by rw[hc.1]at h2;cases h2⟩
   have kf4:∀b o,Kf b=some o→b≠D+1∧K5 b=some o:=fun b o hb=>by
    have e:b≠D+1:=fun e=>by rw[e,hKfR]at hb;cases hb
    exact⟨e,k5f b o e (k3f b o hb)⟩
   have hkeep6:∀b o,K6 b=some o→w4.heap[b]? =some o:=fun b o hb=>by
    obtain⟨e,_,h5⟩:=k6s b o hb
    rw[h4o b e];exact r4.h.keep _ _ h5
   obtain⟨E4,hE4⟩:=r4.h.extOK
   rw[hS2]at hE4
   have k5R:K5 (D+1)=some bz:=k4 _ _ k4R
   have hne4:∀b,own E4 (H (tr.length+1)) b→b≠D+1:=fun b hb e=>by have:=hE4.off hb;rw[e,k5R]at this;cases this
   have hKle6:K.le K6:=by
    refine⟨fun b o hb=> ?_,kall.trans k6m.symm⟩
    have hb2:=q3 _ _ hb
    have e:b≠D+1:=fun e=>by rw[e,q6]at hb2;cases hb2
    rw[k6a b e (fun h=>by rw[h.1]at hb2;cases hb2)]
    exact k5f b o e (k3a _ _ hb2)
   have hext6:ExtOK β4 K6 (H (tr.length+1)) w4 E4:=hE4.move (fun b hb=>by
    cases h6:K6 b with
    |none=>rfl
    |some o=>have:=(k6s _ _ h6).2.2;rw[hE4.off hb]at this;cases this) (fun b hb=>h4o b (hne4 b hb)) (fun i Y tr' hi=>(hbaseK (hne _) i Y tr' hi).trans hKle6) hkeep6 (by rw[h4s];exact Nat.le_refl _) h4m
   have hr4:RH β4 G2 K6 (H (tr.length+1)) w4:=by
    have hr4h0:=r4.h
    rw[hS2]at hr4h0
    have hr4h:RH β4 G2 K5 (H (tr.length+1)) wC:=hr4h0.freeG (hfree _) ⟨fun b o hb=>k5f b o (g4b b o hb).1 (k3a _ _ (hr.gk _ _ hb)),hga.trans kall⟩
    refine hr4h.changeX hext6 hkeep6 ⟨fun b o hb=> ?_,hr4h.gk.same.trans k6m.symm⟩ (fun i x kb h1 h2 h3=> ?_) (by rw[k6m];exact r4.h.amb.mild h4m)
    ·obtain⟨e,h5⟩:=g4b b o hb
     rw[k6a b e h5];exact hr4h.gk _ _ hb
    ·have hs:=hr4h.sep i x kb h1 h2 h3
     have e:x.b≠D+1:=fun e=>by rw[e,k4 _ _ k4R]at hs;cases hs.1
     refine⟨?_,h4o _ e,by rw[h4s];exact hs.2⟩
     cases h6:K6 x.b with
     |none=>rfl
     |some o=>have:=(k6s _ _ h6).2.2;rw[hs.1]at this;cases this
   refine⟨⟨fun b=>open Classical in if mine K6 β4 E4 (tr.length+1) b then w4.heap[b]? else none,K.amb⟩,?_,⟨rfl,β4,G2,K6,E4,w4,q1.trans low24,q2,hKle6,?_,?_,k6R,?_,?_,?_,?_,?_,by rw[hlen1];exact hext6,by rw[hlen1];exact hne4,Nat.le_refl _,Mild.refl _⟩,?_,?_,by rw[←hsame,kall];exact r4.h.amb.mild h4m⟩
   ·show Ending.returned (Value.bool jump.isNone)=.returned (.bool (go (tr++ [V.tuple us]).length))
    rw[hlen1]
    rcases hjump with⟨rfl,e⟩|⟨rfl,e⟩<;>rw[e]<;>rfl
   ·rw[hlen1];exact hr4
   ·rw[hlen1];exact h4R
   ·rw[hlen1]
    intro i x kb h1 h2 h3 e
    have hs:=r4.h.sep i x kb (by rw[hS2];exact h1) h2 h3
    rw[e,k4 _ _ k4R]at hs;cases hs.1
   ·refine⟨?_,?_⟩
    ·rw[k6a D (by omega) (fun h=>by rw[h.1]at q8;cases q8.1)]
     exact k5f D _ (by omega) (k3a _ _ q8.1)
    ·exact q8.2
   ·rw[hlen1];intro b hb;simp only[if_pos hb]
   ·rw[hlen1];intro b hb;simp only[if_neg hb]
   ·intro b o hb
    simp only at hb
    split at hb
    ·exact hb
    ·cases hb
   ·intro b o hb
    obtain⟨e,h5⟩:=kf4 b o hb
    rw[h4o b e];exact r4.h.keep _ _ h5
   ·intro b hb
    simp only at hb
    split at hb
    ·rename_i hm
     cases hf:Kf b with
     |none=>rfl
     |some o=>
      exfalso
      obtain⟨e,h5⟩:=kf4 b o hf
      rcases hm.2 with h|h|⟨i,x,kb,h1,h2,h3,rfl⟩|h
      ·cases h6:K6 b with
       |none=>exact h h6
       |some o6=>
        have h7:=(k6s _ _ h6).2.1
        have:K2 b≠none:=fun h8=>h7 ⟨h8,by rw[hf];simp⟩
        exact q9 b ⟨hm.1,.inl this⟩ (hdis b (by rw[hf];simp))
      ·exact e h
      ·have hs:=r4.h.sep i x kb (by rw[hS2];exact h1) h2 h3
       rw[h5]at hs;cases hs.1
      ·have:=hE4.off h
       rw[h5]at this;cases this
    ·exact absurd rfl hb
  cases hgk:go (tr.length+1)with
  |true=>
   rw[hgk]at he2
   simp only[cond_true]at he2
   subst he2
   exact fin none (.inl ⟨rfl,hgk⟩)
  |false=>
   rw[hgk]at he2
   simp only[cond_false]at he2
   subst he2
   unfold exitCode at hj
   split at hj
   ·cases hj;exact fin (some .ret) (.inr ⟨rfl,hgk⟩)
   ·cases hj;exact fin (some (.exit _)) (.inr ⟨rfl,hgk⟩)
   ·cases hj
 obtain⟨v,hcall⟩:=hit X rfl hY hgo
 have hKD0:∀b,D≤b→K b=none:=fun b hb=>by
  cases h:K b with
  |none=>rfl
  |some o=>have:=hKlt _ _ h;omega
 obtain⟨K0,hK0⟩:∃K0:Kept,K0=⟨fun b=>if b=D then some (.deferred (some []))else K b,K.amb⟩:=⟨_,rfl⟩
 have k0s:K0.amb=K.amb:=by rw[hK0]
 have hWm:Mild w W1:=by rw[←hW1];exact(Mild.alloc _ _).trans (Mild.alloc _ _)
 have k0a:∀b,b≠D→K0 b=K b:=fun b hb=>by rw[hK0];simp[hb]
 have k0D:K0 D=some (.deferred (some [])):=by rw[hK0];simp
 have hkeep0:∀b o,K0 b=some o→W1.heap[b]? =some o:=fun b o hb=>by
  by_cases e:b=D
  ·subst e;rw[k0D]at hb;cases hb;exact hK1
  ·rw[k0a b e]at hb;rw[hold b (hKlt _ _ hb)];exact r.h.keep _ _ hb
 have hESlt:∀b,own ES S.h b→b<D:=fun b hb=>by rw[←hD];exact hES.lt hb
 have hKK0:K.le K0:=⟨fun b o hb=>by rw[k0a b (by have:=hKlt _ _ hb;omega)];exact hb,k0s.symm⟩
 have hext0:ExtOK β K0 S.h W1 ES:=hES.move (fun b hb=>by rw[k0a b (by have:=hESlt b hb;omega)];exact hES.off hb) (fun b hb=>hold b (hESlt b hb)) (fun i Y tr' hi=>(hbaseK (fun _ _ tr' h=>⟨tr',h⟩) i Y tr' hi).trans hKK0) hkeep0 (by rw[hsz,hD];omega) hWm
 have hr1:RH β G K0 (H 0) W1:=by
  rw[hH0]
  refine r.h.changeX hext0 hkeep0 ⟨fun b o hb=> ?_,r.h.gk.same.trans k0s.symm⟩ (fun i x k h1 h2 h3=> ?_) (by rw[k0s];exact r.h.amb.mild hWm)
  ·have hb':=r.h.gk _ _ hb
   have:=hKlt _ _ hb'
   rw[k0a b (by omega)];exact hb'
  ·have hs:=r.h.sep i x k h1 h2 h3
   rw[hD]at hs
   exact⟨by rw[k0a _ (by omega)];exact hs.1,hold _ hs.2,by rw[hsz];omega⟩
 have hI0:I (D+1) [] ⟨fun b=>open Classical in if mine K0 β ES 0 b then W1.heap[b]? else none,K.amb⟩ W1:=by
  refine⟨rfl,β,G,K0,ES,W1,Homes.le_refl _,G.ext_refl K,hKK0,hr1,?_,?_,fun i x kb h1 h2 h3=> ?_,⟨k0D,?_⟩,fun b hb=>by simp only[List.length_nil]at hb⊢;simp only[if_pos hb],fun b hb=>by simp only[List.length_nil]at hb⊢;simp only[if_neg hb],fun b o hb=> ?_,by rw[List.length_nil,hH0];exact hext0,fun b hb=>by rw[List.length_nil,hH0]at hb;have:=hESlt b hb;omega,Nat.le_refl _,Mild.refl _⟩
  ·rw[hL1,hrk];simp[hgo]
  ·rw[k0a _ (by omega)];exact hKD0 _ (by omega)
  ·simp only[List.length_nil,hH0]at h1
   have:=(r.h.sep i x kb h1 h2 h3).2
   omega
  ·cases h:G D with
   |none=>rfl
   |some o=>have:=r.h.gk _ _ h;rw[hKD0 D (Nat.le_refl _)]at this;cases this
  ·simp only at hb
   split at hb
   ·exact hb
   ·cases hb
 refine⟨D+1,[{target:=.collected D,args:= #[]}],W1,{target:=.fn (.func f) c',args:= #[.func (.yield (D+1)) #[] #[]]},W1,f, #[.func (.yield (D+1)) #[] #[]]++c',W1,?_,?_,fun _ _=>trivial,?_,fun h=>by simp[wide,Fence.wide]at h,?_⟩
 ·rw[←hW1,hrec,←hD];exact run_enterLoop_outer _ _ _ _ _
 ·simp only[resolve,hfe]
  simp[go_sem]
 ·simp[invoke,go_sem,hcf]
 refine(callsIn_wide (n:=0-1)).2 ((hcall.2 [.ext (D+1)] G K W1 _ ⟨rfl,?_,?_,?_,?_,r.h.gk,r.h.amb.mild hWm,?_⟩ ?_ ?_).mono ?_)
 ·intro i k hi
  match i,hi with
  |0,hi=>cases hi;trivial
  |i+1,hi=>simp at hi
 ·intro i j x y k k' hi hj _ _ hbi
  match i,hbi with
  |0,hbi=>cases hbi
  |i+1,hbi=>simp at hbi
 ·intro i x k hi _ hbi
  match i,hbi with
  |0,hbi=>cases hbi
  |i+1,hbi=>simp at hbi
 ·intro b o hb
  rw[hold b (hKlt _ _ hb)];exact r.h.keep _ _ hb
 ·intro i Y tr hi
  match i,hi with
  |0,hi=>
   cases hi
   refine⟨D+1,_,rfl,hI0,K.le_refl,fun b hb=>⟨?_,fun j x k hj _ hbj=> ?_⟩⟩
   ·simp only at hb
    split at hb
    ·rename_i hm;exact hm.1
    ·exact absurd rfl hb
   ·match j,hbj with
    |0,hbj=>cases hbj
    |j+1,hbj=>simp at hbj
  |i+1,hi=>simp at hi
 ·simp[hcl];omega
 ·intro j hj
  cases j with
  |zero=>
   show Rel G [Hm.ext (D+1)] (.yld 0) _
   have e:(#[Value.func (.yield (D+1)) #[] #[]]++c').getD 0 Go.undef=.func (.yield (D+1)) #[] #[]:=by
    rw[agetD_append_left (by simp)];simp
   rw[e];exact .yld rfl
  |succ j=>
   have hj':j<caps.length:=by simpa using hj
   have h1:Rel G [] (caps.getD j .undef) (c'.getD j Go.undef):=by simpa using(hcc j hj').take (underL_getD hcaps j)
   have e:(#[Value.func (.yield (D+1)) #[] #[]]++c').getD (j+1) Go.undef=c'.getD j Go.undef:=by
    rw[agetD_append_right (by simp)];simp
   rw[e]
   exact h1.up _
 rintro e w' ⟨x,β',G',K',rfl,b1,gx,kx,rh,-⟩
 obtain⟨l,E,hl,hI,-,hE⟩:=rh.ext 0 X _ rfl
 obtain⟨β2,G2,K2,E0,q1,q2,q3,hr,hR,q6,q7,q8,q9,q12,q13⟩:=move hI (fun b o hb=>rh.keep b o (kx b o hb)) (by rw[kx.same];exact rh.amb)
 have hfl:(feed X.go [] ys).length=stopK go 0 ys.length:=feed_length go ys []
 rw[hfl]at hr hR q7 q12 q13
 generalize stopK go 0 ys.length=kk at hr hR q7 q12 q13 hQ
 have hltR:=(Array.getElem?_eq_some_iff.1 hR).1
 have hbusy:(rk kk).state≠ .busy:=by rw[hrk,hrec];simp only;cases go kk<;>simp
 have hpend:(rk kk).pending=bif go kk then none else some jc:=by rw[hrk,hrec];simp only;cases go kk<;>simp
 obtain⟨w4,hw4⟩:∃w4,w'.putObj (D+1) (.loop {rk kk with state:=.exhausted})=w4:=⟨_,rfl⟩
 have h4o:∀b,b≠D+1→w4.heap[b]? =w'.heap[b]? :=fun b hb=>by rw[←hw4];exact World.putObj_heap_other hb
 have h4s:w4.heap.size=w'.heap.size:=by rw[←hw4];simp
 have h4m:Mild w' w4:=by rw[←hw4];exact Mild.putObj _ _ _
 refine⟨(rk kk).pending,w4,by rw[←hw4];exact run_endLoop hR hbusy,?_⟩
 obtain⟨K3,hK3⟩:∃K3:Kept,K3=⟨fun b=>if b=D then none else K2 b,K2.amb⟩:=⟨_,rfl⟩
 have k3s:K3.amb=K2.amb:=by rw[hK3]
 have k3D:K3 D=none:=by rw[hK3];simp
 have k3a:∀b,b≠D→K3 b=K2 b:=fun b hb=>by rw[hK3];simp[hb]
 have g2D:G2 D=none:=q8.2
 have hD4:w4.heap[D]? =some (.deferred (some [])):=by rw[h4o D (by omega)];exact hr.keep _ _ q8.1
 have hkeep3:∀b o,K3 b=some o→w4.heap[b]? =some o:=fun b o hb=>by
  have e:b≠D:=fun e=>by rw[e,k3D]at hb;cases hb
  rw[k3a b e]at hb
  rw[h4o b (fun e=>by rw[e,q6]at hb;cases hb)];exact hr.keep _ _ hb
 have hownD:∀b,own E0 (H kk) b→b≠D:=fun b hb e=>by have:=q12.off hb;rw[e,q8.1]at this;cases this
 have hKK3:K.le K3:=⟨fun b o hb=>by rw[k3a b (by have:=hKlt _ _ hb;omega)];exact q3 _ _ hb,q3.same.trans k3s.symm⟩
 have hext3:ExtOK β2 K3 (H kk) w4 E0:=q12.move (fun b hb=>by rw[k3a b (hownD b hb)];exact q12.off hb) (fun b hb=>h4o b (q13 b hb)) (fun i Y tr' hi=>(hbaseK (hne _) i Y tr' hi).trans hKK3) hkeep3 (by rw[h4s];exact Nat.le_refl _) h4m
 have hr3:RH β2 G2 K3 (H kk) w4:=by
  refine hr.changeX hext3 hkeep3 ⟨fun b o hb=> ?_,hr.gk.same.trans k3s.symm⟩ (fun i x k h1 h2 h3=> ?_) (by rw[k3s];exact hr.amb.mild h4m)
  ·have e:b≠D:=fun e=>by rw[e,g2D]at hb;cases hb
   rw[k3a b e];exact hr.gk _ _ hb
  ·have hs:=hr.sep i x k h1 h2 h3
   have e:x.b≠D:=fun e=>by rw[e,q8.1]at hs;cases hs.1
   exact⟨by rw[k3a _ e];exact hs.1,h4o _ (q7 i x k h1 h2 h3),by rw[h4s];exact hs.2⟩
 have hr5:RH (β2++ [Hm.lie ⟨D,0,0⟩]) G2 K3 (H kk++ [.obj (.deferred (some []))]) w4:=by
  refine hr3.snoc hext3 k3D (Array.getElem?_eq_some_iff.1 hD4).1 (fun i y k h1 h2 h3 e=> ?_) hownD hD4 rfl
  have hs:=hr.sep i y k h1 h2 h3
  have e':y.b=D:=e
  rw[e',q8.1]at hs;cases hs.1
 have hlb:β2.length=S.h.length:=by rw[hr.len,hlen]
 have post:Qw (bif go kk then .normal else jx) {a with defers:=[{target:=.collected D,args:= #[]}]++a.defers} w4:=by
  exact hQ β2 G2 K3 D w4 q1 hlb q2 hKK3 hr5
 rw[hpend]
 cases hgk:go kk with
 |true=>rw[hgk]at post;exact post
 |false=>
  rw[hgk]at post
  simp only[cond_false]at post⊢
  unfold exitCode at hj
  split at hj
  ·cases hj;exact wpIn_ret post
  ·cases hj;exact wpIn_exit post
  ·cases hj
section
variable {P:Program} {ro:Env} {ops:Array Oper} {S:St} {Q:Exit→St→Prop}
theorem AOps.yieldL{i:Nat}{is:List Nat}{o:Oper}{fo:Operand}{args:Array Operand}{ts:Array TypeId}{q:Nat}{X:Ext}{tr us:List V}(hi:ops[i]? =some o)(hw:wantedV ops S o=some true)
  (ho:o.op=.call {callee:=.value fo,args:=args,argTypes:=ts}) (hf:S.eval fo=.yld q) (hq:S.h[q]? =some (.ext X tr)) (hul:us.length=args.size) (hus:∀j,j<us.length→Snap S.h ((args.toList.map S.eval).getD j .undef) (us.getD j .undef)) (hgo:X.go tr=true) (hpre:tr++ [.tuple us]<+:X.ys) (hY:YSpecL P X)
  (hone:((S.h.set q .gone).any isExt)=false) (hd:∀j,j∈S.d→∃x,S.h[j]? =some (.obj x))
  (rest:AOps P ro ops is (St.put {S with h:=S.h.set q (.ext X (tr++ [.tuple us]))} o.dst (.bool (X.go (tr++ [.tuple us])))) Q):AOps P ro ops (i::is) S Q:=fun β G K a w r=>by
 simp only[wpOpsIn,hi,wanted_ok r hw,if_true,Oper.wpIn]
 refine⟨fun _ _=>trivial,?_⟩
 have hfv:=r.eval fo
 rw[hf]at hfv
 obtain⟨l,E,hl,hI,hbs,hE⟩:=r.h.ext q X tr hq
 have hfe:a.eval fo=.func (.yield l) #[] #[]:=by
  generalize a.eval fo=x at hfv
  cases hfv with
  |yld h=>rw[hl]at h;cases h;rfl
 let Kf:Kept:=⟨fun b=>match K b with
  |some o=>some o
  |none=>(open Classical in if∃(j:Nat) (x:Home) (k:Blk),S.h[j]? =some k∧k≠ .gone∧β[j]? =some (.lie x)∧x.b=b then w.heap[b]? else none),K.amb⟩
 have kf1:∀b o,Kf b=some o→w.heap[b]? =some o:=fun b o hb=>by
  simp only[Kf]at hb
  split at hb
  ·rename_i o' hK;cases hb;exact r.h.keep _ _ hK
  ·split at hb
   ·exact hb
   ·cases hb
 have kf2:∀b,Kf b≠none→E b=none:=fun b hb=>by
  cases hEb:E b with
  |none=>rfl
  |some o'=>
   exfalso
   have hE':=hE b (by rw[hEb];simp)
   apply hb
   simp only[Kf,hE'.1]
   rw[if_neg]
   rintro⟨j,x,k,q1,q2,q3,q4⟩
   exact hE'.2 j x k q1 q2 q3 q4
 have kfh:∀(j:Nat) (x:Home) (k:Blk),S.h[j]? =some k→k≠ .gone→β[j]? =some (.lie x)→Kf x.b=w.heap[x.b]? :=fun j x k q1 q2 q3=>by
  simp only[Kf,(r.h.sep j x k q1 q2 q3).1]
  rw[if_pos ⟨j,x,k,q1,q2,q3,rfl⟩]
 have hlen:us.length=(args.map a.eval).size:=by rw[hul];simp
 have hall:(allOf β G S.h w).le Kf:=by
  refine⟨fun b o hb=> ?_,r.h.gk.same⟩
  change allF β G S.h w b=some o at hb
  unfold allF at hb
  split at hb
  ·rename_i o' hG;cases hb;simp only[Kf,r.h.gk _ _ hG]
  ·split at hb
   ·rename_i hex
    obtain⟨j,x,k,q1,q2,q3,rfl⟩:=hex
    rw[kfh j x k q1 q2 q3];exact hb
   ·cases hb
 have hrel:∀j,j<us.length→Rel Kf [] (us.getD j .undef) ((args.map a.eval).getD j Go.undef):=fun j hj=>by
  have hj':j<args.size:=by rw[hlen]at hj;simpa using hj
  refine Rel.mono hall (snap_rel r.h (hus j hj) ?_) (Homes.le_refl _)
  simpa[List.getD_eq_getElem?_getD,Array.getD_eq_getD_getElem?,hj']using r.eval args[j]
 obtain⟨fn,tmps,assign,body,hy1,hy2⟩:=hY l tr E w us (args.map a.eval) Kf hI hgo hpre ⟨fun b o hb=>by simp only[Kf,hbs b o hb],hbs.same⟩ kf1 r.h.amb kf2 hlen hrel
 have hsem:(o.semAt ro.ro a.eval).run P w=.ok (.round l fn tmps assign body) w:=by
  rw[Oper.semAt_eq _ _ _ (by rw[ho];simp)]
  simp only[execOp,ho,resolve,hfe,Deferred.ofValue,Sem.run_bind,Sem.run_pure,Result.andThen_ok,invoke]
  simpa using hy1
 rw[hsem]
 refine⟨fun h=>by simp[wide,Fence.wide]at h,?_⟩
 have hy3:RoundIn (wide ro) (0-1) P l fn tmps assign body w _:=hy2
 refine hy3.mono ?_
 rintro e w' ⟨E',rfl,h1,h2,h3,h4⟩
 have hql:q<S.h.length:=(List.getElem?_eq_some_iff.1 hq).1
 have look:∀ {j:Nat} {k:Blk},(S.h.set q (.ext X (tr++ [.tuple us])))[j]? =some k→(j=q∧k=.ext X (tr++ [.tuple us]))∨(j≠q∧S.h[j]? =some k):=fun {j k} hj=>by
  by_cases e:j=q
  ·subst e;rw[List.getElem?_set_self hql]at hj;cases hj;exact .inl ⟨rfl,rfl⟩
  ·rw[List.getElem?_set_ne (Ne.symm e)]at hj;exact .inr ⟨e,hj⟩
 have r1:RS β G K {S with h:=S.h.set q (.ext X (tr++ [.tuple us]))} a w':=by
  refine⟨⟨by simp[r.h.len],fun j k hj=> ?_,fun p s x y k k' hp hs gp gs bp bs e=> ?_,fun j x k hj hg hb=> ?_,fun b o hb=>h2 b o (by simp only[Kf,hb]),r.h.gk,h4,fun j Y tr' hj=> ?_⟩,r.size,r.tmp,r.marks,fun j hj=> ?_⟩
  ·rcases look hj with⟨rfl,rfl⟩|⟨hne,hj'⟩
   ·rw[hl];trivial
   ·by_cases hg:k=.gone
    ·subst hg;cases(β[j]?.getD .void)<;>trivial
    refine(r.h.blk j k hj').mono G.le_refl (Homes.le_refl _) fun y hy=> ?_
    have hby:β[j]? =some (.lie y):=by
     cases hb:β[j]? with
     |none=>simp[hb]at hy
     |some z=>simp[hb]at hy;rw[hy]
    have e1:=kfh j y k hj' hg hby
    have hlt:=(r.h.sep j y k hj' hg hby).2
    rw[h2 y.b w.heap[y.b] (by rw[e1];exact Array.getElem?_eq_getElem hlt),Array.getElem?_eq_getElem hlt]
  ·rcases look hp with⟨rfl,rfl⟩|⟨np,hp'⟩
   ·rw[hl]at bp;cases bp
   ·rcases look hs with⟨rfl,rfl⟩|⟨ns,hs'⟩
    ·rw[hl]at bs;cases bs
    ·exact r.h.inj p s x y k k' hp' hs' gp gs bp bs e
  ·rcases look hj with⟨rfl,rfl⟩|⟨hne,hj'⟩
   ·rw[hl]at hb;cases hb
   ·have:=r.h.sep j x k hj' hg hb
    have e1:=kfh j x k hj' hg hb
    rw[Array.getElem?_eq_getElem this.2]at e1
    exact⟨this.1,(Array.getElem?_eq_some_iff.1 (h2 _ _ e1)).1⟩
  ·rcases look hj with⟨rfl,e⟩|⟨hne,hj'⟩
   ·cases e
    refine⟨l,E',hl,h1,hbs,fun b hb=>⟨?_,fun s y k hs gs bs e=> ?_⟩⟩
    ·have:=h3 b hb
     simp only[Kf]at this
     cases hK:K b with
     |none=>rfl
     |some o'=>rw[hK]at this;cases this
    ·rcases look hs with⟨rfl,rfl⟩|⟨ns,hs'⟩
     ·rw[hl]at bs;cases bs
     ·have e1:=kfh s y k hs' gs bs
      have hlt:=(r.h.sep s y k hs' gs bs).2
      rw[e]at e1 hlt
      rw[h3 b hb,Array.getElem?_eq_getElem hlt]at e1;cases e1
   ·exfalso
    have hmem:(S.h.set q .gone)[j]? =some (.ext Y tr'):=by rw[List.getElem?_set_ne (Ne.symm hne)];exact hj'
    have:=List.any_eq_false.1 hone _ (List.mem_of_getElem? hmem)
    simp[isExt]at this
  ·obtain⟨x,q1,q2,q3⟩:=r.mark j hj
   have hne:q≠S.d.getD j 0:=by intro e;rw[←e,hq]at q3;cases q3
   refine⟨x,q1,q2,?_⟩
   show(S.h.set q _)[S.d.getD j 0]? =_
   rw[List.getElem?_set_ne hne];exact q3
 exact rest β G K _ w' (r1.put (.bool _) o.dst)
end
end Ab
