/-
  Part of the proof of the Head laws. Conditions: those that stand in each theorem.
-/
import Derived.MapKept
import Derived.Maps.RangeRun
import Derived.Laws.CopyRow
import Derived.Laws.IdiomCopy
import Derived.Lib.OthersKept
import Derived.Test.YtemgodefhcbleaaGreatB04
set_option linter.unusedSimpArgs false
set_option linter.unusedVariables false
namespace Ab
open Go
inductive DT where
 |done (e:Exit) (S:St)
 |at(K:List Item) (S:St)
 |need (b:Bool) (t:DT)
 |scal (p:Nat->Bool) (t:DT)
 |br (b:Bool) (t f:DT)
 |lit (b:Bool) (t:DT)
 |call (f:FuncId) (us:List V) (v:V) (ob:Bool) (t:DT)
 |own (j:Nat) (e:TypeId) (w:Nat) (t:DT)
 |frz (i:Nat) (b:Bool) (t:DT)
 |front (cs:List (Nat × FuncId × List V × V)) (ov:List (Nat × Bool)) (ob:Bool) (t:DT)
 |vle (j:Nat) (v v':V) (t:DT)
 |telb (i w n:Nat) (c c':Nat->Nat->V) (t:DT)
 |wait (k:Nat) (t:DT)
 |cas (b:Bool) (t f:DT)
 |hcall (f:FuncId) (us:List V) (v:V) (h h':List Blk) (t:DT)
 |yld (X:Ext) (tr us us':List V) (t:DT)
 |over (c:Code) (S:St) (x:Exit) (S':St) (t:DT)
 |sem (o:Op) (us:List (Operand × V)) (h:List Blk) (v:V) (h':List Blk) (t:DT)
 |semn (o:Op) (us:List (Operand × V)) (h:List Blk) (n:Nat) (vs:Nat->V) (hs:Nat->List Blk) (f:Nat->DT)
 |never
 |drop (T:St) (t:DT)
 |telc (i:Nat) (cs cs':List V) (t:DT)
def startOf:List Item->List Item
 |.inLoop c::K=>.code c::.inLoop c::K
 |K=>K
def DT.holds(P:Program)(ro:Env)(Q:Exit->St->Prop)(L:List Item->St->Prop):DT->Prop
 |.done e S=>Q e S
 |.at K S=>L (startOf K) S
 |.need b t=>b=true/\t.holds P ro Q L
 |.scal p t=>(∀r,p r=true)/\t.holds P ro Q L
 |.br b t f=>(b=true->t.holds P ro Q L)/\(b=false->f.holds P ro Q L)
 |.lit _ t=>t.holds P ro Q L
 |.call f us v ob t=>ob=true/\PCalls P f us (·=v)/\t.holds P ro Q L
 |.own _ _ _ t=>t.holds P ro Q L
 |.frz _ b t=>b=true/\t.holds P ro Q L
 |.front cs _ ob t=>ob=true/\(∀c∈cs,PCalls P c.2.1 c.2.2.1 (·=c.2.2.2))/\t.holds P ro Q L
 |.vle _ v v' t=>VLe v v'/\t.holds P ro Q L
 |.telb _ w n c c' t=>(∀r j,r<n->j<w->VLe (c r j) (c' r j))/\t.holds P ro Q L
 |.wait _ t=>t.holds P ro Q L
 |.cas b t f=>(b=true->t.holds P ro Q L)/\(b=false->f.holds P ro Q L)
 |.hcall f us v h h' t=>HCalls P f us v h h'/\t.holds P ro Q L
 |.yld X tr us us' t=>X.go tr=true/\YSpec P X/\tr++ [.tuple us']<+:X.ys/\(∀j,j<us'.length->VLe (us.getD j .undef) (us'.getD j .undef))/\t.holds P ro Q L
 |.over c S x S' t=>AWP P ro c S (fun e T=>e=x/\T=S')/\t.holds P ro Q L
 |.sem o us h v h' t=>SemOK P o us h v h'/\t.holds P ro Q L
 |.semn o us h n vs hs f=>SemAny P o us h n vs hs/\∀j,j<n->(f j).holds P ro Q L
 |.never=>False
 |.drop _ t=>t.holds P ro Q L
 |.telc _ cs cs' t=>cs'.length=cs.length/\(∀j,j<cs.length->VLe (cs.getD j .undef) (cs'.getD j .undef))/\t.holds P ro Q L
mutual
def snapV(h:List Blk):Nat->V->Option (Bool × V)
 |0,_=>none
 |d+1,v=>
  if v.under 0=true then some (true,v)else
  match v with
  |.row i n=>match h[i]? with|some (.rows _ w m c)=>some (decide (n<=m),.list w n c)|_=>none
  |.ref i r off=>
   match h[i]? with
   |some (.cells cs)=>
    if r=0/\off<=cs.length then
     match snapL h d (cs.drop off)with
     |some (ob,us)=>some (ob,.cref us.length fun j=>us.getD j .undef)
     |none=>none
    else none
   |some (.rows _ w m c)=>if off<=w then some (decide (r<m),.cref (w-off) fun j=>c r (off+j))else none
   |_=>none
  |.sub i r off w n=>
   match h[i]? with
   |some (.rows _ w' m c)=>
    if off=0/\w'=w then some (decide (r+n<=m),.list w n fun a j=>c (r+a) j)
    else some (decide (r<m)&&decide (off+n*w<=w'),.list w n fun a j=>c r (off+(a*w+j)))
   |_=>none
  |.agg vs=>match snapL h d vs with|some (ob,us)=>some (ob,.agg us)|none=>none
  |.tuple vs=>match snapL h d vs with|some (ob,us)=>some (ob,.tuple us)|none=>none
  |.func fn f c=>
   match snapL h d f,snapL h d c with
   |some (o1,f'),some (o2,c')=>some (o1&&o2,.func fn f' c')
   |_,_=>none
  |.iface t v=>match snapV h d v with|some (ob,u)=>some (ob,.iface t u)|none=>none
  |_=>none
def snapL(h:List Blk):Nat->List V->Option (Bool × List V)
 |0,_=>none
 |_+1,[]=>some (true,[])
 |d+1,v::vs=>
  match snapV h d v,snapL h d vs with
  |some (o1,u),some (o2,us)=>some (o1&&o2,u::us)
  |_,_=>none
end
theorem snap_sound(h:List Blk):∀d,(∀v u,snapV h d v=some (true,u)->Snap h v u)/\(∀vs us,snapL h d vs=some (true,us)->vs.length=us.length/\∀j,j<vs.length->Snap h (vs.getD j .undef) (us.getD j .undef)):=by
 intro d
 induction d with
 |zero=>exact⟨fun v u h=>by simp[snapV]at h,fun vs us h=>by simp[snapL]at h⟩
 |succ d ih=>
  obtain⟨ihV,ihL⟩:=ih;refine⟨fun v u hs=> ?_,fun vs us hs=> ?_⟩
  ·unfold snapV at hs;by_cases hv:v.under 0=true
   ·rw[if_pos hv]at hs;simp only[sJ,Prod.mk.injEq,true_and]at hs;subst hs;exact .imm hv
   rw[if_neg hv]at hs;clear hv
   cases v<;>simp only at hs<;>try cases hs
   case row i n=>
    split at hs
    ·rename_i hi;simp only[sJ,Prod.mk.injEq,decide_eq_true_eq]at hs;obtain⟨hn,rfl⟩:=hs;exact .row hi hn
    ·cases hs
   case ref i r off=>
    split at hs
    ·rename_i cs hi;split at hs
     ·rename_i hr;obtain⟨rfl,hoff⟩:=hr;split at hs
      ·rename_i ob us hl;simp only[sJ,Prod.mk.injEq]at hs;obtain⟨rfl,rfl⟩:=hs;obtain⟨h1,h2⟩:=ihL _ _ hl;have h1':cs.length-off=us.length:=by rw[<-h1];simp
       refine .ref hi (by omega) fun j hj=> ?_;have:=h2 j (by rw[h1];exact hj);rwa[gE,List.getElem?_drop,<-List.getD_eq_getElem?_getD]at this
      ·cases hs
     ·cases hs
    ·rename_i e w m c hi;split at hs
     ·rename_i ho;simp only[sJ,Prod.mk.injEq,decide_eq_true_eq]at hs;obtain⟨hr,rfl⟩:=hs;exact .refrow hi hr (by omega) fun j _=>rfl
     ·cases hs
    ·cases hs
   case sub i r off w n=>
    split at hs
    ·rename_i e w' m c hi;split at hs
     ·rename_i hc;obtain⟨rfl,rfl⟩:=hc;simp only[sJ,Prod.mk.injEq,decide_eq_true_eq]at hs;obtain⟨hn,rfl⟩:=hs;exact .sub hi hn fun _ _ _ _=>rfl
     ·simp only[sJ,Prod.mk.injEq,Bool.and_eq_true,decide_eq_true_eq]at hs;obtain⟨⟨h1,h2⟩,rfl⟩:=hs;exact .subrow hi h1 h2 fun _ _ _ _=>rfl
    ·cases hs
   case agg vs=>
    split at hs
    ·rename_i ob us hl;simp only[sJ,Prod.mk.injEq]at hs;obtain⟨rfl,rfl⟩:=hs;obtain⟨h1,h2⟩:=ihL _ _ hl;exact .agg h1 h2
    ·cases hs
   case tuple vs=>
    split at hs
    ·rename_i ob us hl;simp only[sJ,Prod.mk.injEq]at hs;obtain⟨rfl,rfl⟩:=hs;obtain⟨h1,h2⟩:=ihL _ _ hl;exact .tuple h1 h2
    ·cases hs
   case func fn f c=>
    split at hs
    ·rename_i o1 f' o2 c' hf hc;simp only[sJ,Prod.mk.injEq,Bool.and_eq_true]at hs;obtain⟨⟨rfl,rfl⟩,rfl⟩:=hs;obtain⟨h1,h2⟩:=ihL _ _ hf;obtain⟨h3,h4⟩:=ihL _ _ hc;exact .func h1 h3 h2 h4
    ·cases hs
   case iface t v=>
    split at hs
    ·rename_i ob u' hl;simp only[sJ,Prod.mk.injEq]at hs;obtain⟨rfl,rfl⟩:=hs;exact .iface (ihV _ _ hl)
    ·cases hs
  ·cases vs with
   |nil=>simp only[snapL,sJ,Prod.mk.injEq,true_and]at hs;subst hs;exact⟨rfl,fun j hj=>by simp at hj⟩
   |cons v vs=>
    simp only[snapL]at hs;split at hs
    ·rename_i o1 u o2 us hv hl;simp only[sJ,Prod.mk.injEq,Bool.and_eq_true]at hs;obtain⟨⟨rfl,rfl⟩,rfl⟩:=hs;obtain⟨h1,h2⟩:=ihL _ _ hl;refine⟨by simp[h1],fun j hj=> ?_⟩
     cases j with
     |zero=>exact ihV _ _ hv
     |succ j=>simpa using h2 j (by simpa using hj)
    ·cases hs
abbrev snapFuel:Nat:=40
def snapArgs(h:List Blk)(args:List V)(v:V):Option (Bool × List V):=
 if underL 0 args=true then some (true,args)
 else if v.plain=true then snapL h snapFuel args else none
theorem snapArgs_ok{h:List Blk}{args us:List V}{v:V}(hs:snapArgs h args v=some (true,us)):
  args.length=us.length/\(∀j,j<us.length->Snap h (args.getD j .undef) (us.getD j .undef))/\(us=args/\underL 0 us=true\/v.plain=true):=by
 unfold snapArgs at hs;split at hs
 ·rename_i hu;simp only[sJ,Prod.mk.injEq,true_and]at hs;subst hs;exact⟨rfl,fun j hj=>.imm (underL_getD hu j),.inl ⟨rfl,hu⟩⟩
 ·split at hs
  ·rename_i hp;obtain⟨h1,h2⟩:=(snap_sound h snapFuel).2 _ _ hs;exact⟨h1,fun j hj=>h2 j (by omega),.inr hp⟩
  ·cases hs
def mayFail(P:Program)(S:St):Op->Bool
 |.binOp op _ x _ _=>match op with
  |.add|.sub|.mul|.shl|.shr|.quo|.rem=>match S.eval x with|.undef=>false|_=>true
  |_=>false
 |.unOp .neg _ _=>true
 |.convert _ _ x=>match S.eval x with|.int _ _=>true|_=>false
 |.indexAddr _ _ _|.index _ _ _|.slice _ _ _ _ _|.makeSlice _ _ _=>true
 |.load t a=>match S.eval a with
  |.ref i _ _=>match S.h[i]? with
   |some (.rows _ _ _ _)=>match loadA P S.h t (S.eval a)with|some _=>false|none=>true
   |some (.rowsL _ _ _ _ _ _ _)=>true
   |_=>false
  |_=>false
 |.store t a v=>match S.eval a with
  |.ref i _ _=>match S.h[i]? with
   |some (.rows _ _ _ _)=>match storeA P S.h t (S.eval a) (S.eval v)with|some _=>false|none=>true
   |_=>false
  |_=>false
 |_=>false
def dOK(S:St):Bool:=S.d.all fun i=>isObj S.h i
def marksOK(h:List Blk)(d:List Nat):Bool:=d.all fun i=>match h[i]? with|some (.obj (.deferred (some ds)))=>ds.isEmpty|_=>false
abbrev KT:=St->DT->Option DT
def opG(P:Program)(o:Oper)(S:St)(g:DT)(k:KT):Option DT:=
 match evalOp P S.eval S.h o.op with
 |some (ob,v,h')=>
  if dOK S=true then
   if mayFail P S o.op=true then
    match g with
    |.need _ g'=>(k (St.put {S with h:=h'} o.dst v) g').map (.need ob)
    |_=>none
   else if ob=true then k (St.put {S with h:=h'} o.dst v) g else none
  else none
 |none=>none
def exec1(P:Program)(m:Nat)(o:Oper)(S:St)(g:DT)(k:KT):Option DT:=
 match o.op with
 |.call {callee:=.value f,args:=args,argTypes:=_}=>
  match g with
  |.call _ _ v _ g'=>
   match fnOf (S.eval f)with
   |some (fid,first,caps)=>
    match snapArgs S.h (callArgs S first caps args) v with
    |some (ob,us)=>(k (S.put o.dst v) g').map (.call fid us v ob)
    |none=>none
   |none=>none
  |.hcall _ _ v _ h' g'=>
   match fnOf (S.eval f)with
   |some (fid,first,caps)=>
    if marksOK h' S.d=true then(k (St.put {S with h:=h'} o.dst v) g').map (.hcall fid (callArgs S first caps args) v S.h h')else none
   |none=>none
  |.yld _ _ _ us' g'=>
   match S.eval f with
   |.yld q=>
    match S.h[q]? with
    |some (.ext X tr)=>
     if us'.length=args.size/\plainL us'=true/\(S.h.set q .gone).any isExt=false/\dOK S=true then
      (k (St.put {S with h:=S.h.set q (.ext X (tr++ [.tuple us']))} o.dst (.bool (X.go (tr++ [.tuple us'])))) g').map (.yld X tr (args.toList.map S.eval) us')
     else none
    |_=>none
   |_=>none
  |_=>none
 |.call {callee:=.builtin .append,args:=args,argTypes:=ts}=>
  match args,ts with
  |⟨[s,x]⟩,⟨[t,t']⟩=>
   if t=t' then
    match appendV P m S t (S.eval s) (S.eval x)with
    |some (ob,p,v,S1)=>
     match g with
     |.need _ (.scal _ g')=>(k (S1.put o.dst v) g').map fun r=>.need ob (.scal p r)
     |_=>none
    |none=>none
   else none
  |_,_=>none
 |_=>opG P o S g k
def kindOf:Op->Nat
 |.move _=>1|.assign _=>1|.load _ _=>2|.store _ _ _=>3|.binOp _ _ _ _ _=>4|.unOp _ _ _=>5|.convert _ _ _=>6
 |.makeMap _ _=>7|.lookup _ _ _ _=>8|.mapUpdate _ _ _ _=>9|.mapEntry _ _ _=>10|.entryStore _ _ _ _=>11|.range _ _=>12|.next _ _=>13|.entry _=>14
 |.call c=>(match c.callee with|.builtin .len=>16|.builtin _=>17|_=>18)
 |.slice _ _ _ _ _=>19|.indexAddr _ _ _=>20|.index _ _ _=>21|.makeSlice _ _ _=>22|.buildSlice _ _ _=>23|.build _ _=>24|.box _ _=>25|.alloc _=>26|.extract _ _=>27|.fieldAddr _ _ _=>28|.field _ _ _=>29
 |.makeFunc _ _ _=>30|.nilCheck _=>31|.pick _ _ _=>32
 |_=>15
def execG0(P:Program)(m:Nat)(o:Oper)(S:St)(g:DT)(k:KT):Option DT:=
 match g with
 |.sem o' us h0 v h' g'=>
  if kindOf o'≠kindOf o.op then exec1 P m o S (.sem o' us h0 v h' g') k
  else if isDefer o.op=false/\marksOK h' S.d=true then(k (St.put {S with h:=h'} o.dst v) g').map (.sem o.op (us.map fun p=>(p.1,S.eval p.1)) S.h v h')else none
 |.semn o' us h0 n vs hs f=>
  if kindOf o'≠kindOf o.op then exec1 P m o S (.semn o' us h0 n vs hs f) k
  else if isDefer o.op=false then some (.semn o.op (us.map fun p=>(p.1,S.eval p.1)) S.h n vs hs fun j=>if marksOK (hs j) S.d=true then(k (St.put {S with h:=hs j} o.dst (vs j)) (f j)).getD .never else .never)else none
 |g=>exec1 P m o S g k
def notBool:V->Bool
 |.bool _=>false
 |_=>true
def execG(P:Program)(m:Nat)(o:Oper):St->DT->KT->Option DT
 |S,.wait 0 (.frz i b0 g'),k=>
  match frzS S i with
  |some (b,S')=>(execG P m o S' g' k).map fun r=>.wait 0 (.frz i b r)
  |none=>execG0 P m o S (.wait 0 (.frz i b0 g')) k
 |S,.wait 0 (.vle j _ v' g'),k=>if o.guard.isNone=true\/notBool (S.t.getD j .undef)=true then(execG P m o {S with t:=S.t.set j v'} g' k).map fun r=>.wait 0 (.vle j (S.t.getD j .undef) v' r)else none
 |S,g,k=>execG0 P m o S g k
def runOpsG(P:Program)(m:Nat)(ops:Array Oper)(k:KT):List Nat->Option (Nat × Bool)->St->DT->Option DT
 |[],_,S,g=>k S g
 |i::is,prev,S,g=>
  match ops[i]? with
  |none=>none
  |some o=>
   match o.guard with
   |none=>execG P m o S g (runOpsG P m ops k is none)
   |some (j,want)=>
    if prev=some (j,want)then
     match wantedV ops S o with
     |some true=>execG P m o S g (runOpsG P m ops k is (some (j,want)))
     |some false=>runOpsG P m ops k is (some (j,want)) (S.put o.dst (.tuple [])) g
     |none=>none
    else
     match(ops[j]?).bind (·.dst)with
     |none=>none
     |some d=>
      match S.t.getD d .undef with
      |.bool b=>
       match g with
       |.br _ gt gf=>
        match
         (if want=true then execG P m o {S with t:=S.t.set d (.bool true)} gt (runOpsG P m ops k is (some (j,want)))
          else runOpsG P m ops k is (some (j,want)) (St.put {S with t:=S.t.set d (.bool true)} o.dst (.tuple [])) gt),
         (if want=false then execG P m o {S with t:=S.t.set d (.bool false)} gf (runOpsG P m ops k is (some (j,want)))
          else runOpsG P m ops k is (some (j,want)) (St.put {S with t:=S.t.set d (.bool false)} o.dst (.tuple [])) gf)with
        |some r1,some r2=>some (.br b r1 r2)
        |_,_=>none
       |.lit c g'=>
        (if want=c then execG P m o {S with t:=S.t.set d (.bool c)} g' (runOpsG P m ops k is (some (j,want)))
         else runOpsG P m ops k is (some (j,want)) (St.put {S with t:=S.t.set d (.bool c)} o.dst (.tuple [])) g').map (.lit b)
       |_=>none
      |.tuple _=>runOpsG P m ops k is (some (j,want)) (S.put o.dst (.tuple [])) g
      |_=>none
def tail5(ops:Array Oper)(j:Nat):Bool:=
 match ops[j]? with
 |some _=>(List.range j).all fun i=>reach ops 5 i j
 |none=>false
def frontLen(ops:Array Oper):Nat:=(List.range ops.size).foldl (fun m j=>bif tail5 ops j then m else j+1) 0
def frontLen9(ops:Array Oper):Nat:=(List.range ops.size).foldl (fun m j=>bif tailAt ops j then m else j+1) 0
def crOf(cs:List (Nat × FuncId × List V × V))(i:Nat):V:=match cs.lookup i with|some (_,_,v)=>v|none=>.undef
def frObs:List FR->Bool
 |[]=>true
 |r::rs=>r.1&&frObs rs
def frCallsV(h:List Blk)(rs:List FR)(cs:List (Nat × FuncId × List V × V)):List Nat->Option (Bool × List (Nat × FuncId × List V × V))
 |[]=>some (true,[])
 |i::is=>
  match(rs.getD i fr0).2.2.2 with
  |none=>frCallsV h rs cs is
  |some (f,args)=>
   match snapArgs h args (crOf cs i),frCallsV h rs cs is with
   |some (ob,us),some (o2,l)=>some (ob&&o2,(i,f,us,crOf cs i)::l)
   |_,_=>none
def frontGm(P:Program)(m0 m:Nat)(ops:Array Oper)(S:St)(g:DT)(k:KT):Option DT:=
 match g with
 |.front cs ov _ g'=>
  if dOK S=true/\backOK ops=true/\frontOK ops m=true/\m<=ops.size/\((List.range (ops.size-m)).all fun j=>tailAt ops (m+j))=true then
   match frRun P ops S.h (crOf cs) ov (List.range m) 0 S with
   |some rs=>
    match frCallsV S.h rs cs (List.range m)with
    |some (obc,cs')=>
     (runOpsG P m0 ops k (List.range' m (ops.size-m)) none {S with t:=tAt ops m rs (fun _=>true) S.t,h:=S.h++bl rs (fun _=>true) m} g').map (.front cs' ov (frObs rs&&obc))
    |none=>none
   |none=>none
  else none
 |_=>none
def frontG(P:Program)(m0:Nat)(ops:Array Oper)(S:St)(g:DT)(k:KT):Option DT:=
 match frontGm P m0 (frontLen ops) ops S g k with
 |some r=>some r
 |none=>frontGm P m0 (frontLen9 ops) ops S g k
def splitG(P:Program)(m0:Nat)(ops:Array Oper)(S:St)(k:KT):DT->Option DT
 |.br b gt gf=>
  match splitG P m0 ops S k gt,splitG P m0 ops S k gf with
  |some r1,some r2=>some (.br b r1 r2)
  |_,_=>none
 |g=>frontG P m0 ops S g k
def finG(m:Nat)(e:Exit)(S:St):DT->Option DT
 |.done _ T=>if maskOK m (mask T S)=true then some (.done e (mask T S))else none
 |_=>none
def atG(m:Nat)(K:List Item)(S:St):DT->Option DT
 |.at _ T=>if maskOK m (mask T S)=true then some (.at K (mask T S))else none
 |_=>none
def itemG(P:Program)(m:Nat)(rec:List Item->St->DT->Option DT)(K:List Item)(S:St)(g:DT):Option DT:=
 match K with
 |[]=>finG m .normal S g
 |.inBlock _::K'=>rec K' S g
 |.inScope _::K'=>rec K' S g
 |.inLoop c::K'=>atG m (.inLoop c::K') S g
 |.code c::K'=>
  match c with
  |.skip=>rec K' S g
  |.label _=>rec K' S g
  |.seq a b=>rec (.code a::.code b::K') S g
  |.block id a=>rec (.code a::.inBlock id::K') S g
  |.scope a=>rec (.code a::.inScope a::K') S g
  |.loop a=>atG m (.inLoop a::K') S g
  |.exit id=>
   match exitTo id K' with
   |some K2=>rec K2 S g
   |none=>finG m (.exit id) S g
  |.ret=>finG m .ret S g
  |.cond c x y=>
   match S.eval c with
   |.bool b=>
    match g with
    |.br _ gt gf=>
     match rec (.code x::K') S gt,rec (.code y::K') S gf with
     |some r1,some r2=>some (.br b r1 r2)
     |_,_=>none
    |.lit c g'=>(rec (.code (bif c then x else y)::K') S g').map (.lit b)
    |_=>none
   |_=>none
  |.region id ops false=>
   match g with
   |.over _ _ _ S' g'=>(rec K' S' g').map (.over (.region id ops false) S .normal S')
   |_=>runOpsG P m ops (fun S' g'=>rec K' S' g') (List.range ops.size) none S g
  |.region id ops true=>
   match g with
   |.over _ _ _ S' g'=>(rec K' S' g').map (.over (.region id ops true) S .normal S')
   |_=>splitG P m ops S (fun S' g'=>rec K' S' g') g
  |.rangeFunc f ps az body=>
   match g with
   |.over _ _ x S' g'=>
    (match x with
    |.normal=>rec K' S' g'
    |.ret=>finG m .ret S' g'
    |.exit id=>match exitTo id K' with
     |some K2=>rec K2 S' g'
     |none=>finG m (.exit id) S' g'
    |_=>none).map (.over (.rangeFunc f ps az body) S x S')
   |_=>none
  |_=>none
 |_=>none
def bump:DT->DT
 |.wait k t=>.wait (k+1) t
 |t=>t
def runG(P:Program)(m:Nat):Nat->List Item->St->DT->Option DT
 |0,_,_,_=>none
 |n+1,K,S,g=>
  match g with
  |.own j e w g'=>
   match ownT S j e w with
   |some S'=>(runG P m n K S' g').map (.own j e w)
   |none=>none
  |.frz i _ g'=>
   match frzS S i with
   |some (b,S')=>(runG P m n K S' g').map (.frz i b)
   |none=>none
  |.vle j _ v' g'=>(runG P m n K {S with t:=S.t.set j v'} g').map (.vle j (S.t.getD j .undef) v')
  |.telb i _ _ _ c' g'=>
   match S.h[i]? with
   |some (.rows e w k c)=>(runG P m n K {S with h:=S.h.set i (.rows e w k c')} g').map (.telb i w k c c')
   |some (.rowsL e w k c r0 j0 v)=>if v.under 0=true then(runG P m n K {S with h:=S.h.set i (.rows e w k c')} g').map (.telb i w k (fun r j=>if r=r0/\j=j0 then v else c r j) c')else none
   |_=>none
  |.cas b g1 g2=>
   match runG P m n K S g1,runG P m n K S g2 with
   |some r1,some r2=>some (.cas b r1 r2)
   |_,_=>none
  |.drop T g'=>if maskOK m (mask T S)=true then(runG P m n K (mask T S) g').map (.drop T)else none
  |.telc i _ cs' g'=>
   match S.h[i]? with
   |some (.cells cs)=>(runG P m n K {S with h:=S.h.set i (.cells cs')} g').map (.telc i cs cs')
   |_=>none
  |.never=>some .never
  |.wait 0 g'=>(runG P m n K S g').map (.wait 0)
  |.wait (k+1) g'=>(itemG P m (runG P m n) K S (.wait k g')).map bump
  |g=>itemG P m (runG P m n) K S g
theorem dOK_spec{S:St}(h:dOK S=true):∀j,j∈S.d->∃x,S.h[j]? =some (.obj x):=fun j hj=>by
 have:=List.all_eq_true.1 h j hj;unfold isObj at this;split at this
 ·rename_i x hx;exact⟨x,hx⟩
 ·cases this
theorem marksOK_spec{h:List Blk}{d:List Nat}(hm:marksOK h d=true):∀j,j∈d->h[j]? =some (.obj (.deferred (some []))):=fun j hj=>by
 have:=List.all_eq_true.1 hm j hj;split at this
 ·rename_i ds hd
  cases ds with
  |nil=>exact hd
  |cons a l=>cases this
 ·cases this
section
variable {P:Program} {ro:Env} {ops:Array Oper} {Q:Exit->St->Prop} {Q1:Exit->St->Prop} {L:List Item->St->Prop}
theorem map_some_eq{α β:Type}{f:α->β}{x:Option α}{y:β}(h:x.map f=some y):∃a,x=some a/\f a=y:=by
 cases x with
 |none=>cases h
 |some a=>exact⟨a,rfl,by simpa using h⟩
theorem opG_ok{i:Nat}{is:List Nat}{o:Oper}{S:St}{g:DT}{k:KT}(hi:ops[i]? =some o)(hw:wantedV ops S o=some true)(h:opG P o S g k=some g)(hg:g.holds P ro Q L)
  (hk:∀S' g',k S' g'=some g'->g'.holds P ro Q L->AOps P ro ops is S' Q1):AOps P ro ops (i::is) S Q1:=by
 unfold opG at h;split at h
 case h_2=>cases h
 rename_i ob v h' he;split at h
 case isFalse=>cases h
 rename_i hd
 have hdd:∀j,j∈S.d->h'[j]? =S.h[j]? :=fun j hj=>by
  obtain⟨x,hx⟩:=dOK_spec hd j hj;rw[hx];exact evalOp_keeps_obj he j x hx
 split at h
 ·split at h
  ·obtain⟨r,hr,e⟩:=map_some_eq h;cases e;obtain⟨hb,hg'⟩:=hg;subst hb;exact AOps.step hi hw he hdd (hk _ _ hr hg')
  ·cases h
 ·split at h
  ·rename_i hob;subst hob;exact AOps.step hi hw he hdd (hk _ _ h hg)
  ·cases h
theorem exec1_ok{i:Nat}{is:List Nat}{o:Oper}{S:St}{g:DT}{k:KT}(hi:ops[i]? =some o)(hw:wantedV ops S o=some true)(h:exec1 P ro.m o S g k=some g)(hg:g.holds P ro Q L)
  (hk:∀S' g',k S' g'=some g'->g'.holds P ro Q L->AOps P ro ops is S' Q1):AOps P ro ops (i::is) S Q1:=by
 unfold exec1 at h;split at h
 ·rename_i f args ts hop;split at h
  ·rename_i f0 us0 v ob0 g';split at h
   ·rename_i fid first caps hfn
    split at h
    ·rename_i ob us hs;obtain⟨r,hr,e⟩:=map_some_eq h;cases e;obtain⟨hob,hc,hg'⟩:=hg;subst hob;obtain⟨h1,h2,h3⟩:=snapArgs_ok hs;refine AOps.call_snap (post:=(·=v)) hi hw hop hfn h1 h2 hc ?_ fun u hu=>by subst hu;exact hk _ _ hr hg'
     rcases h3 with h3|h3
     ·exact .inl h3
     ·exact .inr fun u hu=>by subst hu;exact h3
    ·cases h
   ·cases h
  ·rename_i f0 us0 v h0 h' g';split at h
   ·rename_i fid first caps hfn
    split at h
    ·rename_i hm;obtain⟨r,hr,e⟩:=map_some_eq h;cases e;obtain⟨hc,hg'⟩:=hg;exact AOps.hcall hi hw hop hfn hc (marksOK_spec hm) (hk _ _ hr hg')
    ·cases h
   ·cases h
  ·rename_i X0 tr0 us0 us' g';split at h
   ·rename_i q hf;split at h
    ·rename_i X tr hq;split at h
     ·rename_i hc;obtain⟨r,hr,e⟩:=map_some_eq h;cases e;obtain⟨h1,h2,h3,h4⟩:=hc;obtain⟨hgo,hY,hpre,hv,hg'⟩:=hg;exact AOps.yield hi hw hop hf hq h1 hv h2 hgo hpre hY h3 (dOK_spec h4) (hk _ _ hr hg')
     ·cases h
    ·cases h
   ·cases h
  ·cases h
 ·rename_i args ts hop;split at h
  ·rename_i s x t t';split at h
   ·rename_i htt;subst htt;split at h
    ·rename_i ob p v S1 he;split at h
     ·rename_i b p' g';obtain⟨r,hr,e⟩:=map_some_eq h;cases e;obtain⟨hb,hp,hg'⟩:=hg;exact AOps.append hi hw hop he hb hp (hk _ _ hr hg')
     ·cases h
    ·cases h
   ·cases h
  ·cases h
 ·exact opG_ok hi hw h hg hk
theorem execG0_ok{i:Nat}{is:List Nat}{o:Oper}{S:St}{g:DT}{k:KT}(hi:ops[i]? =some o)(hw:wantedV ops S o=some true)(h:execG0 P ro.m o S g k=some g)(hg:g.holds P ro Q L)
  (hk:∀S' g',k S' g'=some g'->g'.holds P ro Q L->AOps P ro ops is S' Q1):AOps P ro ops (i::is) S Q1:=by
 unfold execG0 at h;split at h
 ·rename_i o0 us h0 v h' g';split at h
  ·exact exec1_ok hi hw h hg hk
  split at h
  ·rename_i hc;obtain⟨r,hr,e⟩:=map_some_eq h;simp only[DT.sem.injEq,true_and]at e;obtain⟨rfl,e2,rfl,rfl⟩:=e;obtain⟨hs,hg'⟩:=hg;rw[<-e2]at hs;exact AOps.sem hi hw hc.1 hs (marksOK_spec hc.2) (hk _ _ hr hg')
  ·cases h
 ·rename_i o0 us h0 n vs hs f;split at h
  ·exact exec1_ok hi hw h hg hk
  split at h
  ·rename_i hc;simp only[sJ,DT.semn.injEq,true_and]at h;obtain⟨rfl,e2,rfl,hf⟩:=h;obtain⟨hs',hg'⟩:=hg;rw[<-e2]at hs';refine AOps.semn hi hw hc hs' fun j hj=> ?_;have hfj:=congrFun hf j;have hhj:=hg' j hj;split at hfj
   ·rename_i hm;refine⟨marksOK_spec hm,?_⟩
    cases hkj:k (St.put {S with h:=hs j} o.dst (vs j)) (f j)with
    |none=>rw[hkj]at hfj;rw[<-hfj]at hhj;exact hhj.elim
    |some d=>
     rw[hkj]at hfj;have:d=f j:=hfj;subst this;exact hk _ _ hkj hhj
   ·rw[<-hfj]at hhj;exact hhj.elim
  ·cases h
 ·exact exec1_ok hi hw h hg hk
theorem AOps.frz{S S':St}{Q1:Exit->St->Prop}{i:Nat}{is:List Nat}(hf:frzS S i=some (true,S'))(rest:AOps P ro ops is S' Q1):AOps P ro ops is S Q1:=fun β G K a w r=>by
 obtain⟨G',hG,K',hK,r'⟩:=r.frz hf;exact mono_ops (fun e a w hp=>hp.up (Homes.low_refl _ _) hG hK) (rest β G' K' a w r')
theorem AOps.vle{S:St}{Q1:Exit->St->Prop}{j:Nat}{v:V}{is:List Nat}(hv:VLe (S.t.getD j .undef) v)(rest:AOps P ro ops is {S with t:=S.t.set j v} Q1):AOps P ro ops is S Q1:=fun β G K a w r=>
 rest β G K a w (r.retell (hv _ _ _ (r.tmp j)))
theorem wantedV_keep{S S':St}{o:Oper}(hb:∀d c,S.t.getD d .undef=.bool c->S'.t.getD d .undef=.bool c)(h:wantedV ops S o=some true):wantedV ops S' o=some true:=by
 unfold wantedV at h⊢
 cases hq:o.guard with
 |none=>rfl
 |some q=>
  obtain⟨j,want⟩:=q;rw[hq]at h;simp only at h⊢
  cases hd:(ops[j]?).bind (·.dst)with
  |none=>rw[hd]at h;simp at h
  |some d=>
   rw[hd]at h;simp only at h⊢
   cases hv:S.t.getD d .undef with
   |bool c=>rw[hv]at h;rw[hb d c hv];exact h
   |_=>rw[hv]at h;simp at h
theorem getD_map_bool{t:List V}{f:V->V}(hf:∀c,f (.bool c)=.bool c){d:Nat}{c:Bool}(h:t.getD d .undef=.bool c):(t.map f).getD d .undef=.bool c:=by
 rw[gE]at h⊢;rw[List.getElem?_map]
 cases hq:t[d]? with
 |none=>rw[hq]at h;cases h
 |some v=>rw[hq]at h;simp only[Option.getD_some]at h;subst h;simp[hf]
theorem getD_set_bool{t:List V}{j d:Nat}{v:V}{c:Bool}(hj:notBool (t.getD j .undef)=true)(hd:t.getD d .undef=.bool c):(t.set j v).getD d .undef=.bool c:=by
 by_cases e:d=j
 ·subst e;rw[hd]at hj;cases hj
 ·rw[gE]at hd⊢;rw[sN (Ne.symm e)];exact hd
theorem frzS_bool{S S':St}{i:Nat}{b:Bool}(h:frzS S i=some (b,S')):∀d c,S.t.getD d .undef=.bool c->S'.t.getD d .undef=.bool c:=fun d c hd=>by
 unfold frzS at h;split at h
 ·unfold frzR at h;simp only[sJ,Prod.mk.injEq]at h;obtain⟨_,rfl⟩:=h;exact getD_map_bool (fun _=>rfl) hd
 ·simp only[sJ,Prod.mk.injEq]at h;obtain⟨_,rfl⟩:=h;exact getD_map_bool (fun _=>rfl) hd
 ·cases h
theorem execG_ok'{i:Nat}{is:List Nat}{o:Oper}{k:KT}(hi:ops[i]? =some o)(hk:∀S' g',k S' g'=some g'->g'.holds P ro Q L->AOps P ro ops is S' Q1):
  ∀(n:Nat) (g:DT) (S:St),sizeOf g<=n->wantedV ops S o=some true->execG P ro.m o S g k=some g->g.holds P ro Q L->AOps P ro ops (i::is) S Q1:=by
 intro n
 induction n with
 |zero=>intro g S hs;cases g<;>simp at hs
 |succ n ih=>
  intro g S hs hw h hg;unfold execG at h;split at h
  ·split at h
   ·rename_i b S' hf;obtain⟨r,hr,e⟩:=map_some_eq h;simp only[DT.wait.injEq,true_and,DT.frz.injEq]at e;obtain⟨rfl,rfl⟩:=e;obtain⟨rfl,hg'⟩:=hg;exact AOps.frz hf (ih _ S' (by simp at hs⊢;omega) (wantedV_keep (frzS_bool hf) hw) hr hg')
   ·exact execG0_ok hi hw h hg hk
  ·split at h
   ·rename_i hgd;obtain⟨r,hr,e⟩:=map_some_eq h;simp only[DT.wait.injEq,true_and,DT.vle.injEq]at e;obtain⟨e1,rfl⟩:=e;obtain⟨hv,hg'⟩:=hg;rw[<-e1]at hv;refine AOps.vle hv (ih _ _ (by simp at hs⊢;omega) ?_ hr hg');rcases hgd with hgd|hgd
    ·cases hq:o.guard with|none=>simp[wantedV,hq]|some q=>simp[hq]at hgd
    ·exact wantedV_keep (fun d c hd=>getD_set_bool hgd hd) hw
   ·cases h
  ·exact execG0_ok hi hw h hg hk
theorem execG_ok{i:Nat}{is:List Nat}{o:Oper}{S:St}{g:DT}{k:KT}(hi:ops[i]? =some o)(hw:wantedV ops S o=some true)(h:execG P ro.m o S g k=some g)(hg:g.holds P ro Q L)
  (hk:∀S' g',k S' g'=some g'->g'.holds P ro Q L->AOps P ro ops is S' Q1):AOps P ro ops (i::is) S Q1:=
 execG_ok' hi hk _ g S (Nat.le_refl _) hw h hg
theorem runOpsG_ok{k:KT}(hk:∀S g,k S g=some g->g.holds P ro Q L->Q1 .normal S):∀(is:List Nat) (prev:Option (Nat × Bool)) (S:St) (g:DT),runOpsG P ro.m ops k is prev S g=some g->g.holds P ro Q L->AOps P ro ops is S Q1:=by
 intro is
 induction is with
 |nil=>intro prev S g h hg;exact AOps.nil (hk S g h hg)
 |cons i is ih=>
  intro prev S g h hg;simp only[runOpsG]at h;split at h
  ·cases h
  rename_i o hi;split at h
  ·rename_i hgd;exact execG_ok hi (by simp[wantedV,hgd]) h hg fun S' g' h' hg'=>ih _ S' g' h' hg'
  ·rename_i j want hgd;split at h
   ·split at h
    ·rename_i hw;exact execG_ok hi hw h hg fun S' g' h' hg'=>ih _ S' g' h' hg'
    ·rename_i hw;exact AOps.skip hi hw (ih _ _ _ h hg)
    ·cases h
   ·split at h
    ·cases h
    rename_i d hd;split at h
    ·rename_i b hb
     have wnt:∀c,wantedV ops {S with t:=S.t.set d (.bool c)} o=some (c==want):=fun c=>by
      have hlt:d<S.t.length:=by
       rcases Nat.lt_or_ge d S.t.length with q|q
       ·exact q
       ·rw[gE,List.getElem?_eq_none q]at hb;cases hb
      unfold wantedV;rw[hgd];simp only[hd,gE,List.getElem?_set_self hlt,Option.getD_some]
     have go:∀(c:Bool) (g2:DT),(if want=c then execG P ro.m o {S with t:=S.t.set d (.bool c)} g2 (runOpsG P ro.m ops k is (some (j,want)))else runOpsG P ro.m ops k is (some (j,want)) (St.put {S with t:=S.t.set d (.bool c)} o.dst (.tuple [])) g2)=some g2->g2.holds P ro Q L->
       AOps P ro ops (i::is) {S with t:=S.t.set d (.bool c)} Q1:=fun c g2 h2 hg2=>by
      split at h2
      ·rename_i hwc;exact execG_ok hi (by rw[wnt,hwc];simp) h2 hg2 fun S' g' h' hg'=>ih _ S' g' h' hg'
      ·rename_i hwc;have:(c==want)=false:=by cases c<;>cases want<;>simp_all
       exact AOps.skip hi (by rw[wnt,this]) (ih _ _ _ h2 hg2)
     split at h
     ·rename_i b0 gt gf;split at h
      ·rename_i r1 r2 h1 h2;cases h;exact AOps.split d hb (fun hb'=>go true _ h1 (hg.1 hb')) (fun hb'=>go false _ h2 (hg.2 hb'))
      ·cases h
     ·rename_i c g';obtain⟨r,hr,e⟩:=map_some_eq h;cases e;refine AOps.split d hb (fun hb'=> ?_) (fun hb'=> ?_)
      ·subst hb';exact go true _ hr hg
      ·subst hb';exact go false _ hr hg
     ·cases h
    ·rename_i vs hv;refine AOps.skip hi ?_ (ih _ _ _ h hg);unfold wantedV;rw[hgd];simp only[hd,hv]
    ·cases h
theorem RS.retellB{β:Homes}{G K:Kept}{S:St}{a:Act}{w:World}(r:RS β G K S a w){i:Nat}{e:TypeId}{wd k:Nat}{c c':Nat->Nat->V}(hi:S.h[i]? =some (.rows e wd k c))(hc:∀r j,r<k->j<wd->VLe (c r j) (c' r j)):RS β G K {S with h:=S.h.set i (.rows e wd k c')} a w:=by
 have hil:i<S.h.length:=(List.getElem?_eq_some_iff.1 hi).1
 have look:∀ {j:Nat} {b:Blk},(S.h.set i (.rows e wd k c'))[j]? =some b->(j=i/\b=.rows e wd k c')\/(j≠i/\S.h[j]? =some b):=fun {j b} hj=>by
  by_cases q:j=i
  ·subst q;rw[List.getElem?_set_self hil]at hj;cases hj;exact .inl ⟨rfl,rfl⟩
  ·rw[sN (Ne.symm q)]at hj;exact .inr ⟨q,hj⟩
 have back:∀ {j:Nat} {b:Blk},(S.h.set i (.rows e wd k c'))[j]? =some b->b≠ .gone->∃b',S.h[j]? =some b'/\b'≠ .gone:=fun {j b} hj hb=>by
  rcases look hj with⟨rfl,rfl⟩|⟨_,h⟩
  ·exact⟨_,hi,by simp⟩
  ·exact⟨_,h,hb⟩
 refine⟨⟨by simpa using r.h.len,fun j b hj=> ?_,fun p q x y b b' hp hq gp gq bp bq hxy=> ?_,fun j x b hj hg hb=> ?_,r.h.keep,r.h.gk,r.h.amb,fun j X tr hj=> ?_⟩,r.size,r.tmp,r.marks,fun j hj=> ?_⟩
 ·rcases look hj with⟨rfl,rfl⟩|⟨_,h⟩
  ·have hB:=r.h.blk _ _ hi;revert hB
   cases β[j]?.getD .void with
   |void=>exact id
   |nil=>exact id
   |ext l=>exact id
   |lie y=>
    rintro⟨h0,hn,hcm,ca,h1,h2,h3,h4,h5⟩
    exact⟨h0,hn,hcm,ca,h1,h2,h3,h4,fun q j hq hj=>hc q j hq hj _ _ _ (h5 q j hq hj)⟩
  ·exact r.h.blk _ _ h
 ·obtain⟨b1,q1,g1⟩:=back hp gp;obtain⟨b2,q2,g2⟩:=back hq gq;exact r.h.inj p q x y b1 b2 q1 q2 g1 g2 bp bq hxy
 ·obtain⟨b1,q1,g1⟩:=back hj hg;exact r.h.sep j x b1 q1 g1 hb
 ·rcases look hj with⟨_,h⟩|⟨_,h⟩
  ·cases h
  ·obtain⟨l,E,h1,h2,h3,h4⟩:=r.h.ext j X tr h;refine⟨l,E,h1,h2,h3,fun b hE=>⟨(h4 b hE).1,fun q y k1 hq g hbq=> ?_⟩⟩;obtain⟨b1,q1,g1⟩:=back hq g;exact(h4 b hE).2 q y b1 q1 g1 hbq
 ·obtain⟨x,h1,h2,h3⟩:=r.mark j hj;have hne:i≠S.d.getD j 0:=by intro e;rw[<-e,hi]at h3;cases h3
  refine⟨x,h1,h2,?_⟩;show(S.h.set i _)[S.d.getD j 0]? =_;rw[sN hne];exact h3
theorem RH.swap{h:List Blk}{β:Homes}{G K:Kept}{w:World}(r:RH β G K h w){i:Nat}{k k':Blk}(hi:h[i]? =some k)(hk:k≠ .gone)(he:isExt k'=false)(hb:BlkOK G β w k' (β[i]?.getD .void)):RH β G K (h.set i k') w:=by
 have hil:i<h.length:=(List.getElem?_eq_some_iff.1 hi).1
 have look:∀ {j:Nat} {b:Blk},(h.set i k')[j]? =some b->(j=i/\b=k')\/(j≠i/\h[j]? =some b):=fun {j b} hj=>by
  by_cases q:j=i
  ·subst q;rw[List.getElem?_set_self hil]at hj;cases hj;exact .inl ⟨rfl,rfl⟩
  ·rw[sN (Ne.symm q)]at hj;exact .inr ⟨q,hj⟩
 have back:∀ {j:Nat} {b:Blk},(h.set i k')[j]? =some b->b≠ .gone->∃b',h[j]? =some b'/\b'≠ .gone:=fun {j b} hj hb=>by
  rcases look hj with⟨rfl,rfl⟩|⟨_,h⟩
  ·exact⟨_,hi,hk⟩
  ·exact⟨_,h,hb⟩
 refine⟨by simpa using r.len,fun j b hj=> ?_,fun p q x y b b' hp hq gp gq bp bq hxy=> ?_,fun j x b hj hg hb=> ?_,r.keep,r.gk,r.amb,fun j X tr hj=> ?_⟩
 ·rcases look hj with⟨rfl,rfl⟩|⟨_,h⟩
  ·exact hb
  ·exact r.blk _ _ h
 ·obtain⟨b1,q1,g1⟩:=back hp gp;obtain⟨b2,q2,g2⟩:=back hq gq;exact r.inj p q x y b1 b2 q1 q2 g1 g2 bp bq hxy
 ·obtain⟨b1,q1,g1⟩:=back hj hg;exact r.sep j x b1 q1 g1 hb
 ·rcases look hj with⟨_,h⟩|⟨_,h⟩
  ·subst h;simp[isExt]at he
  ·obtain⟨l,E,h1,h2,h3,h4⟩:=r.ext j X tr h;refine⟨l,E,h1,h2,h3,fun b hE=>⟨(h4 b hE).1,fun q y k1 hq g hbq=> ?_⟩⟩;obtain⟨b1,q1,g1⟩:=back hq g;exact(h4 b hE).2 q y b1 q1 g1 hbq
theorem RS.retellL{β:Homes}{G K:Kept}{S:St}{a:Act}{w:World}(r:RS β G K S a w){i:Nat}{e:TypeId}{wd k r0 j0:Nat}{c c':Nat->Nat->V}{v:V}(hi:S.h[i]? =some (.rowsL e wd k c r0 j0 v))(hv:v.under 0=true)
  (hc:∀r j,r<k->j<wd->VLe (if r=r0/\j=j0 then v else c r j) (c' r j)):RS β G K {S with h:=S.h.set i (.rows e wd k c')} a w:=by
 have hB:=r.h.blk _ _ hi;refine⟨r.h.swap hi (by simp) rfl ?_,r.size,r.tmp,r.marks,fun j hj=> ?_⟩
 ·revert hB
  generalize β[i]?.getD .void=z
  cases z with
  |void=>exact fun h=>h.elim
  |nil=>exact fun h=>h.elim
  |ext l=>exact fun h=>h.elim
  |lie y=>
   rintro⟨h0,hn,hcm,ca,h1,h2,h3,h4,h5,h6,h7,h8⟩
   refine⟨h0,hn,hcm,ca,h1,h2,h3,h4,fun q j hq hj=>hc q j hq hj _ _ _ ?_⟩;by_cases e:q=r0/\j=j0
   ·obtain⟨rfl,rfl⟩:=e;simp only[and_self,if_true];exact h8.imm hv
   ·simp only[e,if_false]
    exact h5 q j hq hj (by
     by_cases q1:q=r0
     ·exact .inr fun q2=>e ⟨q1,q2⟩
     ·exact .inl q1)
 ·obtain⟨x,h1,h2,h3⟩:=r.mark j hj;have hne:i≠S.d.getD j 0:=by intro e;rw[<-e,hi]at h3;cases h3
  refine⟨x,h1,h2,?_⟩;show(S.h.set i _)[S.d.getD j 0]? =_;rw[sN hne];exact h3
theorem RS.retellC{β:Homes}{G K:Kept}{S:St}{a:Act}{w:World}(r:RS β G K S a w){i:Nat}{cs cs':List V}(hi:S.h[i]? =some (.cells cs))(hl:cs'.length=cs.length)(hc:∀j,j<cs.length->VLe (cs.getD j .undef) (cs'.getD j .undef)):RS β G K {S with h:=S.h.set i (.cells cs')} a w:=by
 have hil:i<S.h.length:=(List.getElem?_eq_some_iff.1 hi).1
 have look:∀ {j:Nat} {b:Blk},(S.h.set i (.cells cs'))[j]? =some b->(j=i/\b=.cells cs')\/(j≠i/\S.h[j]? =some b):=fun {j b} hj=>by
  by_cases q:j=i
  ·subst q;rw[List.getElem?_set_self hil]at hj;cases hj;exact .inl ⟨rfl,rfl⟩
  ·rw[sN (Ne.symm q)]at hj;exact .inr ⟨q,hj⟩
 have back:∀ {j:Nat} {b:Blk},(S.h.set i (.cells cs'))[j]? =some b->b≠ .gone->∃b',S.h[j]? =some b'/\b'≠ .gone:=fun {j b} hj hb=>by
  rcases look hj with⟨rfl,rfl⟩|⟨_,h⟩
  ·exact⟨_,hi,by simp⟩
  ·exact⟨_,h,hb⟩
 refine⟨⟨by simpa using r.h.len,fun j b hj=> ?_,fun p q x y b b' hp hq gp gq bp bq hxy=> ?_,fun j x b hj hg hb=> ?_,r.h.keep,r.h.gk,r.h.amb,fun j X tr hj=> ?_⟩,r.size,r.tmp,r.marks,fun j hj=> ?_⟩
 ·rcases look hj with⟨rfl,rfl⟩|⟨_,h⟩
  ·have hB:=r.h.blk _ _ hi;revert hB
   cases β[j]?.getD .void with
   |void=>exact id
   |nil=>exact id
   |ext l=>exact id
   |lie y=>
    rintro⟨ca,e,h1,h2,h3⟩
    exact⟨ca,e,h1,by rw[h2,hl],fun q hq=>hc q (by omega) _ _ _ (h3 q (by omega))⟩
  ·exact r.h.blk _ _ h
 ·obtain⟨b1,q1,g1⟩:=back hp gp;obtain⟨b2,q2,g2⟩:=back hq gq;exact r.h.inj p q x y b1 b2 q1 q2 g1 g2 bp bq hxy
 ·obtain⟨b1,q1,g1⟩:=back hj hg;exact r.h.sep j x b1 q1 g1 hb
 ·rcases look hj with⟨_,h⟩|⟨_,h⟩
  ·cases h
  ·obtain⟨l,E,h1,h2,h3,h4⟩:=r.h.ext j X tr h;refine⟨l,E,h1,h2,h3,fun b hE=>⟨(h4 b hE).1,fun q y k1 hq g hbq=> ?_⟩⟩;obtain⟨b1,q1,g1⟩:=back hq g;exact(h4 b hE).2 q y b1 q1 g1 hbq
 ·obtain⟨x,h1,h2,h3⟩:=r.mark j hj;have hne:i≠S.d.getD j 0:=by intro e;rw[<-e,hi]at h3;cases h3
  refine⟨x,h1,h2,?_⟩;show(S.h.set i _)[S.d.getD j 0]? =_;rw[sN hne];exact h3
theorem frObs_all{rs:List FR}(h:frObs rs=true):rs.all (·.1)=true:=by
 induction rs with
 |nil=>rfl
 |cons r rs ih=>simp only[frObs,Bool.and_eq_true]at h;simp only[List.all_cons,h.1,ih h.2,Bool.and_self]
theorem frCallsV_spec{h:List Blk}{rs:List FR}{cs:List (Nat × FuncId × List V × V)}:∀(is:List Nat) (cs':List (Nat × FuncId × List V × V)),frCallsV h rs cs is=some (true,cs')->(∀c∈cs',PCalls P c.2.1 c.2.2.1 (·=c.2.2.2))->
  ∀i∈is,∀g args,(rs.getD i fr0).2.2.2=some (g,args)->∃us,args.length=us.length/\(∀j,j<us.length->Snap h (args.getD j .undef) (us.getD j .undef))/\PCalls P g us (·=crOf cs i)/\(us=args/\underL 0 us=true\/(crOf cs i).plain=true):=by
 intro is
 induction is with
 |nil=>intro cs' _ _ i hi;cases hi
 |cons i0 is ih=>
  intro cs' hc hp i hi g args hga;simp only[frCallsV]at hc;split at hc
  ·rename_i hn;rcases List.mem_cons.1 hi with rfl|hi'
   ·rw[hn]at hga;cases hga
   ·exact ih _ hc hp i hi' g args hga
  ·rename_i f0 args0 hn;split at hc
   ·rename_i ob us o2 l hs hl;simp only[sJ,Prod.mk.injEq,Bool.and_eq_true]at hc;obtain⟨⟨rfl,rfl⟩,rfl⟩:=hc;rcases List.mem_cons.1 hi with rfl|hi'
    ·rw[hn]at hga;cases hga;obtain⟨h1,h2,h3⟩:=snapArgs_ok hs;exact⟨us,h1,h2,hp _ (List.mem_cons_self ..),h3⟩
    ·exact ih _ hl (fun c hc=>hp c (List.mem_cons_of_mem _ hc)) i hi' g args hga
   ·cases hc
theorem frontGm_ok{id m:Nat}{S:St}{g:DT}{k:KT}(hmx:P.follows .mixedOrders=true)(h:frontGm P ro.m m ops S g k=some g)(hg:g.holds P ro Q L)(hk:∀S g,k S g=some g->g.holds P ro Q L->Q1 .normal S):AWP P ro (.region id ops true) S Q1:=by
 unfold frontGm at h;split at h
 case h_2=>cases h
 rename_i cs ov ob0 g';split at h
 case isFalse=>cases h
 rename_i hc;obtain⟨hd,hback,hf,hm,ht⟩:=hc;split at h
 case h_2=>cases h
 rename_i rs hr;split at h
 case h_2=>cases h
 rename_i obc cs' hcv;obtain⟨r,hr2,e⟩:=map_some_eq h;cases e;obtain⟨hob,hcalls,hg'⟩:=hg;simp only[Bool.and_eq_true]at hob;obtain⟨ho1,rfl⟩:=hob;refine AWP.region_front (m) rs (crOf cs) ov hmx hback hm ht hf (dOK_spec hd) hr (frObs_all ho1) (fun i g args hga=> ?_) (runOpsG_ok hk _ _ _ _ hr2 hg')
 have hlen:rs.length<=m:=by
  have key:∀(is:List Nat) (nb:Nat) (S:St) (rs:List FR),frRun P ops S.h (crOf cs) ov is nb S=some rs->True:=fun _ _ _ _ _=>trivial
  have:∀(is:List Nat) (h0:List Blk) (nb:Nat) (S:St) (rs:List FR),frRun P ops h0 (crOf cs) ov is nb S=some rs->rs.length=is.length:=by
   intro is
   induction is with
   |nil=>intro h0 nb S rs hh;simp only[frRun,sJ]at hh;subst hh;rfl
   |cons i is ih=>
    intro h0 nb S rs hh;simp only[frRun]at hh;split at hh
    ·cases hh
    ·split at hh
     ·split at hh
      ·rename_i rs2 h2;cases hh;simp[ih _ _ _ _ h2]
      ·cases hh
     ·split at hh
      ·split at hh
       ·rename_i rs2 h2;cases hh;simp[ih _ _ _ _ h2]
       ·cases hh
      ·cases hh
     ·cases hh
  rw[this _ _ _ _ _ hr];simp
 have hi:i<m:=by
  rcases Nat.lt_or_ge i rs.length with q|q
  ·omega
  ·rw[gE,List.getElem?_eq_none q]at hga;cases hga
 exact frCallsV_spec (P:=P) _ _ hcv hcalls i (List.mem_range.2 hi) g args hga
theorem frontG_ok{id:Nat}{S:St}{g:DT}{k:KT}(hmx:P.follows .mixedOrders=true)(h:frontG P ro.m ops S g k=some g)(hg:g.holds P ro Q L)(hk:∀S g,k S g=some g->g.holds P ro Q L->Q1 .normal S):AWP P ro (.region id ops true) S Q1:=by
 unfold frontG at h;split at h
 ·rename_i r hr;cases h;exact frontGm_ok hmx hr hg hk
 ·exact frontGm_ok hmx h hg hk
theorem splitG_ok{id:Nat}{S:St}{k:KT}(hmx:P.follows .mixedOrders=true)(hk:∀S g,k S g=some g->g.holds P ro Q L->Q1 .normal S):∀(g:DT),splitG P ro.m ops S k g=some g->g.holds P ro Q L->AWP P ro (.region id ops true) S Q1:=by
 intro g
 induction g with
 |br b gt gf iht ihf=>
  intro h hg;simp only[splitG]at h;split at h
  ·rename_i r1 r2 h1 h2;simp only[sJ,DT.br.injEq,true_and]at h;obtain⟨rfl,rfl⟩:=h
   cases b with
   |true=>exact iht h1 (hg.1 rfl)
   |false=>exact ihf h2 (hg.2 rfl)
  ·cases h
 |_=>intro h hg;exact frontG_ok hmx h hg hk
theorem finG_ok{e:Exit}{S:St}{g:DT}{K:List Item}(h:finG ro.m e S g=some g)(hg:g.holds P ro Q L)(fin:∀T,Q e T->IWP P ro K T Q L):IWP P ro K S Q L:=by
 unfold finG at h;split at h
 ·split at h
  ·rename_i e0 T hm;simp only[sJ,DT.done.injEq]at h;obtain⟨rfl,hT⟩:=h;have hq:Q e (mask T S):=by rw[hT];exact hg
   exact IWP.less (fun β G Kp a w r=>r.masked hm) (fin _ hq)
  ·cases h
 ·cases h
theorem finG_post{e:Exit}{S:St}{g:DT}{β:Homes}{G Kp:Kept}{a:Act}{w:World}(h:finG ro.m e S g=some g)(hg:g.holds P ro Q L)(r:RS β G Kp S a w):∃U β',Homes.low ro.m β β'/\RS β' G Kp U a w/\Q e U:=by
 unfold finG at h;split at h
 ·split at h
  ·rename_i e0 T hm;simp only[sJ,DT.done.injEq]at h;obtain⟨rfl,hT⟩:=h;obtain⟨β',h0,r'⟩:=r.masked hm;exact⟨_,β',h0,r',by rw[hT];exact hg⟩
  ·cases h
 ·cases h
theorem AWP.weak{c:Code}{S:St}{Q':Exit->St->Prop}(h:AWP P ro c S Q)(hq:∀e S' β G K a w,Q e S'->RS β G K S' a w->∃S'' β',Homes.low ro.m β β'/\RS β' G K S'' a w/\Q' e S''):AWP P ro c S Q':=
 fun β G K a w r=>wpIn_mono (h β G K a w r) fun e a' w' ⟨S',β',G',K',h0,h1,h2,r',q⟩=>by
  obtain⟨S2,β2,h3,r2,q2⟩:=hq e S' β' G' K' a' w' q r';exact⟨S2,β2,G',K',h0.trans h3,h1,h2,r2,q2⟩
theorem atG_ok{S:St}{g:DT}{K:List Item}(h:atG ro.m K S g=some g)(hg:g.holds P ro Q L):IWP P ro (startOf K) S Q L:=by
 unfold atG at h;split at h
 ·split at h
  ·rename_i e0 T hm;simp only[sJ,DT.at.injEq]at h;obtain⟨rfl,hT⟩:=h;have hl:L (startOf K) (mask T S):=by rw[hT];exact hg
   exact IWP.less (fun β G Kp a w r=>r.masked hm) (IWP.leaf hl)
  ·cases h
 ·cases h
theorem itemG_ok(hmx:P.follows .mixedOrders=true){rec:List Item->St->DT->Option DT}(ih:∀(K:List Item) (S:St) (g:DT),rec K S g=some g->g.holds P ro Q L->IWP P ro K S Q L)
  {K:List Item} {S:St} {g:DT} (hstep:itemG P ro.m rec K S g=some g) (hg:g.holds P ro Q L):IWP P ro K S Q L:=by
 have kok:∀(K':List Item) (S':St) (g':DT),rec K' S' g'=some g'->g'.holds P ro Q L->IX P ro K' Q L .normal S':=fun K' S' g' h' hg'=>ih K' S' g' h' hg';unfold itemG at hstep;split at hstep
 ·exact finG_ok hstep hg fun T hT=>IWP.nil hT
 ·exact IWP.inBlock (ih _ _ _ hstep hg)
 ·exact IWP.inScope (ih _ _ _ hstep hg)
 ·exact IWP.inLoop (atG_ok hstep hg)
 ·rename_i c K';split at hstep
  ·exact IWP.skip (ih _ _ _ hstep hg)
  ·exact IWP.label (ih _ _ _ hstep hg)
  ·exact IWP.seq (ih _ _ _ hstep hg)
  ·exact IWP.block (ih _ _ _ hstep hg)
  ·exact IWP.scope (ih _ _ _ hstep hg)
  ·exact IWP.loop (atG_ok hstep hg)
  ·rename_i id;split at hstep
   ·rename_i K2 hk;exact IWP.exit hk (ih _ _ _ hstep hg)
   ·rename_i hk;exact finG_ok hstep hg fun T hT=>IWP.exit_out hk hT
  ·exact finG_ok hstep hg fun T hT=>IWP.ret hT
  ·rename_i c x y;split at hstep
   ·rename_i b hb;split at hstep
    ·rename_i b0 gt gf;split at hstep
     ·rename_i r1 r2 h1 h2;cases hstep;exact IWP.cond hb (fun hb'=>ih _ _ _ h1 (hg.1 hb')) (fun hb'=>ih _ _ _ h2 (hg.2 hb'))
     ·cases hstep
    ·rename_i c0 g';obtain⟨r,hr,e⟩:=map_some_eq hstep;cases e;refine IWP.cond hb (fun hb'=> ?_) (fun hb'=> ?_)
     ·subst hb';exact ih _ _ _ hr hg
     ·subst hb';exact ih _ _ _ hr hg
    ·cases hstep
   ·cases hstep
  ·rename_i id ops;split at hstep
   ·rename_i c0 S0 x S' g';obtain⟨r,hr,e⟩:=map_some_eq hstep;simp only[DT.over.injEq,true_and]at e;obtain⟨rfl,rfl,rfl,rfl⟩:=e;obtain⟨hw,hg'⟩:=hg;refine IWP.code (hw.weak ?_);rintro e T β G Kp a w ⟨rfl,rfl⟩ rs
    exact⟨T,β,Homes.low_refl _ _,rs,ih _ _ _ hr hg'⟩
   ·exact IWP.code (AWP.region (runOpsG_ok (Q1:=IX P ro K' Q L) (kok K') _ _ _ _ hstep hg))
  ·rename_i id ops;split at hstep
   ·rename_i c0 S0 x S' g';obtain⟨r,hr,e⟩:=map_some_eq hstep;simp only[DT.over.injEq,true_and]at e;obtain⟨rfl,rfl,rfl,rfl⟩:=e;obtain⟨hw,hg'⟩:=hg;refine IWP.code (hw.weak ?_);rintro e T β G Kp a w ⟨rfl,rfl⟩ rs
    exact⟨T,β,Homes.low_refl _ _,rs,ih _ _ _ hr hg'⟩
   ·exact IWP.code (splitG_ok (Q1:=IX P ro K' Q L) hmx (kok K') _ hstep hg)
  ·rename_i f ps az body;split at hstep
   ·rename_i c0 S0 x S' g';obtain⟨r,hr,e⟩:=map_some_eq hstep;simp only[DT.over.injEq,true_and]at e;obtain⟨rfl,rfl,rfl⟩:=e;obtain⟨hw,hg'⟩:=hg;refine IWP.code (hw.weak ?_);rintro e T β G Kp a w ⟨rfl,rfl⟩ rs
    split at hr
    ·exact⟨T,β,Homes.low_refl _ _,rs,ih _ _ _ hr hg'⟩
    ·obtain⟨U,β',h0,rs',hq⟩:=finG_post hr hg' rs;exact⟨U,β',h0,rs',hq⟩
    ·rename_i id;split at hr
     ·rename_i K2 hk;exact⟨T,β,Homes.low_refl _ _,rs,by simp only[IX,hk];exact ih _ _ _ hr hg'⟩
     ·rename_i hk;obtain⟨U,β',h0,rs',hq⟩:=finG_post hr hg' rs;exact⟨U,β',h0,rs',by simp only[IX,hk];exact hq⟩
    ·cases hr
   ·cases hstep
  ·cases hstep
 ·cases hstep
theorem runG_ok(hmx:P.follows .mixedOrders=true):∀(n:Nat) (K:List Item) (S:St) (g:DT),runG P ro.m n K S g=some g->g.holds P ro Q L->IWP P ro K S Q L:=by
 intro n
 induction n with
 |zero=>intro K S g h;simp[runG]at h
 |succ n ih=>
  intro K S g h hg;by_cases hown:∃j e w g',g=.own j e w g'
  ·obtain⟨j,e,w,g',rfl⟩:=hown;simp only[runG]at h;split at h
   ·rename_i S' ho;obtain⟨r,hr,e⟩:=map_some_eq h;cases e;exact IWP.less (fun β G Kp a w r=>⟨_,(Homes.le_append _ _).low _,r.own ho⟩) (ih K S' g' hr hg)
   ·cases h
  by_cases hfrz:∃i b g',g=.frz i b g'
  ·obtain⟨i,b,g',rfl⟩:=hfrz;simp only[runG]at h;split at h
   ·rename_i b' S' ho;obtain⟨r,hr,e⟩:=map_some_eq h;cases e;obtain⟨hb,hg'⟩:=hg;subst hb;have:=ih K S' g' hr hg'
    exact fun β G Kp a w r b k cs hro hb hrm=>by
     obtain⟨G',hG,K',hK,r'⟩:=r.frz ho;rcases this _ G' K' a w r' b k cs hro hb hrm with⟨e,a',w',hp,harr⟩|⟨K2,a',w',hp,hs⟩
     ·exact .inl ⟨e,a',w',hp.up (Homes.low_refl _ _) hG hK,harr⟩
     ·exact .inr ⟨K2,a',w',hp.up (Homes.low_refl _ _) hG hK,hs⟩
   ·cases h
  by_cases hvle:∃j v v' g',g=.vle j v v' g'
  ·obtain⟨j,v,v',g',rfl⟩:=hvle;simp only[runG]at h;obtain⟨r,hr,e⟩:=map_some_eq h;simp only[DT.vle.injEq,true_and]at e;obtain⟨hv,rfl⟩:=e;obtain⟨hle,hg'⟩:=hg;refine IWP.less (fun β G Kp a w r=>⟨β,Homes.low_refl _ _,r.retell ?_⟩) (ih K _ _ hr hg');have:=r.tmp j;rw[hv]at this;exact hle _ _ _ this
  by_cases htel:∃i w k c c' g',g=.telb i w k c c' g'
  ·obtain⟨i,w,k,c,c',g',rfl⟩:=htel;simp only[runG]at h;split at h
   ·rename_i e0 w0 k0 c0 hi;obtain⟨r,hr,e⟩:=map_some_eq h;simp only[DT.telb.injEq,true_and]at e;obtain⟨rfl,rfl,rfl,rfl⟩:=e;obtain⟨hle,hg'⟩:=hg;exact IWP.less (fun β G Kp a w r=>⟨β,Homes.low_refl _ _,r.retellB hi hle⟩) (ih K _ _ hr hg')
   ·rename_i e0 w0 k0 c0 r0 j0 v0 hi;split at h
    ·rename_i hv;obtain⟨r,hr,e⟩:=map_some_eq h;simp only[DT.telb.injEq,true_and]at e;obtain⟨rfl,rfl,rfl,rfl⟩:=e;obtain⟨hle,hg'⟩:=hg;exact IWP.less (fun β G Kp a w r=>⟨β,Homes.low_refl _ _,r.retellL hi hv hle⟩) (ih K _ _ hr hg')
    ·cases h
   ·cases h
  by_cases hcas:∃b g1 g2,g=.cas b g1 g2
  ·obtain⟨b,g1,g2,rfl⟩:=hcas;simp only[runG]at h;split at h
   ·rename_i r1 r2 h1 h2;cases h
    cases b with
    |true=>exact ih K S _ h1 (hg.1 rfl)
    |false=>exact ih K S _ h2 (hg.2 rfl)
   ·cases h
  by_cases hdr:∃T g',g=.drop T g'
  ·obtain⟨T,g',rfl⟩:=hdr;simp only[runG]at h;split at h
   ·rename_i hm;obtain⟨r,hr,e⟩:=map_some_eq h;cases e;exact IWP.less (fun β G Kp a w r=>r.masked hm) (ih K _ _ hr hg)
   ·cases h
  by_cases htc:∃i cs cs' g',g=.telc i cs cs' g'
  ·obtain⟨i,cs,cs',g',rfl⟩:=htc;simp only[runG]at h;split at h
   ·rename_i cs0 hi;obtain⟨r,hr,e⟩:=map_some_eq h;simp only[DT.telc.injEq,true_and]at e;obtain⟨rfl,rfl⟩:=e;obtain⟨hl,hle,hg'⟩:=hg;exact IWP.less (fun β G Kp a w r=>⟨β,Homes.low_refl _ _,r.retellC hi hl hle⟩) (ih K _ _ hr hg')
   ·cases h
  by_cases hnv:g=.never
  ·subst hnv;exact hg.elim
  by_cases hwt:∃k g',g=.wait k g'
  ·obtain⟨k,g',rfl⟩:=hwt
   cases k with
   |zero=>
    simp only[runG]at h;obtain⟨r,hr,e⟩:=map_some_eq h;cases e;exact ih K S g' hr hg
   |succ k=>
    simp only[runG]at h;obtain⟨r,hr,e⟩:=map_some_eq h
    have:r=.wait k g':=by
     cases r<;>simp only[bump]at e<;>first|(cases e;rfl)|cases e
    subst this;exact itemG_ok hmx ih hr hg
  have hstep:itemG P ro.m (runG P ro.m n) K S g=some g:=by
   rw[<-h];cases g<;>first|rfl|exact absurd ⟨_,_,_,_,rfl⟩ hown|exact absurd ⟨_,_,_,rfl⟩ hfrz|exact absurd ⟨_,_,_,_,rfl⟩ hvle|exact absurd ⟨_,_,_,_,_,_,rfl⟩ htel|exact absurd ⟨_,_,rfl⟩ hwt|exact absurd ⟨_,_,_,rfl⟩ hcas|exact absurd ⟨_,_,rfl⟩ hdr|exact absurd ⟨_,_,_,_,rfl⟩ htc|exact absurd rfl hnv
  exact itemG_ok hmx ih hstep hg
end
inductive Tr(α ρ:Type) where
 |go (a:α)
 |out (r:ρ)
 |need (b:Bool) (t:Tr α ρ)
 |scal (p:Nat->Bool) (t:Tr α ρ)
 |br (b:Bool) (t f:Tr α ρ)
 |lit (b:Bool) (t:Tr α ρ)
 |call (f:FuncId) (us:List V) (v:V) (ob ok:Bool) (t:Tr α ρ)
 |own (j:Nat) (e:TypeId) (w:Nat) (t:Tr α ρ)
 |frz (i:Nat) (b:Bool) (t:Tr α ρ)
 |front (cs:List (Nat × FuncId × List V × V)) (ov:List (Nat × Bool)) (ob ok:Bool) (t:Tr α ρ)
 |vle (j:Nat) (v v':V) (t:Tr α ρ)
 |telb (i w n:Nat) (c c':Nat->Nat->V) (t:Tr α ρ)
 |wait (k:Nat) (t:Tr α ρ)
 |cas (b:Bool) (t f:Tr α ρ)
 |hcall (f:FuncId) (us:List V) (v:V) (h h':List Blk) (ok:Bool) (t:Tr α ρ)
 |yld (X:Ext) (tr us us':List V) (ok:Bool) (t:Tr α ρ)
 |over (c:Code) (S:St) (x:Exit) (S':St) (ok:Bool) (t:Tr α ρ)
 |sem (o:Op) (us:List (Operand × V)) (h:List Blk) (v:V) (h':List Blk) (ok:Bool) (t:Tr α ρ)
 |semn (o:Op) (us:List (Operand × V)) (h:List Blk) (n:Nat) (vs:Nat->V) (hs:Nat->List Blk) (ok:Bool) (f:Nat->Tr α ρ)
 |drop (T:St) (t:Tr α ρ)
 |telc (i:Nat) (cs cs':List V) (t:Tr α ρ)
 |never
section
variable {α ρ:Type}
def Tr.toD(cfg:α->List Item × St)(fin:ρ->Exit × St):Tr α ρ->DT
 |.go a=>.at (cfg a).1 (cfg a).2
 |.out r=>.done (fin r).1 (fin r).2
 |.need b t=>.need b (t.toD cfg fin)
 |.scal p t=>.scal p (t.toD cfg fin)
 |.br b t f=>.br b (t.toD cfg fin) (f.toD cfg fin)
 |.lit b t=>.lit b (t.toD cfg fin)
 |.call f us v ob _ t=>.call f us v ob (t.toD cfg fin)
 |.own j e w t=>.own j e w (t.toD cfg fin)
 |.frz i b t=>.frz i b (t.toD cfg fin)
 |.front cs ov ob _ t=>.front cs ov ob (t.toD cfg fin)
 |.vle j v v' t=>.vle j v v' (t.toD cfg fin)
 |.telb i w n c c' t=>.telb i w n c c' (t.toD cfg fin)
 |.wait k t=>.wait k (t.toD cfg fin)
 |.cas b t f=>.cas b (t.toD cfg fin) (f.toD cfg fin)
 |.hcall f us v h h' _ t=>.hcall f us v h h' (t.toD cfg fin)
 |.yld X tr us us' _ t=>.yld X tr us us' (t.toD cfg fin)
 |.over c S x S' _ t=>.over c S x S' (t.toD cfg fin)
 |.sem o us h v h' _ t=>.sem o us h v h' (t.toD cfg fin)
 |.semn o us h n vs hs _ f=>.semn o us h n vs hs fun j=>(f j).toD cfg fin
 |.drop T t=>.drop T (t.toD cfg fin)
 |.telc i cs cs' t=>.telc i cs cs' (t.toD cfg fin)
 |.never=>.never
def cuts(K:List Item):Code->List (List Item)
 |.seq a b=>cuts (.code b::K) a++cuts K b
 |.cond _ x y=>cuts K x++cuts K y
 |.block id a=>cuts (.inBlock id::K) a
 |.scope a=>cuts (.inScope a::K) a
 |.loop a=>(.inLoop a::K)::cuts (.inLoop a::K) a
 |_=>[]
def cutOf(fn:Func)(j:Nat):List Item:=(cuts [] (fn.body.getD .skip)).getD j []
def mk(n:Nat)(l:List (Nat × V)):List V:=(List.range n).map fun i=>(l.lookup i).getD .undef
theorem HCalls.of_body{P:Program}{f:FuncId}{fn:Func}{c:Code}{args:List V}{v:V}{h h':List Blk}(hf:P.funcs[f]? =some fn)(hb:fn.body=some c)(hn:(fn.name== "runtime.NumGoroutine")=false)
  (hw:AWP P ⟨none,h.length⟩ c {t:=args++List.replicate (fn.ntmps-args.length) .undef,h:=h,d:=[]} fun e S=>(e=.normal\/e=.ret)/\S.d=[]/\S.h=h'/\resultV P fn S=some v):HCalls P f args v h h':=by
 have hn':¬fn.name= "runtime.NumGoroutine" :=by simpa using hn
 refine⟨fun xs w=>by simp[callFunc,hf,hn',hb],fun β G K w xs rh hl hr=> ?_⟩;refine callsIn_wide.1 (callsIn_of_wp_marks (F:=wide ⟨none,0⟩) (n:=0) hf hb trivial ?_)
 have r:RS β G K {t:=args++List.replicate (fn.ntmps-args.length) .undef,h:=h,d:=[]} {tmps:=xs++Array.replicate (fn.ntmps-xs.size) Go.undef,defers:=[]} w:=by
  refine⟨rh,by simp[hl],fun j=> ?_,rfl,by simp⟩;rcases Nat.lt_or_ge j args.length with h1|h1
  ·rw[getD_append_left h1,agetD_append_left (by omega)];exact hr j h1
  ·rw[getD_append_right h1,agetD_append_right (by omega)]
   have:(List.replicate (fn.ntmps-args.length) V.undef).getD (j-args.length) .undef=.undef:=by
    rw[gE,List.getElem?_replicate];split<;>rfl
   rw[this];exact .undef _
 refine wpIn_mono (hw β G K _ w r) fun e a' w' hp=> ?_;obtain⟨S,β',G',K',h0,hG,hK,r',he,hd,hh,hv⟩:=hp
 have hle:β.le β':=by
  unfold Homes.low at h0;rwa[List.take_of_length_le (by simp only;rw[rh.len];exact Nat.le_refl _)]at h0
 have hdef:a'.defers=[]:=List.eq_nil_of_length_eq_zero (by rw[r'.marks,hd];rfl);obtain⟨x,hx,hrx⟩:=resultV_ok r'.h r'.tmp hv
 have leaves:LeavesInM (wide ⟨none,0⟩) 0 P fn a'.tmps (fun e w'=>∃x β' G' K',e=.returned x/\β.le β'/\G.ext K G'/\K.le K'/\RH β' G' K' h' w'/\Rel G' β' v x) a'.defers .returning w':=by
  rw[hdef];exact⟨x,hx,x,β',G',K',rfl,hle,hG,hK,by rw[<-hh];exact r'.h,hrx⟩
 rcases he with rfl|rfl
 ·exact leaves
 ·exact leaves
end
structure Ty(τ:Type) where
 w:Nat
 cells:τ->List V
 zero:τ
def rowsOf{τ:Type}(E:Ty τ)(l:List τ):Nat->Nat->V:=fun i j=>(E.cells (l.getD i E.zero)).getD j .undef
def rowsRev{τ:Type}(E:Ty τ):List τ->Nat->Nat->V
 |[]=>fun _ _=>.undef
 |x::acc=>appC acc.length (rowsRev E acc) (fun _ j=>(E.cells x).getD j .undef)
abbrev Ty.lst{τ:Type}(E:Ty τ)(l:List τ):V:=.list E.w l.length (rowsOf E l)
theorem VLe.list{w n:Nat}{c c':Nat->Nat->V}(h:∀i j,i<n->j<w->c i j=c' i j):VLe (.list w n c) (.list w n c'):=fun G β x hx=>by
 cases hx with
 |list0=>exact .list0
 |list hG hsz hcap hn hc=>exact .list hG hsz hcap hn fun i j hi hj=>by rw[<-h i j hi hj];exact hc i j hi hj
theorem VLe.nils{w:Nat}{c:Nat->Nat->V}:VLe .nils (.list w 0 c):=fun G β x hx=>by cases hx;exact .list0
theorem rowsRev_get{τ:Type}(E:Ty τ):∀(acc:List τ) (i j:Nat),i<acc.length->rowsRev E acc i j=rowsOf E acc.reverse i j
 |[],i,j,h=>by simp at h
 |x::acc,i,j,h=>by
  simp only[rowsRev,appC];split
  ·rename_i hlt;rw[rowsRev_get E acc i j hlt];simp[rowsOf,gE,aL (show i<acc.reverse.length by simpa using hlt)]
  ·rename_i hge;have:i=acc.length:=by simp at h;omega
   subst this;simp[rowsOf,gE]
theorem VLe.rev{τ:Type}(E:Ty τ)(acc:List τ):VLe (.list E.w acc.length (rowsRev E acc)) (E.lst acc.reverse):=by
 have:=VLe.list (w:=E.w) (n:=acc.length) (c:=rowsRev E acc) (c':=rowsOf E acc.reverse) fun i j hi _=>rowsRev_get E acc i j hi;simpa[Ty.lst]using this
theorem PCalls.vle{P:Program}{f:FuncId}{args args':List V}{post:V->Prop}(h:PCalls P f args post)(hl:args'.length=args.length)(hv:∀j,j<args.length->VLe (args'.getD j .undef) (args.getD j .undef)):PCalls P f args' post:=
 ⟨h.1,fun G w xs hk hlen hr=>h.2 G w xs hk (by omega) fun j hj=>hv j hj _ _ _ (hr j (by omega))⟩
def tint:Ty Int:=⟨1,fun n=>[.int .i64 n],0⟩
section
variable {P:Program} {h:List Blk}
theorem home_obj{β:Homes}{G K:Kept}{w:World}(r:RH β G K h w){q:Nat}{o:Obj}{b:Nat}(hq:h[q]? =some (.obj o))(hm:Rel G β (.map q) (.map (some b))):∃x:Home,β[q]? =some (.lie x)/\x.b=b/\w.heap[b]? =some o:=by
 cases hm with
 |map hi=>
  rename_i x;have:=r.blk q _ hq;rw[hi]at this;exact⟨x,hi,rfl,this⟩
theorem rel_map_inv{G:Kept}{β:Homes}{q:Nat}{x:Value}(h:Rel G β (.map q) x):∃b,x=.map (some b):=by
 cases h with
 |map hi=>exact⟨_,rfl⟩
theorem rel_int_inv{G:Kept}{β:Homes}{k:IntKind}{n:Int}{x:Value}(h:Rel G β (.int k n) x):x=.int k n:=by cases h;rfl
def leftM(n:Nat)(seen:Array Nat):List Nat:=(List.range n).filter fun i=> !seen.contains i
end
section
variable {P:Program} {h:List Blk}
theorem rel_str_inv{G:Kept}{β:Homes}{s:ByteArray}{x:Value}(h:Rel G β (.str s) x):x=.string s:=by cases h;rfl
theorem sem_rangeStr{t:TypeId}{x:Operand}{s:ByteArray}(ht:P.underlying t=some .string):SemOK P (.range t x) [(x,.str s)] h (.ref h.length 0 0) (h++ [.obj (.stringIter s 0)]):=fun β G K w ρ' oper ho _ r hr=>by
 have hx:=rel_str_inv (hr (x,.str s) (by simp));simp only at hx;refine⟨.value (.pointer (some ⟨w.heap.size,0,none⟩)),w.alloc (.stringIter s 0),β++ [Hm.lie ⟨w.heap.size,0,0⟩],?_,Homes.le_append _ _,r.push rfl (heap_alloc_new w _),?_⟩
 ·simp only[execOp,ho,hx,Instr.range,Sem.run_bind,run_underlying' ht,Result.andThen_ok,Sem.run_pure,run_newObj,World.alloc_eq]
 ·have:=Rel.ref (G:=G) (r:=0) (off:=0) (ref_new r w.heap.size 0 0);simp only[Nat.zero_mul,Nat.add_zero]at this;exact this
theorem home_ref{β:Homes}{G K:Kept}{w:World}(r:RH β G K h w){i:Nat}{o:Obj}{p:Value}(hi:h[i]? =some (.obj o))(hp:Rel G β (.ref i 0 0) p):∃x:Home,β[i]? =some (.lie x)/\p=.pointer (some ⟨x.b,0,none⟩)/\w.heap[x.b]? =some o:=by
 cases hp with
 |ref hb=>
  rename_i x;have:=r.blk i _ hi;rw[hb]at this;exact⟨x,hb,by simp,this⟩
theorem sem_nextStr{x:Operand}{s:ByteArray}{i pos:Nat}(hi:h[i]? =some (.obj (.stringIter s pos)))(hp:pos<s.size):
  SemOK P (.next x true) [(x,.ref i 0 0)] h (.tuple [.bool true,.int .i64 pos,.int .i32 (Utf8.decode s pos).1]) (h.set i (.obj (.stringIter s (pos+(Utf8.decode s pos).2)))):=fun β G K w ρ' oper ho _ r hr=>by
 obtain⟨y,hb,he,hh⟩:=home_ref r hi (hr (x,.ref i 0 0) (by simp));simp only at he;have hlt:=(Array.getElem?_eq_some_iff.1 hh).1;refine⟨.value (.tuple #[.bool true,.int .i64 pos,.int .i32 (Utf8.decode s pos).1]),w.putObj y.b (.stringIter s (pos+(Utf8.decode s pos).2)),β,?_,Homes.le_refl _,r.write hi (by simp) hb (fun b hb=>World.putObj_heap_other hb) (by simp) (World.putObj_heap_same hlt),?_⟩
 ·simp only[execOp,ho,he,Sem.run_bind,Lib.run_next_any_at w y.b s pos oper.type hh hp,Result.andThen_ok,Sem.run_pure];rfl
 ·refine Rel.tuple rfl fun j hj=> ?_
  match j,hj with
  |0,_=>exact .bool _
  |1,_=>exact .int _ _
  |2,_=>exact .int _ _
theorem sem_nextStr0{x:Operand}{s:ByteArray}{i pos:Nat}(hi:h[i]? =some (.obj (.stringIter s pos)))(hp:¬pos<s.size):SemOK P (.next x true) [(x,.ref i 0 0)] h (.tuple [.bool false]) h:=fun β G K w ρ' oper ho _ r hr=>by
 obtain⟨y,hb,he,hh⟩:=home_ref r hi (hr (x,.ref i 0 0) (by simp));simp only at he;refine opOK_value (y:=.tuple #[.bool false]) r ?_ (.tuple rfl fun j hj=> ?_)
 ·simp only[execOp,ho,he,Sem.run_bind,Lib.run_next_end_at w y.b s pos oper.type hh hp,Result.andThen_ok,Sem.run_pure]
 ·have:j=0:=by simp at hj;omega
  subst this;exact .bool _
end
end Ab
set_option maxRecDepth 100000
namespace Ab
def firstE{τ:Type}(of:Nat->τ->Int):Nat->List τ->Option (Nat × Int)
 |_,[]=>none
 |i,x::xs=>if of i x=0 then firstE of (i+1) xs else some (i,of i x)
theorem firstE_ne{τ:Type}{of:Nat->τ->Int}:∀ {l:List τ} {i j:Nat} {e:Int},firstE of i l=some (j,e)->e≠0
 |x::xs,i,j,e,h=>by
  simp only[firstE]at h;split at h
  ·exact firstE_ne h
  ·simp only[sJ,Prod.mk.injEq]at h;rename_i h1;rw[<-h.2];exact h1
theorem drop_cons{τ:Type}(d:τ)(l:List τ)(i:Nat)(hi:i<l.length):l.drop i=l.getD i d::l.drop (i+1):=by
 rw[List.drop_eq_getElem_cons hi];simp[gE,hi]
theorem rev_take{τ υ:Type}(f:τ->υ)(d:τ)(l:List τ)(i:Nat)(hi:i<l.length):((l.take (i+1)).map f).reverse=f (l.getD i d)::((l.take i).map f).reverse:=by
 rw[List.take_succ_eq_append_getElem hi,List.map_append,List.reverse_append,List.map_singleton,List.reverse_singleton,List.singleton_append];simp only[gE,List.getElem?_eq_getElem hi,Option.getD_some]
theorem rev_take'{τ υ:Type}(f:τ->υ)(d:τ)(l:List τ)(i:Nat)(hi:i<l.length):((l.map f).take (i+1)).reverse=f (l.getD i d)::((l.map f).take i).reverse:=by
 rw[<-List.map_take,<-List.map_take];exact rev_take f d l i hi
def firstI{τ:Type}(p:τ->Bool):Nat->List τ->Option Nat
 |_,[]=>none
 |i,x::xs=>if p x=true then some i else firstI p (i+1) xs
theorem firstI_any{τ:Type}(p:τ->Bool):∀(l:List τ) (i:Nat),(firstI p i l).isSome=l.any p
 |[],_=>rfl
 |x::xs,i=>by
  simp only[firstI,List.any_cons]
  cases p x with
  |true=>simp
  |false=>simpa using firstI_any p xs (i+1)
def natF{σ:Type}(f:Nat->σ->σ)(s:σ):Nat->σ
 |0=>s
 |n+1=>f n (natF f s n)
theorem flat_le{τ υ:Type}{f:τ->List υ}{b:Nat}:∀ {l:List τ},(∀x∈l,(f x).length<=b)->(l.flatMap f).length<=l.length*b
 |[],_=>by simp
 |x::xs,h=>by
  simp only[List.flatMap_cons,List.length_append,List.length_cons,Nat.succ_mul];have:=h x (by simp);have:=flat_le (f:=f) (b:=b) fun y hy=>h y (List.mem_cons_of_mem _ hy);omega
theorem take_snoc{τ:Type}(d:τ)(l:List τ)(i:Nat)(hi:i<l.length):l.take (i+1)=l.take i++ [l.getD i d]:=by
 rw[List.take_succ_eq_append_getElem hi];simp[gE,hi]
theorem getD_mem{τ:Type}(d:τ)(l:List τ)(i:Nat)(hi:i<l.length):l.getD i d∈l:=by
 rw[gE,List.getElem?_eq_getElem hi];exact List.getElem_mem hi
end Ab
namespace Ab
open Go
section
variable {α ρ:Type}
def Tr.sure(P:Program)(ro:Env)(φ:α⊕ρ->Prop):Tr α ρ->Prop
 |.go a=>φ (.inl a)
 |.out r=>φ (.inr r)
 |.need b t=>b=true/\(b=true->t.sure P ro φ)
 |.scal p t=>(∀r,p r=true)/\t.sure P ro φ
 |.br b t f=>(b=true->t.sure P ro φ)/\(b=false->f.sure P ro φ)
 |.lit _ t=>t.sure P ro φ
 |.call f us v ob _ t=>ob=true/\PCalls P f us (·=v)/\t.sure P ro φ
 |.own _ _ _ t=>t.sure P ro φ
 |.frz _ b t=>b=true/\t.sure P ro φ
 |.front cs _ ob _ t=>ob=true/\(∀c∈cs,PCalls P c.2.1 c.2.2.1 (·=c.2.2.2))/\t.sure P ro φ
 |.vle _ v v' t=>VLe v v'/\t.sure P ro φ
 |.telb _ w n c c' t=>(∀r j,r<n->j<w->VLe (c r j) (c' r j))/\t.sure P ro φ
 |.wait _ t=>t.sure P ro φ
 |.cas b t f=>(b=true->t.sure P ro φ)/\(b=false->f.sure P ro φ)
 |.hcall f us v h h' _ t=>HCalls P f us v h h'/\t.sure P ro φ
 |.yld X tr us us' _ t=>X.go tr=true/\YSpec P X/\tr++ [.tuple us']<+:X.ys/\(∀j,j<us'.length->VLe (us.getD j .undef) (us'.getD j .undef))/\t.sure P ro φ
 |.over c S x S' _ t=>AWP P ro c S (fun e T=>e=x/\T=S')/\t.sure P ro φ
 |.sem o us h v h' _ t=>SemOK P o us h v h'/\t.sure P ro φ
 |.semn o us h n vs hs _ f=>SemAny P o us h n vs hs/\∀j,j<n->(f j).sure P ro φ
 |.drop _ t=>t.sure P ro φ
 |.telc _ cs cs' t=>cs'.length=cs.length/\(∀j,j<cs.length->VLe (cs.getD j .undef) (cs'.getD j .undef))/\t.sure P ro φ
 |.never=>False
theorem Tr.sure_mono{P:Program}{ro:Env}{φ ψ:α⊕ρ->Prop}(h:∀x,φ x->ψ x):∀ {t:Tr α ρ},t.sure P ro φ->t.sure P ro ψ:=by
 intro t
 induction t with
 |go a=>exact h _
 |out r=>exact h _
 |need b t ih=>exact fun g=>⟨g.1,fun e=>ih (g.2 e)⟩
 |scal p t ih=>exact fun g=>⟨g.1,ih g.2⟩
 |br b t f iht ihf=>exact fun g=>⟨fun e=>iht (g.1 e),fun e=>ihf (g.2 e)⟩
 |lit b t ih=>exact ih
 |call f us v ob ok t ih=>exact fun g=>⟨g.1,g.2.1,ih g.2.2⟩
 |own j e w t ih=>exact ih
 |frz i b t ih=>exact fun g=>⟨g.1,ih g.2⟩
 |front cs ov ob ok t ih=>exact fun g=>⟨g.1,g.2.1,ih g.2.2⟩
 |vle j v v' t ih=>exact fun g=>⟨g.1,ih g.2⟩
 |telb i w n c c' t ih=>exact fun g=>⟨g.1,ih g.2⟩
 |wait k t ih=>exact ih
 |cas b t f iht ihf=>exact fun g=>⟨fun e=>iht (g.1 e),fun e=>ihf (g.2 e)⟩
 |hcall f us v h h' ok t ih=>exact fun g=>⟨g.1,ih g.2⟩
 |yld X tr us us' ok t ih=>exact fun g=>⟨g.1,g.2.1,g.2.2.1,g.2.2.2.1,ih g.2.2.2.2⟩
 |over c S x S' ok t ih=>exact fun g=>⟨g.1,ih g.2⟩
 |sem o us h v h' ok t ih=>exact fun g=>⟨g.1,ih g.2⟩
 |semn o us h n vs hs ok f ih=>exact fun g=>⟨g.1,fun j hj=>ih j (g.2 j hj)⟩
 |drop T t ih=>exact ih
 |telc i cs cs' t ih=>exact fun g=>⟨g.1,g.2.1,ih g.2.2⟩
 |never=>exact fun g=>g
theorem Tr.sure_holds{P:Program}{ro:Env}{cfg:α->List Item × St}{fin:ρ->Exit × St}{Q:Exit->St->Prop}{L:List Item->St->Prop}{φ:α⊕ρ->Prop}(h1:∀a,φ (.inl a)->L (startOf (cfg a).1) (cfg a).2)
  (h2:∀r,φ (.inr r)->Q (fin r).1 (fin r).2):∀ {t:Tr α ρ},t.sure P ro φ->(t.toD cfg fin).holds P ro Q L:=by
 intro t
 induction t with
 |go a=>exact h1 a
 |out r=>exact h2 r
 |need b t ih=>exact fun g=>⟨g.1,ih (g.2 g.1)⟩
 |scal p t ih=>exact fun g=>⟨g.1,ih g.2⟩
 |br b t f iht ihf=>exact fun g=>⟨fun e=>iht (g.1 e),fun e=>ihf (g.2 e)⟩
 |lit b t ih=>exact ih
 |call f us v ob ok t ih=>exact fun g=>⟨g.1,g.2.1,ih g.2.2⟩
 |own j e w t ih=>exact ih
 |frz i b t ih=>exact fun g=>⟨g.1,ih g.2⟩
 |front cs ov ob ok t ih=>exact fun g=>⟨g.1,g.2.1,ih g.2.2⟩
 |vle j v v' t ih=>exact fun g=>⟨g.1,ih g.2⟩
 |telb i w n c c' t ih=>exact fun g=>⟨g.1,ih g.2⟩
 |wait k t ih=>exact ih
 |cas b t f iht ihf=>exact fun g=>⟨fun e=>iht (g.1 e),fun e=>ihf (g.2 e)⟩
 |hcall f us v h h' ok t ih=>exact fun g=>⟨g.1,ih g.2⟩
 |yld X tr us us' ok t ih=>exact fun g=>⟨g.1,g.2.1,g.2.2.1,g.2.2.2.1,ih g.2.2.2.2⟩
 |over c S x S' ok t ih=>exact fun g=>⟨g.1,ih g.2⟩
 |sem o us h v h' ok t ih=>exact fun g=>⟨g.1,ih g.2⟩
 |semn o us h n vs hs ok f ih=>exact fun g=>⟨g.1,fun j hj=>ih j (g.2 j hj)⟩
 |drop T t ih=>exact ih
 |telc i cs cs' t ih=>exact fun g=>⟨g.1,g.2.1,ih g.2.2⟩
 |never=>exact fun g=>g.elim
def WP(P:Program)(ro:Env)(T:α->Tr α ρ)(φ:α⊕ρ->Prop)(a:α):Prop:=
 ∀X:α->Prop,(∀b,φ (.inl b)->X b)->(∀b,(T b).sure P ro (fun x=>match x with|.inl c=>X c|.inr r=>φ (.inr r))->X b)->X a
def Go(P:Program)(ro:Env)(T:α->Tr α ρ)(φ:α⊕ρ->Prop):α⊕ρ->Prop
 |.inl b=>WP P ro T φ b
 |.inr r=>φ (.inr r)
variable {P:Program} {ro:Env} {T:α->Tr α ρ} {φ ψ:α⊕ρ->Prop} {a:α}
theorem WP.stop(h:φ (.inl a)):WP P ro T φ a:=fun _ h1 _=>h1 a h
theorem WP.step(h:(T a).sure P ro (Go P ro T φ)):WP P ro T φ a:=fun X h1 h2=>
 h2 a (Tr.sure_mono (fun x hx=>match x,hx with|.inl b,hx=>hx X h1 h2|.inr r,hx=>hx) h)
theorem WP.bind(h:WP P ro T φ a)(h1:∀x,φ x->Go P ro T ψ x):WP P ro T ψ a:=
 h (WP P ro T ψ) (fun b hb=>h1 (.inl b) hb) fun b hb=>WP.step (Tr.sure_mono (fun x hx=>match x,hx with|.inl c,hx=>hx|.inr r,hx=>h1 (.inr r) hx) hb)
theorem WP.mono(h:WP P ro T φ a)(h1:∀x,φ x->ψ x):WP P ro T ψ a:=
 h.bind fun x hx=>match x,h1 x hx with|.inl _,hx=>WP.stop hx|.inr _,hx=>hx
def Ends'(post:ρ->Prop):α⊕ρ->Prop
 |.inl _=>False
 |.inr r=>post r
theorem WP.iwp(hmx:P.follows .mixedOrders=true){cfg:α->List Item × St}{fin:ρ->Exit × St}(hsim:∀a,∃n,runG P ro.m n (startOf (cfg a).1) (cfg a).2 ((T a).toD cfg fin)=some ((T a).toD cfg fin))
  {post:ρ->Prop} (h:WP P ro T (Ends' post) a):IWP P ro (startOf (cfg a).1) (cfg a).2 (fun e S=>∃r,post r/\e=(fin r).1/\S=(fin r).2) (fun _ _=>False):=by
 refine h (fun a=>IWP P ro (startOf (cfg a).1) (cfg a).2 (fun e S=>∃r,post r/\e=(fin r).1/\S=(fin r).2) (fun _ _=>False)) (fun b hb=>hb.elim) fun b hb=> ?_;obtain⟨k,hk⟩:=hsim b
 refine(runG_ok hmx (Q:=fun e S=>∃r,post r/\e=(fin r).1/\S=(fin r).2)
  (L:=fun K S=>IWP P ro K S (fun e S=>∃r,post r/\e=(fin r).1/\S=(fin r).2) (fun _ _=>False)) k _ _ _ hk
  (Tr.sure_holds (fun a' ha'=>ha') (fun r hr=>⟨r,hr,rfl,rfl⟩) hb)).bind ?_
 exact fun K S h=>h
theorem AWP.wp(hmx:P.follows .mixedOrders=true){c:Code}{S:St}(T:α->Tr α ρ)(cfg:α->List Item × St)(fin:ρ->Exit × St)(e:α)(he:cfg e=([.code c],S))
  (hsim:∀a,∃n,runG P ro.m n (startOf (cfg a).1) (cfg a).2 ((T a).toD cfg fin)=some ((T a).toD cfg fin)) {post:ρ->Prop} (h:WP P ro T (Ends' post) e) {Q:Exit->St->Prop} (hfin:∀r,post r->Q (fin r).1 (fin r).2):AWP P ro c S Q:=by
 refine AWP.of_iwp ?_;have:=h.iwp hmx hsim;rw[he]at this;exact this.mono fun e S ⟨r,hp,h1,h2⟩=>by subst h1;subst h2;exact hfin r hp
theorem PCalls.wp(hmx:P.follows .mixedOrders=true){f:FuncId}{fn:Func}{c:Code}{args:List V}{post:V->Prop}(hf:P.funcs[f]? =some fn)(hb:fn.body=some c)(hn:(fn.name== "runtime.NumGoroutine")=false)
  (T:α->Tr α ρ) (cfg:α->List Item × St) (fin:ρ->Exit × St) (e:α) (he:cfg e=([.code c],{t:=args++List.replicate (fn.ntmps-args.length) .undef,h:=[],d:=[]}))
  (hsim:∀a,∃n,runG P 0 n (startOf (cfg a).1) (cfg a).2 ((T a).toD cfg fin)=some ((T a).toD cfg fin)) {pr:ρ->Prop} (h:WP P ⟨none,0⟩ T (Ends' pr) e) (hfin:∀r,pr r->bodyQ P fn post (fin r).1 (fin r).2):PCalls P f args post:=
 PCalls.of_body hf hb hn (AWP.wp hmx T cfg fin e he hsim h hfin)
theorem HCalls.wp(hmx:P.follows .mixedOrders=true){f:FuncId}{fn:Func}{c:Code}{args:List V}{v:V}{h h':List Blk}(hf:P.funcs[f]? =some fn)(hb:fn.body=some c)(hn:(fn.name== "runtime.NumGoroutine")=false)
  (T:α->Tr α ρ) (cfg:α->List Item × St) (fin:ρ->Exit × St) (e:α) (he:cfg e=([.code c],{t:=args++List.replicate (fn.ntmps-args.length) .undef,h:=h,d:=[]}))
  (hsim:∀a,∃n,runG P h.length n (startOf (cfg a).1) (cfg a).2 ((T a).toD cfg fin)=some ((T a).toD cfg fin)) {pr:ρ->Prop} (hw:WP P ⟨none,h.length⟩ T (Ends' pr) e)
  (hfin:∀r,pr r->((fin r).1=.normal\/(fin r).1=.ret)/\(fin r).2.d=[]/\(fin r).2.h=h'/\resultV P fn (fin r).2=some v):HCalls P f args v h h':=
 HCalls.of_body hf hb hn (AWP.wp hmx T cfg fin e he hsim hw hfin)
theorem WP.while{σ:Type}(pt:σ->α)(I:σ->Prop)(μ:σ->Nat)(hs:∀s,I s->WP P ro T (fun x=>(∃s',x=.inl (pt s')/\I s'/\μ s'<μ s)\/Go P ro T φ x) (pt s)){s:σ}(h0:I s):WP P ro T φ (pt s):=by
 have key:∀m s,μ s<m->I s->WP P ro T φ (pt s):=by
  intro m
  induction m with
  |zero=>intro s h;omega
  |succ m ih=>
   intro s hm hi;refine(hs s hi).bind fun x hx=> ?_;rcases hx with⟨s',rfl,hi',hlt⟩|hx
   ·exact ih s' (by omega) hi'
   ·exact hx
 exact key _ s (Nat.lt_succ_self _) h0
theorem WP.once(h:(T a).sure P ro φ):WP P ro T φ a:=
 WP.step (Tr.sure_mono (fun x hx=>match x,hx with|.inl _,hx=>WP.stop hx|.inr _,hx=>hx) h)
theorem WP.count(pt:Nat->α)(ha:pt 0=a)(n:Nat)(I:Nat->Prop)(h0:I 0)(hs:∀i,i<n->I i->WP P ro T (fun x=>(x=.inl (pt (i+1))/\I (i+1))\/Go P ro T φ x) (pt i))(he:I n->WP P ro T φ (pt n)):WP P ro T φ a:=by
 subst ha
 have key:∀m k:Nat,k+m=n->I k->WP P ro T φ (pt k):=by
  intro m
  induction m with
  |zero=>
   intro k hk hi;have hkn:k=n:=by omega
   subst hkn;exact he hi
  |succ m ih=>
   intro k hk hi;refine(hs k (by omega) hi).bind fun x hx=> ?_;rcases hx with⟨rfl,hi'⟩|hx
   ·exact ih (k+1) (by omega) hi'
   ·exact hx
 exact key n 0 (by omega) h0
theorem WP.findE{τ:Type}(pt:Nat->α)(ha:pt 0=a)(l:List τ)(d:τ)(of:Nat->τ->Int)
  (hs:∀i,i<l.length->WP P ro T (fun x=>(of i (l.getD i d)=0/\x=.inl (pt (i+1)))\/(of i (l.getD i d)≠0/\(firstE of 0 l=some (i,of i (l.getD i d))->Go P ro T φ x))) (pt i))
  (he:firstE of 0 l=none->WP P ro T φ (pt l.length)):WP P ro T φ a:=by
 subst ha;refine WP.count pt rfl l.length (fun i=>firstE of 0 l=firstE of i (l.drop i)) rfl (fun i hi hI=> ?_) (fun hI=>he (by rw[hI];simp[firstE]));refine(hs i hi).mono fun x hx=> ?_;rcases hx with⟨h1,h2⟩|⟨h1,h2⟩
 ·refine .inl ⟨h2,?_⟩;rw[hI,drop_cons d l i hi];simp only[firstE,h1,if_true]
 ·refine .inr (h2 ?_);rw[hI,drop_cons d l i hi];simp only[firstE,h1,if_false]
theorem WP.findI{τ:Type}(pt:Nat->α)(ha:pt 0=a)(l:List τ)(d:τ)(p:τ->Bool)
  (hs:∀i,i<l.length->WP P ro T (fun x=>(p (l.getD i d)=false/\x=.inl (pt (i+1)))\/(p (l.getD i d)=true/\(firstI p 0 l=some i->Go P ro T φ x))) (pt i))
  (he:firstI p 0 l=none->WP P ro T φ (pt l.length)):WP P ro T φ a:=by
 subst ha;refine WP.count pt rfl l.length (fun i=>firstI p 0 l=firstI p i (l.drop i)) rfl (fun i hi hI=> ?_) (fun hI=>he (by rw[hI];simp[firstI]));refine(hs i hi).mono fun x hx=> ?_;rcases hx with⟨h1,h2⟩|⟨h1,h2⟩
 ·refine .inl ⟨h2,?_⟩;rw[hI,drop_cons d l i hi];simp only[firstI,h1,Bool.false_eq_true,if_false]
 ·refine .inr (h2 ?_);rw[hI,drop_cons d l i hi];simp only[firstI,h1,if_true]
theorem WP.run(pt:Nat->α)(ha:pt 0=a)(n:Nat)(hs:∀i,i<n->WP P ro T (fun x=>x=.inl (pt (i+1))) (pt i))(he:WP P ro T φ (pt n)):WP P ro T φ a:=
 WP.count pt ha n (fun _=>True) trivial (fun i hi _=>(hs i hi).mono fun _ hx=>.inl ⟨hx,trivial⟩) fun _=>he
end
theorem RH.withAmb{β:Homes}{G K:Kept}{h:List Blk}{w:World}(r:RH β G K h w)(hx:noExt h=true){a:Amb}(ha:a.ok w):RH β ⟨G.f,a⟩ ⟨K.f,a⟩ h w:=
 ⟨r.len,fun i k hi=>BlkOK.monoF (G:=G) (G':=⟨G.f,a⟩) (r.blk i k hi) (fun _ _ q=>q) (Homes.le_refl _) (fun _ _=>rfl),r.inj,r.sep,r.keep,⟨r.gk.sub,rfl⟩,ha,fun i X tr hi=>absurd hi (noExt_not hx)⟩
theorem HCalls.tight{P:Program}{f:FuncId}{args:List V}{v:V}{h h':List Blk}(hc:HCalls P f args v h h')(hx:noExt h=true)(hx':noExt h'=true)(β:Homes)(G K:Kept)(w:World)(xs:Array Value)(r:RH β G K h w)
  (hl:args.length=xs.size) (hr:∀j,j<args.length->Rel G β (args.getD j .undef) (xs.getD j Go.undef)):
  Calls P f xs w fun e w'=>(∃x β' G' K',e=.returned x/\β.le β'/\G.ext K G'/\K.le K'/\RH β' G' K' h' w'/\Rel G' β' v x)/\Mild w w':=by
 refine(hc.2 β ⟨G.f,ambOf w⟩ ⟨K.f,ambOf w⟩ w xs (r.withAmb hx (ambOf_ok w)) hl (fun j hj=>Rel.monoF (G:=G) (G':=⟨G.f,ambOf w⟩) (fun _ _ q=>q) (hr j hj) (Homes.le_refl _))).mono ?_;rintro e w' ⟨x,β',G',K',h1,h2,h3,h4,h5,h6⟩
 have hm:Mild w w':=Mild.of_amb (by have:=h5.amb;rwa[<-h4.same]at this);have hg:G.amb=K.amb:=r.gk.same;exact⟨⟨x,β',⟨G'.f,K.amb⟩,⟨K'.f,K.amb⟩,h1,h2,⟨⟨h3.1.sub,hg⟩,h3.2⟩,⟨h4.sub,rfl⟩,h5.withAmb hx' (r.amb.mild hm),Rel.monoF (G:=G') (G':=⟨G'.f,K.amb⟩) (fun _ _ q=>q) h6 (Homes.le_refl _)⟩,hm⟩
mutual
def V.sh(k:Nat):V->V
 |.ref i r off=>.ref (i+k) r off
 |.row i n=>.row (i+k) n
 |.map i=>.map (i+k)
 |.yld i=>.yld (i+k)
 |.sub i r off w n=>.sub (i+k) r off w n
 |.agg vs=>.agg (shL k vs)
 |.tuple vs=>.tuple (shL k vs)
 |.func fn f c=>.func fn (shL k f) (shL k c)
 |.iface t v=>.iface t (v.sh k)
 |v=>v
def shL(k:Nat):List V->List V
 |[]=>[]
 |v::vs=>v.sh k::shL k vs
end
theorem shL_length(k:Nat):∀vs,(shL k vs).length=vs.length
 |[]=>rfl
 |v::vs=>by simp[shL,shL_length k vs]
theorem shL_getD(k:Nat):∀(vs:List V) (j:Nat),(shL k vs).getD j .undef=(vs.getD j .undef).sh k
 |[],j=>by simp[shL,V.sh]
 |v::vs,0=>by simp[shL]
 |v::vs,j+1=>by simpa[shL]using shL_getD k vs j
theorem Rel.sh{G:Kept}{γ:Homes}{v:V}{x:Value}(h:Rel G γ v x):∀ {β:Homes},Rel G (β++γ) (v.sh β.length) x:=by
 have look:∀ {β γ:Homes} {j:Nat} {z:Hm},γ[j]? =some z->(β++γ)[j+β.length]? =some z:=fun {β γ j z} hj=>by
  rw[List.getElem?_append_right (by omega),Nat.add_sub_cancel];exact hj
 induction h with
 |undef x=>intros;exact .undef x
 |bool b=>intros;exact .bool b
 |int k n=>intros;exact .int k n
 |str s=>intros;exact .str s
 |nil=>intros;exact .nil
 |nils=>intros;exact .nils
 |nilfunc=>intros;exact .nilfunc
 |nilmap=>intros;exact .nilmap
 |niliface=>intros;exact .niliface
 |cref g hsz h ih=>intros;exact .cref g hsz h
 |list0=>intros;exact .list0
 |list g hsz hcap hn h ih=>intros;exact .list g hsz hcap hn h
 |ref hi=>intros;exact .ref (look hi)
 |row hi hn hc hx=>intros;exact .row (look hi) hn hc hx
 |row0 hi=>intros;exact .row0 (look hi)
 |map hi=>intros;exact .map (look hi)
 |yld hi=>intros;exact .yld (look hi)
 |sub hi hc hx=>intros;exact .sub (look hi) hc hx
 |sub0=>intros;exact .sub0
 |arr hs h ih=>intros;exact .arr hs h
 |agg hs h ih=>intro β;exact .agg (by rw[shL_length];exact hs) fun j hj=>by rw[shL_getD];exact ih j (by rw[shL_length]at hj;exact hj)
 |tuple hs h ih=>intro β;exact .tuple (by rw[shL_length];exact hs) fun j hj=>by rw[shL_getD];exact ih j (by rw[shL_length]at hj;exact hj)
 |func hf hc h h' ih ih'=>
  intro β;exact .func (by rw[shL_length];exact hf) (by rw[shL_length];exact hc) (fun j hj=>by rw[shL_getD];exact ih j (by rw[shL_length]at hj;exact hj)) fun j hj=>by rw[shL_getD];exact ih' j (by rw[shL_length]at hj;exact hj)
 |iface h ih=>intros;exact .iface ih
def shOK:Blk->Bool
 |.gone|.cells _|.rows _ _ _ _|.rowsL _ _ _ _ _ _ _=>true
 |_=>false
def shB(k:Nat):Blk->Blk
 |.cells cs=>.cells (shL k cs)
 |.rowsL e w n c r j v=>.rowsL e w n c r j (v.sh k)
 |b=>b
theorem shB_gone{k:Nat}{b:Blk}(h:b=.gone):shB k b=.gone:=by subst h;rfl
theorem shB_ne{k:Nat}{b:Blk}(h:shB k b≠ .gone):b≠ .gone:=fun e=>h (shB_gone e)
theorem BlkOK.sh{G:Kept}{γ:Homes}{w:World}{k:Blk}{x:Hm}(h:BlkOK G γ w k x)(hk:shOK k=true)(β:Homes):BlkOK G (β++γ) w (shB β.length k) x:=by
 cases k with
 |gone=>exact h
 |cells cs=>
  cases x with
  |lie y=>
   obtain⟨c,t,h1,h2,h3⟩:=h;exact⟨c,t,h1,by rw[shL_length];exact h2,fun j hj=>by rw[shL_getD];exact(h3 j (by rw[shL_length]at hj;exact hj)).sh⟩
  |_=>exact h.elim
 |rows e n m rs=>cases x<;>first|exact h|exact h.elim
 |rowsL e n m rs r0 j0 v=>
  cases x with
  |lie y=>
   obtain⟨h0,hn,hc,c,h1,h2,h3,h4,h5,h6,h7,h8⟩:=h;exact⟨h0,hn,hc,c,h1,h2,h3,h4,h5,h6,h7,h8.sh⟩
  |_=>exact h.elim
 |_=>simp[shOK]at hk
theorem shOK_noExt{h:List Blk}(hok:h.all shOK=true):noExt h=true:=by
 rw[noExt,List.all_eq_true];intro k hk;have:=List.all_eq_true.1 hok k hk;cases k<;>first|rfl|simp[shOK]at this
theorem HCalls.frame{P:Program}{f:FuncId}{args:List V}{v:V}{h1:List Blk}(hc:HCalls P f args v [] h1)(ha:underL 0 args=true)(hok:h1.all shOK=true)(h:List Blk):HCalls P f args (v.sh h.length) h (h++h1.map (shB h.length)):=
 ⟨hc.1,fun β G K w xs r hl hr=>by
  have r0:RH [] G ⟨fun b=>w.heap[b]?,G.amb⟩ [] w:=⟨rfl,fun i k hi=>by simp at hi,fun i j x y k k' hi=>by simp at hi,fun i x k hi=>by simp at hi,fun b o hb=>hb,⟨fun b o hb=>r.keep b o (r.gk b o hb),rfl⟩,r.gamb,fun i X tr hi=>by simp at hi⟩
  refine(hc.tight rfl (shOK_noExt hok) [] G _ w xs r0 hl fun j hj=> ?_).mono ?_
  ·have:=(hr j hj).take (m:=0) (underL_getD ha j);simpa using this
  rintro e w' ⟨⟨x,γ,G',K',rfl,-,hG,hK,r',hx⟩,hmild⟩
  have hold:∀b,b<w.heap.size->w'.heap[b]? =w.heap[b]? :=fun b hb=>by
   have e1:w.heap[b]? =some w.heap[b]:=Array.getElem?_eq_getElem hb;rw[e1];exact r'.keep b _ (hK b _ e1)
  have hsize:w.heap.size<=w'.heap.size:=by
   rcases Nat.eq_zero_or_pos w.heap.size with h0|h0
   ·omega
   ·have e1:=hold (w.heap.size-1) (by omega);rw[Array.getElem?_eq_getElem (show w.heap.size-1<w.heap.size by omega)]at e1;have:=(Array.getElem?_eq_some_iff.1 e1).1;omega
  have hnew:∀ {b:Nat},K' b=none->w.heap.size<=b:=fun {b} hb=>by
   rcases Nat.lt_or_ge b w.heap.size with q|q
   ·have:=hK b _ (Array.getElem?_eq_getElem q);rw[hb]at this;cases this
   ·exact q
  have hblen:=r.len;have hglen:=r'.len
  let K2:Kept:=⟨fun b=>if b<w.heap.size then K b else K' b,K.amb⟩
  have K2lt:∀ {b:Nat},b<w.heap.size->K2 b=K b:=fun {b} hb=>by simp only[K2,hb,if_true]
  have K2ge:∀ {b:Nat},w.heap.size<=b->K2 b=K' b:=fun {b} hb=>by simp only[K2,show¬b<w.heap.size by omega,if_false]
  have Klt:∀ {b:Nat} {o:Obj},K b=some o->b<w.heap.size:=fun {b o} hb=>(Array.getElem?_eq_some_iff.1 (r.keep _ _ hb)).1
  have look:∀ {i:Nat} {k:Blk},(h++h1.map (shB h.length))[i]? =some k->(i<h.length/\h[i]? =some k/\(β++γ)[i]? =β[i]?)\/(h.length<=i/\(∃k1,h1[i-h.length]? =some k1/\k=shB h.length k1)/\(β++γ)[i]? =γ[i-h.length]?):=fun {i k} hi=>by
   rcases Nat.lt_or_ge i h.length with q|q
   ·rw[aL q]at hi;exact .inl ⟨q,hi,aL (by omega)⟩
   ·rw[List.getElem?_append_right q,List.getElem?_map]at hi;refine .inr ⟨q,?_,by rw[List.getElem?_append_right (by omega),hblen]⟩
    cases hh:h1[i-h.length]? with
    |none=>rw[hh]at hi;cases hi
    |some k1=>rw[hh]at hi;cases hi;exact⟨k1,rfl,rfl⟩
  refine⟨x,β++γ,G',K2,rfl,Homes.le_append _ _,⟨hG.1,fun b o hb=> ?_⟩,⟨fun b o hb=> ?_,rfl⟩,⟨by simp[hblen,hglen],fun i k hi=> ?_,fun i j x1 y1 k k' hi hj g g' hbi hbj hxy=> ?_,fun i x1 k hi g hbi=> ?_,fun b o hb=> ?_,⟨fun b o hb=> ?_,hG.1.same.symm.trans r.gk.same⟩,r.amb.mild hmild,fun i X tr hi=> ?_⟩,by rw[<-hblen];exact hx.sh⟩
  ·rcases hG.2 b o hb with q|q
   ·exact .inl q
   ·right
    cases hk:K b with
    |none=>rfl
    |some o'=>have q':w.heap[b]? =none:=q;rw[r.keep _ _ hk]at q';cases q'
  ·rw[K2lt (Klt hb)];exact hb
  ·rcases look hi with⟨_,hi',e⟩|⟨_,⟨k1,hi',rfl⟩,e⟩
   ·rw[e];by_cases hg:k=.gone
    ·subst hg;cases(β[i]?.getD .void)<;>trivial
    exact(r.blk i k hi').mono hG.1 (Homes.le_append _ _) fun y hy=>hold _ (by
     cases hb:β[i]? with
     |none=>simp[hb]at hy
     |some z=>simp[hb]at hy;subst hy;exact(r.sep i y k hi' hg hb).2)
   ·rw[e];have:=(r'.blk _ k1 hi').sh ((List.all_eq_true.1 hok) _ (List.mem_of_getElem? hi')) β;rw[hblen]at this;exact this
  ·rcases look hi with⟨l1,i1,e1⟩|⟨l1,⟨k1,i1,rfl⟩,e1⟩<;>rcases look hj with⟨l2,i2,e2⟩|⟨l2,⟨k2,i2,rfl⟩,e2⟩<;>rw[e1]at hbi<;>rw[e2]at hbj
   ·exact r.inj i j x1 y1 k k' i1 i2 g g' hbi hbj hxy
   ·have a1:=(r.sep i x1 k i1 g hbi).2;have a2:=hnew (r'.sep _ y1 k2 i2 (shB_ne g') hbj).1;omega
   ·have a1:=(r.sep j y1 k' i2 g' hbj).2;have a2:=hnew (r'.sep _ x1 k1 i1 (shB_ne g) hbi).1;omega
   ·have:=r'.inj _ _ x1 y1 k1 k2 i1 i2 (shB_ne g) (shB_ne g') hbi hbj hxy;omega
  ·rcases look hi with⟨l1,i1,e1⟩|⟨l1,⟨k1,i1,rfl⟩,e1⟩<;>rw[e1]at hbi
   ·have:=r.sep i x1 k i1 g hbi;exact⟨by rw[K2lt this.2];exact this.1,by omega⟩
   ·have:=r'.sep _ x1 k1 i1 (shB_ne g) hbi;exact⟨by rw[K2ge (hnew this.1)];exact this.1,this.2⟩
  ·rcases Nat.lt_or_ge b w.heap.size with q|q
   ·rw[K2lt q]at hb;rw[hold b q];exact r.keep b o hb
   ·rw[K2ge q]at hb;exact r'.keep b o hb
  ·rcases Nat.lt_or_ge b w.heap.size with q|q
   ·rw[K2lt q];rcases hG.2 b o hb with q1|q1
    ·exact r.gk b o q1
    ·have q2:w.heap[b]? =none:=q1;rw[Array.getElem?_eq_getElem q]at q2;cases q2
   ·rw[K2ge q];exact r'.gk b o hb
  ·rcases look hi with⟨l1,i1,e1⟩|⟨l1,⟨k1,i1,e3⟩,e1⟩
   ·obtain⟨l,E,q1,q2,q3,q4⟩:=r.ext i X tr i1;refine⟨l,E,by rw[e1];exact q1,X.stable q2 (fun b o hb=> ?_) (fun b o hb=> ?_) hsize hmild,⟨fun b o hb=> ?_,q3.same⟩,fun b hE=>⟨?_,fun j y k hj g hbj=> ?_⟩⟩
    ·have q:=X.keeps q2 b o hb;rw[hold b (Array.getElem?_eq_some_iff.1 q).1];exact q
    ·have q:=r.keep b o (q3 b o hb);rw[hold b (Array.getElem?_eq_some_iff.1 q).1];exact q
    ·have:=q3 b o hb;rw[K2lt (Klt this)];exact this
    ·rw[K2lt (Ext.lt q2 hE)];exact(q4 b hE).1
    ·rcases look hj with⟨l2,i2,e2⟩|⟨l2,⟨k2,i2,rfl⟩,e2⟩<;>rw[e2]at hbj
     ·exact(q4 b hE).2 j y k i2 g hbj
     ·have a1:=hnew (r'.sep _ y k2 i2 (shB_ne g) hbj).1;have a2:=Ext.lt q2 hE;omega
   ·have:=(List.all_eq_true.1 hok) _ (List.mem_of_getElem? i1)
    cases k1<;>simp[shB]at e3<;>simp[shOK]at this⟩
end Ab
namespace Go.Proofs.YtemgodefhcbleaaGreat
open Ab
structure Span where
 lo:Int
 hi:Int
 deriving DecidableEq
structure Shown where
 day:Int
 as_:ByteArray
structure Body where
 name:ByteArray
 shown:List Shown
structure Line where
 day:Int
 kind:Int
 a:Int
 b:Int
 c:Int
 d:Int
 set:Int
structure Book where
 bodies:List Body
 heads:List ByteArray
 lines:List Line
structure Pair where
 a:Int
 b:Int
 deriving DecidableEq
structure Truth where
 pairs:List Pair
 haves:List (List Int)
def zSpan:Span:=⟨0,0⟩
def zShown:Shown:=⟨0,ByteArray.empty⟩
def zBody:Body:=⟨ByteArray.empty,[]⟩
def zLine:Line:=⟨0,0,0,0,0,0,0⟩
def zPair:Pair:=⟨0,0⟩
def zTruth:Truth:=⟨[],[]⟩
def within(n a b:Int):Bool:=decide (a<=n)&&decide (n<=b)
theorem within_iff{n a b:Int}:within n a b=true↔a<=n/\n<=b:=by simp[within]
def outside(lo hi:Int)(l:List Int):Bool:=l.any fun n=> !within n lo hi
def firstR{τ:Type}(of:Nat->τ->Int)(l:List τ):Int × Int:=match firstE of 0 l with|some (i,e)=>((i:Int),e)|none=>(0,0)
def letter(c:UInt8):Bool:=within (c.toNat:Int) 97 122
def other(c:UInt8):Bool:=within (c.toNat:Int) 48 57||(c.toNat:Int)==46
def nameFrom(first:Bool):List UInt8->Bool
 |[]=>true
 |c::r=>(letter c||(!first&&other c))&&nameFrom false r
def nameOk(s:ByteArray):Bool:=decide (s.size≠0)&&decide (s.size<=16)&&nameFrom true s.data.toList
def same(a b:ByteArray):Bool:=a.toList==b.toList
def indexS(l:List ByteArray)(s:ByteArray):Int:=match firstI (fun o=>same o s) 0 l with|some i=>i|none=> -1
def newErr(s:ByteArray)(others:List ByteArray):Int:=if !nameOk s then 6 else if others.any (fun o=>same o s)then 5 else 0
def shownAt(l:List Shown)(i:Nat)(s:Shown):Int:=
 if !within s.day 0 364 then 7 else if 0<i/\s.day<=(l.getD (i-1) zShown).day then 2 else if !nameOk s.as_ then 6 else 0
def shownErr(l:List Shown):Int:=if(3:Int)<l.length then 3 else(firstR (shownAt l) l).2
def bodyAt(l:List Body)(i:Nat)(x:Body):Int:=if newErr x.name ((l.map (·.name)).take i)≠0 then newErr x.name ((l.map (·.name)).take i)else shownErr x.shown
def headAt(l:List ByteArray)(i:Nat)(s:ByteArray):Int:=newErr s (l.take i)
def bitH(s:Int)(i:Nat):Bool:=(s.fdiv (2^(min i 64))).tmod 2==1
def bitsR(s:Int):List Int:=((List.range 5).filter (bitH s)).map fun(i:Nat)=>(i:Int)
def indexR(b:Book)(n:Int):Bool:=within n 0 ((b.bodies.length:Int)-1)
def fieldsErr(b:Book)(x:Line):Int:=
 if x.kind=2 then
  if !within x.set 0 ((2:Int)^b.bodies.length-1)then 4
  else if((bitsR x.set).length:Int)<2\/x.a≠0\/x.b≠0\/x.c≠0\/x.d≠0 then 2 else 0
 else if !indexR b x.a|| !indexR b x.b||(x.kind==1&&(!indexR b x.c|| !indexR b x.d))then 4
 else if(x.kind<=1/\x.a=x.b)\/(x.kind=1/\x.c=x.d)\/x.set≠0\/(x.kind≠1/\(x.c≠0\/x.d≠0))then 2 else 0
def someTo(l:List Line)(n:Nat):Int:=natF (fun i s=>if(l.getD i zLine).kind=2 then s+1 else s) 0 n
def lineErr(b:Book)(i:Nat)(x:Line):Int:=
 if !within x.day 0 364 then 7 else if 0<i/\x.day<(b.lines.getD (i-1) zLine).day then 2 else if !within x.kind 0 4 then 7
 else if fieldsErr b x≠0 then fieldsErr b x else if x.kind=2/\2<someTo b.lines (i+1)then 3 else 0
def bookCheck(b:Book):Int × Int × Int:=
 if(5:Int)<b.bodies.length then(1,0,3)
 else match firstE (bodyAt b.bodies) 0 b.bodies with
  |some (i,e)=>(1,i,e)
  |none=>
   if b.heads.length≠b.bodies.length then(2,0,3)
   else match firstE (headAt b.heads) 0 b.heads with
    |some (i,e)=>(2,i,e)
    |none=>
     if(8:Int)<b.lines.length then(3,0,3)
     else match firstE (lineErr b) 0 b.lines with
      |some (i,e)=>(3,i,e)
      |none=>(0,0,0)
def pairR(a b:Int):Pair:=⟨min a b,max a b⟩
def beforeR(p q:Pair):Bool:=decide (p.a<q.a)||(decide (p.a=q.a)&&decide (p.b<q.b))
def somePairs(l:List Int):List Pair:=(List.range l.length).flatMap fun i=>((List.range l.length).drop (i+1)).map fun k=>⟨l.getD i 0,l.getD k 0⟩
def pairsR(x:Line):List Pair:=
 if x.kind=0 then[pairR x.a x.b]
 else if x.kind=1 then
  if pairR x.a x.b=pairR x.c x.d then[pairR x.a x.b]else if beforeR (pairR x.c x.d) (pairR x.a x.b)=true then[pairR x.c x.d,pairR x.a x.b]else[pairR x.a x.b,pairR x.c x.d]
 else if x.kind=2 then somePairs (bitsR x.set)else[zPair]
def swapR(h:List Int)(p:Pair):List Int:=(h.set p.a.toNat (h.getD p.b.toNat 0)).set p.b.toNat (h.getD p.a.toNat 0)
def doneR(h:List Int)(x:Line)(p:Pair):List Int × Bool:=
 if x.kind=3 then(h,h.getD x.a.toNat 0==x.b)else if x.kind=4 then(h,h.getD x.a.toNat 0 !=x.b)else(swapR h p,true)
def hasN(l:List Int)(n:Int):Bool:=l.any (·==n)
def waysR(but:List Int)(i:Nat)(x:Line)(t:Truth)(k:Nat)(p:Pair):List Truth:=
 if hasN but (i:Int)=true then(if k=0 then[⟨t.pairs++ [p],t.haves++ [t.haves.getD i []]⟩]else[])
 else if(doneR (t.haves.getD i []) x p).2=true then[⟨t.pairs++ [p],t.haves++ [(doneR (t.haves.getD i []) x p).1]⟩]else[]
def stepT(b:Book)(but:List Int)(i:Nat)(t:Truth):List Truth:=
 (List.range (pairsR (b.lines.getD i zLine)).length).flatMap fun k=>waysR but i (b.lines.getD i zLine) t k ((pairsR (b.lines.getD i zLine)).getD k zPair)
def firstH(b:Book):List Int:=(List.range b.bodies.length).map fun(i:Nat)=>(i:Int)
def truthsTo(b:Book)(but:List Int):Nat->List Truth
 |0=>[⟨[],[firstH b]⟩]
 |i+1=>(truthsTo b but i).flatMap (stepT b but i)
def truthsR(b:Book)(but:List Int):List Truth:=truthsTo b but b.lines.length
def lineN(b:Book)(day:Int):Int:=natF (fun i n=>if(b.lines.getD i zLine).day<=day then(i:Int)+1 else n) 0 b.lines.length
def atR(b:Book)(t:Truth)(day:Int):List Int:=t.haves.getD (lineN b day).toNat []
def toldE(b:Book)(numbers:List Int)(day:Int):Int:=
 if(bookCheck b).2.2≠0 then(bookCheck b).2.2 else if outside 0 ((b.bodies.length:Int)-1) numbers then 4 else if within day 0 364 then 0 else 7
def toldR(b:Book)(numbers:List Int)(day:Int):List Truth × Int:=
 if toldE b numbers day≠0 then([],toldE b numbers day)else if(truthsR b []).length=0 then([],8)else(truthsR b [],0)
def firstP(b:Book):List Pair × Int:=if(toldR b [] 0).2≠0 then([],(toldR b [] 0).2)else(((toldR b [] 0).1.getD 0 zTruth).pairs,0)
def anyT(b:Book)(day:Int)(all:List Truth)(i:Nat)(h:Int):Bool:=all.any fun t=>(atR b t day).getD i 0==h
def whereR(b:Book)(head day:Int):List Int × Int:=
 if(toldR b [head] day).2≠0 then([],(toldR b [head] day).2)else(((List.range b.bodies.length).filter fun i=>anyT b day (truthsR b []) i head).map fun(i:Nat)=>(i:Int),0)
def onR(b:Book)(body day:Int):List Int × Int:=
 if(toldR b [body] day).2≠0 then([],(toldR b [body] day).2)else(((List.range b.heads.length).filter fun(h:Nat)=>anyT b day (truthsR b []) body.toNat (h:Int)).map fun(i:Nat)=>(i:Int),0)
def sameI(a b:List Int):Bool:=decide (a=b)
def metN(met:List (List Int))(own:List Int):List (List Int):=if met.any (fun m=>sameI m own)=true then met else met++ [own]
def manyR(b:Book)(day:Int):Int × Int:=
 if(toldR b [] day).2≠0 then(0,(toldR b [] day).2)else(((((truthsR b []).map fun t=>atR b t day).foldl metN []).length:Int),0)
def namedR(x:Body)(day:Int):ByteArray:=natF (fun i s=>if(x.shown.getD i zShown).day<=day then(x.shown.getD i zShown).as_ else s) ByteArray.empty x.shown.length
def bodyOf(h:List Int)(head:Int):Int:=match firstI (fun x=>x==head) 0 h with|some i=>i|none=> -1
def seenR(b:Book)(t:Truth)(head day:Int):ByteArray:=namedR (b.bodies.getD (bodyOf (atR b t day) head).toNat zBody) day
def marksR(b:Book):List Int:=0::(b.lines.map fun x=>x.day)++b.bodies.flatMap fun x=>x.shown.map fun s=>s.day
def daysR(b:Book):List Int:=((List.range 365).filter fun(d:Nat)=>hasN (marksR b) (d:Int)||(hasN (marksR b) ((d:Int)+1)||(d:Int)==364)).map fun(i:Nat)=>(i:Int)
def shownR(b:Book)(t:Truth)(head:Int)(as_:ByteArray)(days:List Int):Bool:=days.any fun d=>same (seenR b t head d) as_
def sameP(p q:List Pair):Bool:=decide (p=q)
end Go.Proofs.YtemgodefhcbleaaGreat
