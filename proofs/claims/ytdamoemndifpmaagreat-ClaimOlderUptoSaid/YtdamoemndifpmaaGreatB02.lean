/-
  Part of the proof of the Claim laws. Conditions: those that stand in each theorem.
-/
import Derived.Laws.Small
import Derived.Test.YtdamoemndifpmaaGreatB01
set_option linter.unusedSimpArgs false
set_option linter.unusedVariables false
namespace Ab
open Go
def mapV(l:Array (Nat × Operand))(ρ:Operand->V):List (Nat × V):=l.toList.map fun(i,x)=>(i,ρ x)
def unV(op:UnOp):V->Option (Bool × V)
 |.bool b=>match op with|.not=>some (true,.bool !b)|_=>none
 |.int k n=>match op with
  |.neg=>arith k (0-n)
  |.xor=>some (true,.int k (bitsOf .xor k (if k.signed then-1 else k.max) n))
  |_=>none
 |_=>none
def convV(P:Program)(s d:TypeId):V->Option (Bool × V)
 |.int _ n=>match P.underlying s,P.underlying d with
  |some _,some (.int k)=>if k.signed then some (inR k n,.int k n)else some (true,.int k (k.wrap n))
  |_,_=>none
 |.str x=>match P.underlying s,P.underlying d with
  |some _,some .string=>some (true,.str x)
  |_,_=>none
 |_=>none
def nilV:V->Option V
 |.ref i r o=>some (.ref i r o)
 |.cref n c=>some (.cref n c)
 |.func (.func f) a b=>some (.func (.func f) a b)
 |.yld i=>some (.yld i)
 |_=>none
def lenV(P:Program)(t:TypeId):V->Option V
 |.list _ n _=>match P.underlying t with|some (.slice _)=>some (.int .i64 n)|_=>none
 |.row _ n=>match P.underlying t with|some (.slice _)=>some (.int .i64 n)|_=>none
 |.sub _ _ _ _ n=>match P.underlying t with|some (.slice _)=>some (.int .i64 n)|_=>none
 |.nils=>match P.underlying t with|some (.slice _)=>some (.int .i64 0)|_=>none
 |.str s=>match P.underlying t with|some .string=>some (.int .i64 s.size)|_=>none
 |_=>none
def sliceV(P:Program)(t:TypeId)(x lo hi:V):Option (Bool × V):=
 match P.underlying t,x,lo,hi with
 |some (.slice e),.list w n c,.int _ l,.int _ h=>
  if hasT P e=true/\szOf P e=w then some (decide (0<=l)&&decide (l<=h)&&decide (h<=(n:Int)),.list w (h.toNat-l.toNat) fun i j=>c (l.toNat+i) j)else none
 |some .string,.str s,.int _ l,.int _ h=>some (decide (0<=l)&&decide (l<=h)&&decide (h<=(s.size:Int)),.str (s.extract l.toNat h.toNat))
 |_,_,_,_=>none
def litC(sz len:Nat)(cs:List V):Nat->Nat->V:=if len=1 then fun _ j=>cs.getD j .undef else fun i j=>cs.getD (i*sz+j) .undef
theorem litC_eq{sz len:Nat}{cs:List V}{i j:Nat}(hi:i<len):litC sz len cs i j=cs.getD (i*sz+j) .undef:=by
 unfold litC;split
 ·rename_i h;subst h;have:i=0:=by omega
  subst this;rw[Nat.zero_mul,Nat.zero_add]
 ·rfl
def sliceH(P:Program)(h:List Blk)(t:TypeId)(x lo hi:V)(l0:Bool):Option (Bool × V):=
 match P.underlying t,x,lo,hi with
 |some (.slice e),.row b n,.int _ l,.int _ u=>
  match h[b]? with
  |some (.rows _ w m _)=>
   if hasT P e=true/\szOf P e=w then
    some (decide (0<=l)&&decide (l<=u)&&decide (u<=(n:Int))&&decide (n<=m),bif l0 then .row b u.toNat else .sub b l.toNat 0 w (u.toNat-l.toNat))
   else none
  |_=>none
 |some (.array len e),.ref b r off,.int _ l,.int _ u=>
  if hasT P e=true/\len<=maxn/\b<h.length then
   match rowsAt h (szOf P e) (.ref b r off),l0 with
   |some b',true=>
    match h[b']? with
    |some (.rows _ _ m _)=>some (decide (0<=l)&&decide (l<=u)&&decide (u<=(len:Int))&&decide (len=m),.row b' u.toNat)
    |_=>none
   |_,_=>some (decide (0<=l)&&decide (l<=u)&&decide (u<=(len:Int)),.sub b r (off+l.toNat*szOf P e) (szOf P e) (u.toNat-l.toNat))
  else none
 |some (.array len e),.cref n c,.int _ l,.int _ u=>
  if hasT P e=true/\len<=maxn/\len*szOf P e<=n then some (decide (l=0)&&decide (u=(len:Int)),.list (szOf P e) len fun i j=>c (i*szOf P e+j))else none
 |_,_,_,_=>none
def lenAt(P:Program)(t:TypeId):V->V
 |.list _ n _=>.int .i64 n
 |.str s=>.int .i64 s.size
 |.row _ n=>.int .i64 n
 |.ref _ _ _=>match arrOf P t with|some (len,_)=>.int .i64 len|none=>.undef
 |.cref _ _=>match arrOf P t with|some (len,_)=>.int .i64 len|none=>.undef
 |_=>.undef
def lenOfV:V->V
 |.list _ n _=>.int .i64 n
 |.str s=>.int .i64 s.size
 |_=>.undef
def evalOp(P:Program)(ρ:Operand->V)(h:List Blk):Op->Option (Bool × V × List Blk)
 |.move x|.assign x=>some (true,ρ x,h)
 |.pick c a b=>
  match ρ c with
  |.bool t=>
   match ρ a,ρ b with
   |.bool p,.bool q=>some (true,.bool (bif t then p else q),h)
   |x,y=>some (true,bif t then x else y,h)
  |_=>none
 |.alloc t=>
  match zeroCs P t with
  |some zs=>some (true,.ref h.length 0 0,h++ [(zeroBlk P t zs).1])
  |none=>none
 |.box t x=>
  match cellsOf P t (ρ x)with
  |some vs=>some (true,.ref h.length 0 0,h++ [(newBlk P t (ρ x) vs).1])
  |none=>none
 |.build t parts=>
  match zeroCs P t with
  |some zs=>
   match P.underlying t with
   |some (.struct fs)=>
    if fs.all (fun f=>hasT P f.type)=true then
     match fillV P (fun i=>(fs[i]?).map fun f=>(f.offset,f.type)) zs (mapV parts ρ)with
     |some cs=>some (true,.agg cs,h)
     |none=>none
    else none
   |some (.array _ e)=>
    if hasT P e=true then
     match fillV P (fun i=>some (i*szOf P e,e)) zs (mapV parts ρ)with
     |some cs=>some (true,.agg cs,h)
     |none=>none
    else none
   |_=>none
  |none=>none
 |.buildSlice t len parts=>
  match P.underlying t with
  |some (.slice e)=>
   if hasT P e=true/\0<szOf P e/\len*szOf P e<=16777216 then
    match zeroCs P e with
    |some zs=>
     if zs.length=szOf P e then
      match fillV P (fun i=>some (i*szOf P e,e)) ((List.range (len*szOf P e)).map fun q=>zs.getD (q%szOf P e) .undef) (mapV parts ρ)with
      |some cs=>if underL 0 cs=true then some (true,.row h.length len,h++ [.rows e (szOf P e) len (litC (szOf P e) len cs)])else none
      |none=>none
     else none
    |none=>none
   else none
  |_=>none
 |.load t a=>
  if hasT P t=true then
   match loadA P h t (ρ a)with
   |some v=>some (true,v,h)
   |none=>
    match loadV P h t (ρ a)with
    |some (ob,v)=>some (ob,v,h)
    |none=>none
  else none
 |.store t a v=>
  if hasT P t=true then
   match storeA P h t (ρ a) (ρ v)with
   |some h'=>some (true,.undef,h')
   |none=>
    match storeV P h t (ρ a) (ρ v)with
    |some (ob,h')=>some (ob,.undef,h')
    |none=>none
  else none
 |.nilCheck x=>
  match nilV (ρ x)with
  |some v=>some (true,v,h)
  |none=>none
 |.binOp op t x y _=>
  match evalBin P op t (ρ x) (ρ y)with
  |some (ob,v)=>some (ob,v,h)
  |none=>none
 |.unOp op _ x=>
  match unV op (ρ x)with
  |some (ob,v)=>some (ob,v,h)
  |none=>none
 |.convert s d x=>
  match convV P s d (ρ x)with
  |some (ob,v)=>some (ob,v,h)
  |none=>none
 |.makeFunc fn first caps=>some (true,.func fn (first.toList.map ρ) (caps.toList.map ρ),h)
 |.fieldAddr s x f=>
  match fieldAddrV P s (ρ x) f with
  |some (ob,v)=>some (ob,v,h)
  |none=>none
 |.field t x f=>
  match fieldV P t (ρ x) f with
  |some v=>some (true,v,h)
  |none=>none
 |.indexAddr t x i=>
  match indexAddrV P h t (ρ x) (ρ i)with
  |some (ob,v)=>some (ob,v,h)
  |none=>none
 |.index t x i=>
  match indexV P t (ρ x) (ρ i)with
  |some (ob,v)=>some (ob,v,h)
  |none=>none
 |.extract x i=>
  match ρ x with
  |.tuple vs=>if i<vs.length then some (true,vs.getD i .undef,h)else none
  |_=>none
 |.slice t x (some lo) (some hi) none=>
  match sliceH P h t (ρ x) (ρ lo) (ρ hi) false with
  |some (ob,v)=>some (ob,v,h)
  |none=>
   match sliceV P t (ρ x) (ρ lo) (ρ hi)with
   |some (ob,v)=>some (ob,v,h)
   |none=>none
 |.slice t x none (some hi) none=>
  match sliceH P h t (ρ x) (.int .i64 0) (ρ hi) true with
  |some (ob,v)=>some (ob,v,h)
  |none=>
   match sliceV P t (ρ x) (.int .i64 0) (ρ hi)with
   |some (ob,v)=>some (ob,v,h)
   |none=>none
 |.slice t x (some lo) none none=>
  match sliceH P h t (ρ x) (ρ lo) (lenAt P t (ρ x)) false with
  |some (ob,v)=>some (ob,v,h)
  |none=>
   match sliceV P t (ρ x) (ρ lo) (lenOfV (ρ x))with
   |some (ob,v)=>some (ob,v,h)
   |none=>none
 |.slice t x none none none=>
  match sliceH P h t (ρ x) (.int .i64 0) (lenAt P t (ρ x)) true with
  |some (ob,v)=>some (ob,v,h)
  |none=>none
 |.makeSlice t l c=>
  match P.underlying t,ρ l,ρ c with
  |some (.slice e),.int _ n,.int _ m=>
   match zeroCs P e with
   |some zs=>
    if hasT P e=true/\0<szOf P e/\zs.length=szOf P e/\P.bytesOf e<=65536 then
     some (decide (0<=n)&&decide (n=m)&&decide (n<=4294967296),.row h.length n.toNat,h++ [.rows e (szOf P e) n.toNat fun _ j=>zs.getD j .undef])
    else none
   |none=>none
  |_,_,_=>none
 |.call {callee:=.builtin .len,args:=args,argTypes:=ts}=>
  match lenV P (ts.getD 0 0) (ρ (args.getD 0 (.const (.bool true))))with
  |some v=>if args.size=1/\ts.size=1 then some (true,v,h)else none
  |none=>none
 |.call {callee:=.builtin .max,args:=args,argTypes:=_}=>
  match args.toList with
  |[x,y]=>
   match ρ x,ρ y with
   |.int k a,.int _ b=>some (true,.int k (max a b),h)
   |_,_=>none
  |_=>none
 |.call {callee:=.builtin .min,args:=args,argTypes:=_}=>
  match args.toList with
  |[x,y]=>
   match ρ x,ρ y with
   |.int k a,.int _ b=>some (true,.int k (min a b),h)
   |_,_=>none
  |_=>none
 |_=>none
def Left(G:Kept)(β:Homes)(v:V):Next->Prop
 |.value y=>Rel G β v y
 |.skip=>v=.undef
 |_=>False
theorem mapV_len(l:Array (Nat × Operand))(ρ:Operand->V):(mapV l ρ).length=l.size:=by simp[mapV]
theorem mapV_rel{G:Kept}{β:Homes}{ρ:Operand->V}{ρ':Operand->Value}(hρ:∀x,Rel G β (ρ x) (ρ' x))(l:Array (Nat × Operand))(j:Nat)(hj:j<(mapV l ρ).length):
  ((mapV l ρ).getD j (0,.undef)).1=(((l.map fun(i,x)=>(i,ρ' x)).toList).getD j (0,Go.undef)).1/\Rel G β ((mapV l ρ).getD j (0,.undef)).2 (((l.map fun(i,x)=>(i,ρ' x)).toList).getD j (0,Go.undef)).2:=by
 have h:j<l.size:=by rwa[mapV_len]at hj
 simp only[mapV,gE,List.getElem?_map,Array.getElem?_toList,Array.getElem?_map];simp only[Array.getElem?_eq_getElem h,Option.map_some,Option.getD_some];exact⟨trivial,hρ _⟩
theorem run_mapM_places{P:Program}(w:World):∀(fs:List Field),fs.all (fun f=>hasT P f.type)=true->
  Sem.run P (fs.mapM fun f=>do pure (f.offset,<-Go.sizeOf f.type)) w=.ok (fs.map fun f=>(f.offset,szOf P f.type)) w:=by
 intro fs
 induction fs with
 |nil=>intro _;simp
 |cons f fs ih=>
  intro h;simp only[List.all_cons,Bool.and_eq_true]at h;simp only[List.mapM_cons,Sem.run_bind,run_sizeOf' h.1,Result.andThen_ok,Sem.run_pure,ih h.2,List.map_cons]
section
variable {P:Program} {β:Homes} {G K:Kept} {h h':List Blk} {w:World} {ρ:Operand->V} {ρ':Operand->Value} {v:V}
def OpOK(P:Program)(β:Homes)(G K:Kept)(w:World)(ρ':Operand->Value)(o:Oper)(v:V)(h':List Blk):Prop:=
 ∃nx w' β',(execOp ρ' o).run P w=.ok nx w'/\β.le β'/\RH β' G K h' w'/\Left G β' v nx
theorem opOK_value{o:Oper}{y:Value}(r:RH β G K h w)(hr:(execOp ρ' o).run P w=.ok (.value y) w)(hv:Rel G β v y):OpOK P β G K w ρ' o v h:=
 ⟨_,w,β,hr,Homes.le_refl _,r,hv⟩
theorem ref_new(r:RH β G K h w)(b wd cap:Nat):(β++ [Hm.lie ⟨b,wd,cap⟩])[h.length]? =some (.lie ⟨b,wd,cap⟩):=by rw[<-r.len];simp
theorem op_alloc(r:RH β G K h w){t:TypeId}{zs:List V}(hz:zeroCs P t=some zs)(o:Oper)(ho:o.op=.alloc t):OpOK P β G K w ρ' o (.ref h.length 0 0) (h++ [(zeroBlk P t zs).1]):=by
 obtain⟨z,z1,z2,z3⟩:=zeroCs_ok hz w;refine⟨.value (.pointer (some ⟨w.heap.size,0,none⟩)),w.alloc (.cells z.cells t),β++ [Hm.lie ⟨w.heap.size,(zeroBlk P t zs).2.1,(zeroBlk P t zs).2.2⟩],?_,Homes.le_append _ _,?_,?_⟩
 ·simp only[execOp,ho,Instr.alloc,Sem.run_bind,z1,Result.andThen_ok,newVar,newRow,run_newObj,Sem.run_pure,World.alloc_eq]
 ·exact r.push rfl (zeroBlk_ok w z2 z3)
 ·have:=Rel.ref (G:=G) (r:=0) (off:=0) (ref_new r w.heap.size (zeroBlk P t zs).2.1 (zeroBlk P t zs).2.2);simp only[Nat.zero_mul,Nat.add_zero]at this;exact this
theorem op_box(r:RH β G K h w)(hρ:∀x,Rel G β (ρ x) (ρ' x)){t:TypeId}{x:Operand}{vs:List V}(hc:cellsOf P t (ρ x)=some vs)(o:Oper)(ho:o.op=.box t x):OpOK P β G K w ρ' o (.ref h.length 0 0) (h++ [(newBlk P t (ρ x) vs).1]):=by
 refine⟨.value (.pointer (some ⟨w.heap.size,0,none⟩)),w.alloc (.cells (ρ' x).cells t),β++ [Hm.lie ⟨w.heap.size,(newBlk P t (ρ x) vs).2.1,(newBlk P t (ρ x) vs).2.2⟩],?_,Homes.le_append _ _,box_ok r (hρ x) hc,?_⟩
 ·simp only[execOp,ho,Instr.box,Sem.run_bind,newVar,newRow,run_newObj,Result.andThen_ok,Sem.run_pure,World.alloc_eq]
 ·have:=Rel.ref (G:=G) (r:=0) (off:=0) (ref_new r w.heap.size (newBlk P t (ρ x) vs).2.1 (newBlk P t (ρ x) vs).2.2);simp only[Nat.zero_mul,Nat.add_zero]at this;exact this
theorem op_build_struct(r:RH β G K h w)(hρ:∀x,Rel G β (ρ x) (ρ' x)){t:TypeId}{parts:Array (Nat × Operand)}{zs cs:List V}{fs:Array Field}(hz:zeroCs P t=some zs)(hu:P.underlying t=some (.struct fs))
  (hf:fs.all (fun f=>hasT P f.type)=true) (hb:fillV P (fun i=>(fs[i]?).map fun f=>(f.offset,f.type)) zs (mapV parts ρ)=some cs) (o:Oper) (ho:o.op=.build t parts):OpOK P β G K w ρ' o (.agg cs) h:=by
 obtain⟨z,z1,z2,z3⟩:=zeroCs_ok hz w;have hm:=run_mapM_places (P:=P) w fs.toList (by simpa using hf)
 obtain⟨ra,f1,f2,f3⟩:=fill_ok (P:=P) (G:=G) (β:=β) (place:=fun i=>(fs[i]?).map fun f=>(f.offset,f.type)) (place':=fun i=>(fs.map fun f=>(f.offset,szOf P f.type))[i]?)
  (fun i off ty hp=>by
   simp only[Array.getElem?_map]
   cases hfi:fs[i]? with
   |none=>simp[hfi]at hp
   |some f=>simp[hfi]at hp⊢;obtain⟨rfl,rfl⟩:=hp;exact⟨rfl,rfl⟩)
  (mapV parts ρ) ((parts.map fun(i,x)=>(i,ρ' x)).toList) zs z.cells cs (by simp[mapV_len]) (fun j hj=>mapV_rel hρ parts j hj) z2.symm (fun j=>z3 _ _ j) hb
 have harr:Sem.run P (fs.mapM fun f=>do pure (f.offset,<-Go.sizeOf f.type)) w=.ok (fs.map fun f=>(f.offset,szOf P f.type)) w:=by
  rw[Array.mapM_eq_mapM_toList];simp only[Sem.run_map,hm,Result.andThen_ok];congr 1
  apply Array.ext';simp
 refine opOK_value r (y:=.agg ra) ?_ (.agg f2 fun j _=>f3 j);simp only[execOp,ho,Instr.build,Sem.run_bind,z1,Result.andThen_ok,run_underlying' hu,harr,f1,Sem.run_pure]
theorem op_build_array(r:RH β G K h w)(hρ:∀x,Rel G β (ρ x) (ρ' x)){t e:TypeId}{n:Nat}{parts:Array (Nat × Operand)}{zs cs:List V}(hz:zeroCs P t=some zs)(hu:P.underlying t=some (.array n e))
  (he:hasT P e=true) (hb:fillV P (fun i=>some (i*szOf P e,e)) zs (mapV parts ρ)=some cs) (o:Oper) (ho:o.op=.build t parts):OpOK P β G K w ρ' o (.agg cs) h:=by
 obtain⟨z,z1,z2,z3⟩:=zeroCs_ok hz w
 obtain⟨ra,f1,f2,f3⟩:=fill_ok (P:=P) (G:=G) (β:=β) (place:=fun i=>some (i*szOf P e,e)) (place':=fun i=>some (i*szOf P e,szOf P e))
  (fun i off ty hp=>by simp at hp⊢;obtain⟨rfl,rfl⟩:=hp;exact⟨rfl,rfl⟩)
  (mapV parts ρ) ((parts.map fun(i,x)=>(i,ρ' x)).toList) zs z.cells cs (by simp[mapV_len]) (fun j hj=>mapV_rel hρ parts j hj) z2.symm (fun j=>z3 _ _ j) hb
 refine opOK_value r (y:=.agg ra) ?_ (.agg f2 fun j _=>f3 j);simp only[execOp,ho,Instr.build,Sem.run_bind,z1,Result.andThen_ok,run_underlying' hu,run_sizeOf' he,f1,Sem.run_pure]
theorem buildSlice_run(hρ:∀x,Rel G β (ρ x) (ρ' x)){t e:TypeId}{len:Nat}{parts:Array (Nat × Operand)}{zs cs:List V}(hu:P.underlying t=some (.slice e))(he:hasT P e=true)(h0:0<szOf P e)
  (hl:len*szOf P e<=16777216) (hz:zeroCs P e=some zs) (hzl:zs.length=szOf P e)
  (hb:fillV P (fun i=>some (i*szOf P e,e)) ((List.range (len*szOf P e)).map fun q=>zs.getD (q%szOf P e) .undef) (mapV parts ρ)=some cs) (hi:underL 0 cs=true) (o:Oper) (ho:o.op=.buildSlice t len parts):
  ∃ra,(execOp ρ' o).run P w=.ok (.value (.slice (some ⟨w.heap.size,0,none⟩) len len)) (w.alloc (.cells ra e))/\ra.size=len*szOf P e/\∀j,Rel G [] (cs.getD j .undef) (ra.getD j Go.undef):=by
 obtain⟨z,z1,z2,z3⟩:=zeroCs_ok hz w
 obtain⟨ra,f1,f2,f3⟩:=fill_ok (P:=P) (G:=G) (β:=β) (place:=fun i=>some (i*szOf P e,e)) (place':=fun i=>some (i*szOf P e,szOf P e))
  (fun i off ty hp=>by simp at hp⊢;obtain⟨rfl,rfl⟩:=hp;exact⟨rfl,rfl⟩)
  (mapV parts ρ) ((parts.map fun(i,x)=>(i,ρ' x)).toList) _ ((Array.range (len*szOf P e)).map fun q=>(if len*szOf P e=0 then #[]else z.cells)[q%(if len*szOf P e=0 then #[]else z.cells).size]!) cs (by simp[mapV_len]) (fun j hj=>mapV_rel hρ parts j hj) (by simp)
  (fun j=>by
   by_cases hj:j<len*szOf P e
   ·have hne:len*szOf P e≠0:=by omega
    have hm:j%szOf P e<zs.length:=by rw[hzl];exact Nat.mod_lt _ h0
    have:=z3 G β (j%szOf P e);have hm':j%szOf P e<z.cells.size:=by rw[z2];exact hm
    rw[getD_ofFn _ _ hj];simp only[aG,Array.getElem?_map,Array.getElem?_range,hj,if_true,Option.map_some,Option.getD_some,hne,if_false,z2,hzl];rw[getElem!_pos z.cells (j%szOf P e) hm'];simpa[aG,hm']using this
   ·simp[gE,hj];exact .undef _) hb
 have hcl:cs.length=len*szOf P e:=by
  have key:∀(pl:Nat->Option (Nat × TypeId)) (l:List (Nat × V)) (c0 c1:List V),fillV P pl c0 l=some c1->c1.length=c0.length:=by
   intro pl l
   induction l with
   |nil=>intro c0 c1 hh;simp only[fillV,sJ]at hh;rw[hh]
   |cons x l ih=>
    intro c0 c1 hh;obtain⟨i,u⟩:=x;simp only[fillV]at hh;split at hh
    ·cases hh
    ·split at hh
     ·cases hh
     ·split at hh
      ·have:=ih _ _ hh;rw[this,setCells_length]
      ·cases hh
  have:=key _ _ _ _ hb;simpa using this
 refine⟨ra,?_,by rw[<-f2,hcl],fun j=>(f3 j).imm (underL_getD hi _)⟩;by_cases hne:len*szOf P e=0
 ·simp only[hne,if_true]at f1;simp only[execOp,ho,Instr.buildSlice,Sem.run_bind,run_underlying' hu,Result.andThen_ok,run_sizeOf' he,Nat.reducePow,Nat.not_lt.2 hl,if_false,hne,if_true,Sem.run_pure,f1,newRow,run_newObj,World.alloc_eq,Nat.not_lt_zero]
 ·simp only[hne,if_false]at f1;simp only[execOp,ho,Instr.buildSlice,Sem.run_bind,run_underlying' hu,Result.andThen_ok,run_sizeOf' he,Nat.reducePow,Nat.not_lt.2 hl,if_false,hne,z1,Sem.run_pure,f1,newRow,run_newObj,World.alloc_eq]
theorem op_buildSlice(r:RH β G K h w)(hρ:∀x,Rel G β (ρ x) (ρ' x)){t e:TypeId}{len:Nat}{parts:Array (Nat × Operand)}{zs cs:List V}(hu:P.underlying t=some (.slice e))(he:hasT P e=true)(h0:0<szOf P e)
  (hl:len*szOf P e<=16777216) (hz:zeroCs P e=some zs) (hzl:zs.length=szOf P e)
  (hb:fillV P (fun i=>some (i*szOf P e,e)) ((List.range (len*szOf P e)).map fun q=>zs.getD (q%szOf P e) .undef) (mapV parts ρ)=some cs) (hi:underL 0 cs=true) (o:Oper) (ho:o.op=.buildSlice t len parts):
  OpOK P β G K w ρ' o (.row h.length len) (h++ [.rows e (szOf P e) len (litC (szOf P e) len cs)]):=by
 obtain⟨ra,f1,f2,f3⟩:=buildSlice_run (G:=G) hρ hu he h0 hl hz hzl hb hi o ho;have hlm:len<=16777216:=Nat.le_trans (Nat.le_mul_of_pos_right len h0) hl;refine⟨.value (.slice (some ⟨w.heap.size,0,none⟩) len len),w.alloc (.cells ra e),β++ [Hm.lie ⟨w.heap.size,szOf P e,len⟩],f1,Homes.le_append _ _,?_,?_⟩
 ·refine r.push rfl ⟨rfl,h0,by unfold maxLen;show len<=_;omega,ra,heap_alloc_new w _,f2,Nat.le_refl _,by unfold maxn;omega,fun i j hi' hj=>by rw[litC_eq hi'];exact f3 _⟩
 ·have:(β++ [Hm.lie ⟨w.heap.size,szOf P e,len⟩])[h.length]? =some (.lie ⟨w.heap.size,szOf P e,len⟩):=by rw[<-r.len];simp
  exact .row this (Nat.le_refl _) (Nat.le_refl _) (by unfold maxn;omega)
end
section
variable {P:Program} {β:Homes} {G K:Kept} {h h':List Blk} {w:World} {ρ:Operand->V} {ρ':Operand->Value} {v:V}
theorem op_un(r:RH β G K h w)(hρ:∀x,Rel G β (ρ x) (ρ' x)){op:UnOp}{t:TypeId}{x:Operand}(hs:unV op (ρ x)=some (true,v))(o:Oper)(ho:o.op=.unOp op t x):OpOK P β G K w ρ' o v h:=by
 have hx:=hρ x;generalize hv:ρ x=vx at hs hx
 generalize hv':ρ' x=vx' at hx
 cases hx with
 |bool b=>
  cases op<;>simp only[unV]at hs<;>try cases hs
  exact opOK_value r (y:=.bool !b) (by simp only[execOp,ho,hv',Op.unary,Sem.run_bind,Sem.run_pure,Result.andThen_ok]) (.bool _)
 |int k n=>
  cases op<;>simp only[unV]at hs
  case neg=>
   unfold arith at hs;split at hs
   ·simp only[sJ,Prod.mk.injEq]at hs;obtain⟨h1,rfl⟩:=hs;exact opOK_value r (y:=.int k (0-n)) (by simp only[execOp,ho,hv',Op.unary,Op.intArith,Sem.run_bind,Sem.run_pure,Result.andThen_ok,wrap_inR h1]) (.int _ _)
   ·simp only[sJ,Prod.mk.injEq]at hs;obtain⟨_,rfl⟩:=hs;exact opOK_value r (by simp only[execOp,ho,hv',Op.unary,Op.intArith,Sem.run_bind,Sem.run_pure,Result.andThen_ok]) (.int _ _)
  case xor=>
   simp only[sJ,Prod.mk.injEq]at hs;obtain⟨_,rfl⟩:=hs;exact opOK_value r (by simp only[execOp,ho,hv',Op.unary,Op.intBits,Sem.run_bind,Sem.run_pure,Result.andThen_ok];rfl) (.int _ _)
  all_goals cases hs
 |_=>simp[unV]at hs
theorem op_conv(r:RH β G K h w)(hρ:∀x,Rel G β (ρ x) (ρ' x)){s d:TypeId}{x:Operand}(hs:convV P s d (ρ x)=some (true,v))(o:Oper)(ho:o.op=.convert s d x):OpOK P β G K w ρ' o v h:=by
 have hx:=hρ x;generalize hv:ρ x=vx at hs hx
 generalize hv':ρ' x=vx' at hx
 cases hx with
 |int k n=>
  simp only[convV]at hs;split at hs
  ·rename_i ds k' h1 h2
   have hrun:(convert s d (.int k n)).run P w=.ok (.int k' (k'.wrap n)) w:=by
    simp only[convert,Sem.run_bind,run_underlying' h1,run_underlying' h2,Result.andThen_ok];cases ds<;>simp[Conv.intToInt]
   split at hs
   ·simp only[sJ,Prod.mk.injEq]at hs;obtain⟨q,rfl⟩:=hs;rw[wrap_inR q]at hrun;exact opOK_value r (by simp only[execOp,ho,hv',hrun,Sem.run_bind,Result.andThen_ok,Sem.run_pure]) (.int _ _)
   ·simp only[sJ,Prod.mk.injEq]at hs;obtain⟨_,rfl⟩:=hs;exact opOK_value r (by simp only[execOp,ho,hv',hrun,Sem.run_bind,Result.andThen_ok,Sem.run_pure]) (.int _ _)
  ·cases hs
 |str a=>
  simp only[convV]at hs;split at hs
  ·rename_i ds h1 h2
   have hrun:(convert s d (.string a)).run P w=.ok (.string a) w:=by
    simp only[convert,Sem.run_bind,run_underlying' h1,run_underlying' h2,Result.andThen_ok];cases ds<;>simp
   simp only[sJ,Prod.mk.injEq]at hs;obtain⟨_,rfl⟩:=hs;exact opOK_value r (by simp only[execOp,ho,hv',hrun,Sem.run_bind,Result.andThen_ok,Sem.run_pure]) (.str _)
  ·cases hs
 |_=>simp[convV]at hs
theorem op_nil(r:RH β G K h w)(hρ:∀x,Rel G β (ρ x) (ρ' x)){x:Operand}(hs:nilV (ρ x)=some v)(o:Oper)(ho:o.op=.nilCheck x):OpOK P β G K w ρ' o v h:=by
 have hx:=hρ x;generalize hv:ρ x=vx at hs hx
 generalize hv':ρ' x=vx' at hx
 cases hx with
 |cref a b c=>
  simp only[nilV,sJ]at hs;subst hs;exact opOK_value r (by simp only[execOp,ho,hv',Sem.run_pure]) (.cref a b c)
 |ref a=>
  simp only[nilV,sJ]at hs;subst hs;exact opOK_value r (by simp only[execOp,ho,hv',Sem.run_pure]) (.ref a)
 |yld a=>
  simp only[nilV,sJ]at hs;subst hs;exact opOK_value r (by simp only[execOp,ho,hv',Sem.run_pure]) (.yld a)
 |func a b c d=>
  rename_i fn _ _ _ _;cases fn<;>simp only[nilV,sJ]at hs
  case func=>subst hs;exact opOK_value r (by simp only[execOp,ho,hv',Sem.run_pure]) (.func a b c d)
  all_goals cases hs
 |_=>simp[nilV]at hs
theorem size_one{α:Type}(a:Array α)(h:a.size=1):∃x,a= #[x]:=by
 match a,h with
 |⟨[x]⟩,_=>exact⟨x,rfl⟩
theorem op_len(r:RH β G K h w)(hρ:∀x,Rel G β (ρ x) (ρ' x)){args:Array Operand}{ts:Array TypeId}(hs:lenV P (ts.getD 0 0) (ρ (args.getD 0 (.const (.bool true))))=some v)(hn:args.size=1/\ts.size=1)(o:Oper)
  (ho:o.op=.call {callee:=.builtin .len,args:=args,argTypes:=ts}):OpOK P β G K w ρ' o v h:=by
 obtain⟨x,rfl⟩:=size_one args hn.1;obtain⟨t,rfl⟩:=size_one ts hn.2;have e1:(#[t]:Array TypeId).getD 0 0=t:=rfl;have e2:(#[x]:Array Operand).getD 0 (.const (.bool true))=x:=rfl;rw[e1,e2]at hs;have hx:=hρ x;generalize hv:ρ x=vx at hs hx
 generalize hv':ρ' x=vx' at hx
 have fin:∀(y:Value),(Builtin.len_ #[t] o.type #[ρ' x]).run P w=.ok y w->Rel G β v y->OpOK P β G K w ρ' o v h:=fun y hy hr=>
  opOK_value r (y:=y) (by simp only[execOp,ho,resolve,Sem.run_bind,Sem.run_pure,Result.andThen_ok,invoke,builtin,List.map_toArray,List.map_cons,List.map_nil,hy]) hr
 have sl:∀ {a n c e},P.underlying t=some (.slice e)->(Builtin.len_ #[t] o.type #[.slice a n c]).run P w=.ok (.int .i64 n) w:=fun hu=>by
  simp[Builtin.len_,run_underlying' hu,goInt]
 cases hx with
 |list0=>
  simp only[lenV]at hs;split at hs
  ·rename_i e hu;simp only[sJ]at hs;subst hs;exact fin _ (by rw[hv'];exact sl hu) (.int _ _)
  ·cases hs
 |list _ _ _ _ _=>
  simp only[lenV]at hs;split at hs
  ·rename_i e hu;simp only[sJ]at hs;subst hs;exact fin _ (by rw[hv'];exact sl hu) (.int _ _)
  ·cases hs
 |row _ _ _ _=>
  simp only[lenV]at hs;split at hs
  ·rename_i e hu;simp only[sJ]at hs;subst hs;exact fin _ (by rw[hv'];exact sl hu) (.int _ _)
  ·cases hs
 |sub _ _ _=>
  simp only[lenV]at hs;split at hs
  ·rename_i e hu;simp only[sJ]at hs;subst hs;exact fin _ (by rw[hv'];exact sl hu) (.int _ _)
  ·cases hs
 |sub0=>
  simp only[lenV]at hs;split at hs
  ·rename_i e hu;simp only[sJ]at hs;subst hs;exact fin _ (by rw[hv'];exact sl hu) (.int _ _)
  ·cases hs
 |row0 _=>
  simp only[lenV]at hs;split at hs
  ·rename_i e hu;simp only[sJ]at hs;subst hs;exact fin _ (by rw[hv'];exact sl hu) (.int _ _)
  ·cases hs
 |nils=>
  simp only[lenV]at hs;split at hs
  ·rename_i e hu;simp only[sJ]at hs;subst hs;exact fin _ (by rw[hv'];exact sl hu) (.int _ _)
  ·cases hs
 |str s=>
  simp only[lenV]at hs;split at hs
  ·rename_i hu;simp only[sJ]at hs;subst hs;exact fin _ (by rw[hv'];simp[Builtin.len_,run_underlying' hu,goInt]) (.int _ _)
  ·cases hs
 |_=>simp[lenV]at hs
theorem op_makeSlice(r:RH β G K h w)(hρ:∀x,Rel G β (ρ x) (ρ' x)){t e:TypeId}{l c:Operand}{k k':IntKind}{n m:Int}{zs:List V}(hu:P.underlying t=some (.slice e))(hl:ρ l=.int k n)(hc:ρ c=.int k' m)
  (hz:zeroCs P e=some zs) (he:hasT P e=true) (h0:0<szOf P e) (hzl:zs.length=szOf P e) (hby:P.bytesOf e<=65536) (h1:0<=n) (h2:n=m) (h3:n<=4294967296) (o:Oper) (ho:o.op=.makeSlice t l c):
  OpOK P β G K w ρ' o (.row h.length n.toNat) (h++ [.rows e (szOf P e) n.toNat fun _ j=>zs.getD j .undef]):=by
 subst h2;have hl':=hρ l;have hc':=hρ c;rw[hl]at hl';rw[hc]at hc';generalize hx:ρ' l=lx at hl'
 generalize hy:ρ' c=cx at hc'
 cases hl';cases hc';obtain⟨z,z1,z2,z3⟩:=zeroCs_ok hz w
 have hinfo:∃i,P.info? e=some i:=by
  unfold hasT at he
  cases hi:P.info? e with
  |none=>simp[hi]at he
  |some i=>exact⟨i,rfl⟩
 obtain⟨i,hi⟩:=hinfo
 have hiz:i.zero=some z:=by
  cases hiz:i.zero with
  |none=>simp[zeroCs,hi,hiz]at hz
  |some z'=>
   have:(zeroValue e).run P w=.ok z' w:=by simp only[zeroValue,Sem.run_bind,run_typeInfo' hi,Result.andThen_ok,hiz,Sem.run_pure]
   rw[this]at z1;cases z1;rfl
 have hsz:i.size=szOf P e:=by simp[szOf,Program.cellsOf,hi]
 have hb':i.bytes<=65536:=by simpa[Program.bytesOf,hi]using hby
 have hbytes:(i.bytes:Int)*n<=281474976710656:=by
  obtain⟨n,rfl⟩:=Int.eq_ofNat_of_zero_le h1;have:i.bytes*n<=65536*4294967296:=Nat.mul_le_mul hb' (by omega);have:((i.bytes*n:Nat):Int)<=281474976710656:=by omega
  rwa[Int.natCast_mul]at this
 have hr:=run_make (P:=P) w t e i z hu hi hiz k k' n n h1 (Int.le_refl _) hbytes (by omega);have hzs:z.cells.size=szOf P e:=by rw[z2,hzl]
 refine⟨.value (.slice (some ⟨w.heap.size,0,none⟩) n.toNat n.toNat),w.alloc (.cells (madeCells z.cells (n.toNat*i.size)) e),β++ [Hm.lie ⟨w.heap.size,szOf P e,n.toNat⟩],?_,Homes.le_append _ _,?_,?_⟩
 ·simp only[execOp,ho,hx,hy,Sem.run_bind,hr,Result.andThen_ok,Sem.run_pure]
 ·refine r.push rfl ⟨rfl,h0,by unfold maxLen;show n.toNat<=_;omega,_,heap_alloc_new w _,by rw[size_madeCells,hsz],Nat.le_refl _,by unfold maxn;omega,fun q j hq hj=> ?_⟩
  have hlt:q*szOf P e+j<n.toNat*szOf P e:=by
   have:(q+1)*szOf P e<=n.toNat*szOf P e:=Nat.mul_le_mul_right _ hq;rw[Nat.succ_mul]at this;omega
  have hmod:(q*szOf P e+j)%szOf P e=j:=by rw[Nat.mul_comm,Nat.mul_add_mod,Nat.mod_eq_of_lt hj]
  have:=z3 G [] j;have hj':j<z.cells.size:=by rw[hzs];exact hj
  simp only[madeCells,aG,Array.getElem?_map,Array.getElem?_range,hsz,hlt,if_true,Option.map_some,Option.getD_some,hzs,hmod];rw[getElem!_pos z.cells j hj'];simpa[aG,hj']using this
 ·have:(β++ [Hm.lie ⟨w.heap.size,szOf P e,n.toNat⟩])[h.length]? =some (.lie ⟨w.heap.size,szOf P e,n.toNat⟩):=by rw[<-r.len];simp
  exact .row this (Nat.le_refl _) (Nat.le_refl _) (by unfold maxn;omega)
theorem run_slice{t:TypeId}{x lo hi u:V}{x':Value}{lo' hi':Option Value}(hx:Rel G β x x')
  (hlo:match lo' with|some y=>Rel G β lo y|none=>lo=.int .i64 0) (hhi:match hi' with|some y=>Rel G β hi y|none=>hi=lenOfV x)
  (hs:sliceV P t x lo hi=some (true,u)) (w:World):∃y,(Instr.sliceAt t x' lo' hi' none).run P w=.ok y w/\Rel G β u y:=by
 unfold sliceV at hs;split at hs
 ·rename_i e w' n c k l k' m hu;split at hs
  ·rename_i he;simp only[sJ,Prod.mk.injEq,Bool.and_eq_true,decide_eq_true_eq]at hs;obtain⟨⟨⟨h1,h2⟩,h3⟩,rfl⟩:=hs;obtain⟨l,rfl⟩:=Int.eq_ofNat_of_zero_le h1;obtain⟨m,rfl⟩:=Int.eq_ofNat_of_zero_le (Int.le_trans h1 h2);have e1:l<=m:=by omega
   have e2:m<=n:=by omega
   have bounds:∀cap,n<=cap->(Instr.sliceBounds true n cap lo' hi' none).run P w=.ok (l,m,cap) w:=fun cap hcap=>by
    have hm:(match hi' with|some v=>Instr.sliceBound v cap .sliceAcap|none=>(pure n:Sem Nat)).run P w=.ok m w:=by
     cases hi' with
     |none=>
          have q:m=n:=by(simp[lenOfV]at hhi;omega)
          rw[q];rfl
     |some y=>
      simp only at hhi;cases hhi;simp only[Instr.sliceBound,asIntOf,Sem.run_bind,Sem.run_pure,Result.andThen_ok,Int.natCast_nonneg,true_and,Int.ofNat_le,Nat.le_trans e2 hcap,if_true,Int.toNat_natCast]
    have hl:(match lo' with|some v=>Instr.sliceBound v m .sliceB|none=>(pure 0:Sem Nat)).run P w=.ok l w:=by
     cases lo' with
     |none=>
          have q:l=0:=by(simp at hlo;omega)
          rw[q];rfl
     |some y=>
      simp only at hlo;cases hlo;simp only[Instr.sliceBound,asIntOf,Sem.run_bind,Sem.run_pure,Result.andThen_ok,Int.natCast_nonneg,true_and,Int.ofNat_le,e1,if_true,Int.toNat_natCast]
    cases hi'<;>cases lo'<;>simp only[Instr.sliceBounds,Sem.run_bind,Sem.run_pure,Result.andThen_ok,if_true,Option.isSome_none,Bool.false_eq_true,if_false]at hm hl⊢<;>(try cases hm)<;>(try cases hl)<;>first|rfl|(simp only[hm,hl,Result.andThen_ok];done)|(simp only[hm,Result.andThen_ok];done)|(simp only[hl,Result.andThen_ok];done)
   have runit:∀(a:Option Addr) cap,n<=cap->(Instr.sliceAt t (.slice a n cap) lo' hi' none).run P w=.ok (.slice (if cap=l then a else a.map (·.add (l*szOf P e))) (m-l) (cap-l)) w:=fun a cap hcap=>by
    simp only[Instr.sliceAt,Sem.run_bind,run_underlying' hu,Result.andThen_ok,Instr.slice,bounds cap hcap,run_sizeOf' he.1,Sem.run_pure]
   simp only[Int.toNat_natCast]
   cases hx with
   |list0=>
    rename_i a cap;have hm0:m=0:=by omega
    have hl0:l=0:=by omega
    subst hm0;subst hl0;exact⟨_,runit a cap (Nat.zero_le _),.list0⟩
   |list hG hsz hcap hn hc=>
    rename_i b0 off0 cap0 cs0 e0 fz0;refine⟨_,runit _ _ hcap,?_⟩;by_cases hcl:cap0=l
    ·have hz:m-l=0:=by omega
     rw[if_pos hcl,hz];exact .list0
    ·rw[if_neg hcl];simp only[Option.map_some,addr_add];have hmul:l*w'+(m-l)*w'<=n*w':=by rw[<-Nat.add_mul];exact Nat.mul_le_mul_right _ (by omega)
     have hsw:szOf P e=w':=he.2;rw[hsw];refine .list hG (by omega) (by omega) (by unfold maxn at*;omega) fun i j hi hj=> ?_;have:=hc (l+i) j (by omega) hj;rw[Nat.add_mul]at this;simpa[Nat.add_assoc]using this
  ·cases hs
 ·rename_i s k l k' m hu;simp only[sJ,Prod.mk.injEq,Bool.and_eq_true,decide_eq_true_eq]at hs;obtain⟨⟨⟨h1,h2⟩,h3⟩,rfl⟩:=hs;obtain⟨l,rfl⟩:=Int.eq_ofNat_of_zero_le h1;obtain⟨m,rfl⟩:=Int.eq_ofNat_of_zero_le (Int.le_trans h1 h2);have e1:l<=m:=by omega
  have e2:m<=s.size:=by omega
  cases hx
  have hm:(match hi' with|some v=>Instr.sliceBound v s.size .sliceAlen|none=>(pure s.size:Sem Nat)).run P w=.ok m w:=by
   cases hi' with
   |none=>
         have q:m=s.size:=by(simp[lenOfV]at hhi;omega)
         rw[q];rfl
   |some y=>
    simp only at hhi;cases hhi;simp only[Instr.sliceBound,asIntOf,Sem.run_bind,Sem.run_pure,Result.andThen_ok,Int.natCast_nonneg,true_and,Int.ofNat_le,e2,if_true,Int.toNat_natCast]
  have hl:(match lo' with|some v=>Instr.sliceBound v m .sliceB|none=>(pure 0:Sem Nat)).run P w=.ok l w:=by
   cases lo' with
   |none=>
          have q:l=0:=by(simp at hlo;omega)
          rw[q];rfl
   |some y=>
    simp only at hlo;cases hlo;simp only[Instr.sliceBound,asIntOf,Sem.run_bind,Sem.run_pure,Result.andThen_ok,Int.natCast_nonneg,true_and,Int.ofNat_le,e1,if_true,Int.toNat_natCast]
  have hb:(Instr.sliceBounds false s.size s.size lo' hi' none).run P w=.ok (l,m,s.size) w:=by
   cases hi'<;>cases lo'<;>simp only[Instr.sliceBounds,Sem.run_bind,Sem.run_pure,Result.andThen_ok,Bool.false_eq_true,if_true,Option.isSome_none,if_false]at hm hl⊢<;>(try cases hm)<;>(try cases hl)<;>first|rfl|(simp only[hm,hl,Result.andThen_ok];done)|(simp only[hm,Result.andThen_ok];done)|(simp only[hl,Result.andThen_ok];done)
  refine⟨_,?_,by rw[Int.toNat_natCast,Int.toNat_natCast];exact .str _⟩;simp only[Instr.sliceAt,Sem.run_bind,run_underlying' hu,Result.andThen_ok,Instr.slice,Option.isSome_none,Bool.false_eq_true,if_false,hb,Sem.run_pure]
 ·cases hs
def boundIs(o:Option Value)(d n:Nat):Prop:=(∀y,o=some y->∃k,y=.int k (n:Int))/\(o=none->n=d)
theorem bounds_ok{isS:Bool}{len cap l m:Nat}{lo' hi':Option Value}(hlo:boundIs lo' 0 l)(hhi:boundIs hi' len m)(h1:l<=m)(h2:m<=cap)(w:World):
  (Instr.sliceBounds isS len cap lo' hi' none).run P w=.ok (l,m,cap) w:=by
 have hm:∀site,(match hi' with|some v=>Instr.sliceBound v cap site|none=>(pure len:Sem Nat)).run P w=.ok m w:=fun site=>by
  cases hi' with
  |none=>have:=hhi.2 rfl;subst this;rfl
  |some y=>
   obtain⟨k,rfl⟩:=hhi.1 y rfl;simp only[Instr.sliceBound,asIntOf,Sem.run_bind,Sem.run_pure,Result.andThen_ok,Int.natCast_nonneg,true_and,Int.ofNat_le,h2,if_true,Int.toNat_natCast]
 have hl:(match lo' with|some v=>Instr.sliceBound v m .sliceB|none=>(pure 0:Sem Nat)).run P w=.ok l w:=by
  cases lo' with
  |none=>have:=hlo.2 rfl;subst this;rfl
  |some y=>
   obtain⟨k,rfl⟩:=hlo.1 y rfl;simp only[Instr.sliceBound,asIntOf,Sem.run_bind,Sem.run_pure,Result.andThen_ok,Int.natCast_nonneg,true_and,Int.ofNat_le,h1,if_true,Int.toNat_natCast]
 have hm1:=hm .sliceAcap;have hm2:=hm .sliceAlen;cases isS<;>cases hi'<;>cases lo'<;>simp only[Instr.sliceBounds,Sem.run_bind,Sem.run_pure,Result.andThen_ok,Bool.false_eq_true,if_true,Option.isSome_none,if_false]at hm1 hm2 hl⊢<;>(try cases hm1)<;>(try cases hl)<;>first|rfl|(simp only[hm1,hl,Result.andThen_ok];done)|(simp only[hm2,hl,Result.andThen_ok];done)|(simp only[hm1,Result.andThen_ok];done)|(simp only[hm2,Result.andThen_ok];done)|(simp only[hl,Result.andThen_ok];done)
theorem sliceH_ok(r:RH β G K h w){t:TypeId}{x lo hi u:V}{x':Value}{lo' hi':Option Value}{l0:Bool}(hx:Rel G β x x')
  (hlo:match lo' with|some y=>Rel G β lo y|none=>lo=.int .i64 0) (hl0:l0=true->lo'=none) (hhi:match hi' with|some y=>Rel G β hi y|none=>hi=lenAt P t x)
  (hs:sliceH P h t x lo hi l0=some (true,u)):∃y,(Instr.sliceAt t x' lo' hi' none).run P w=.ok y w/\Rel G β u y:=by
 unfold sliceH at hs;split at hs
 ·rename_i e b n k l k' m hu;split at hs
  ·rename_i e' w' m' c hb;split at hs
   ·rename_i hc;obtain⟨he,hw⟩:=hc;simp only[sJ,Prod.mk.injEq,Bool.and_eq_true,decide_eq_true_eq]at hs;obtain⟨⟨⟨⟨h1,h2⟩,h3⟩,h4⟩,rfl⟩:=hs;obtain⟨l,rfl⟩:=Int.eq_ofNat_of_zero_le h1;obtain⟨m,rfl⟩:=Int.eq_ofNat_of_zero_le (Int.le_trans h1 h2);have e1:l<=m:=by omega
    have e2:m<=n:=by omega
    have blo:boundIs lo' 0 l:=by
     refine⟨fun y hy=> ?_,fun hy=> ?_⟩
     ·subst hy;simp only at hlo;cases hlo;exact⟨_,rfl⟩
     ·subst hy;simp at hlo;omega
    have bhi:boundIs hi' n m:=by
     refine⟨fun y hy=> ?_,fun hy=> ?_⟩
     ·subst hy;simp only at hhi;cases hhi;exact⟨_,rfl⟩
     ·subst hy;simp[lenAt]at hhi;omega
    have runit:∀(a:Option Addr) cap,n<=cap->(Instr.sliceAt t (.slice a n cap) lo' hi' none).run P w=.ok (.slice (if cap=l then a else a.map (·.add (l*szOf P e))) (m-l) (cap-l)) w:=fun a cap hcap=>by
     simp only[Instr.sliceAt,Sem.run_bind,run_underlying' hu,Result.andThen_ok,Instr.slice,bounds_ok blo bhi e1 (Nat.le_trans e2 hcap),run_sizeOf' he,Sem.run_pure]
    have hB:=r.blk b _ hb;simp only[Int.toNat_natCast]
    cases hx with
    |row0 hi=>
     rename_i a;have hm0:m=0:=by omega
     have hl0':l=0:=by omega
     subst hm0;subst hl0';refine⟨_,runit a 0 (Nat.le_refl _),?_⟩;cases l0
     ·exact .sub0
     ·exact .row0 hi
    |row hi hn hcc hm=>
     rename_i cap hm';rw[hi]at hB;obtain⟨hw',-⟩:=hB;refine⟨_,runit _ _ hn,?_⟩
     cases l0 with
     |true=>
      have:l=0:=blo.2 (hl0 rfl);subst this
      have e3:(if cap=0 then(some ⟨hm'.b,0,none⟩:Option Addr)else(some ⟨hm'.b,0,none⟩:Option Addr).map (·.add (0*szOf P e)))=some ⟨hm'.b,0,none⟩:=by
       split
       ·rfl
       ·simp only[Option.map_some,addr_add,Nat.zero_mul,Nat.add_zero]
      rw[e3];exact .row hi (by omega) (by omega) (by unfold maxn at*;omega)
     |false=>
      by_cases hcl:cap=l
      ·have hz:m-l=0:=by omega
       rw[if_pos hcl,hz];exact .sub0
      ·rw[if_neg hcl];simp only[Option.map_some,addr_add,cond_false];have:=Rel.sub (G:=G) (r:=l) (off:=0) (w:=w') (n:=m-l) (cap:=cap-l) hi (by omega) (by unfold maxn at*;omega);rw[hw,<-hw',Nat.zero_add];rw[Nat.add_zero,<-hw']at this;exact this
   ·cases hs
  ·cases hs
 ·rename_i len e b rr off k l k' m hu;split at hs
  ·rename_i hc;obtain⟨he,hlen,-⟩:=hc;have harr:arrOf P t=some (len,e):=by simp[arrOf,hu]
   have main:∀v,(decide (0<=l)&&decide (l<=m)&&decide (m<=(len:Int)))=true->
     (∀(l' m':Nat) (hm:Home),l=l'->m=m'->l'<=m'->m'<=len->(l0=true->l'=0)->β[b]? =some (.lie hm)->Rel G β v (.slice (some (if len=l' then⟨hm.b,rr*hm.w+off,none⟩else⟨hm.b,rr*hm.w+off+l'*szOf P e,none⟩)) (m'-l') (len-l')))->
     ∃y,(Instr.sliceAt t x' lo' hi' none).run P w=.ok y w/\Rel G β v y:=fun v hcond hv=>by
    simp only[Bool.and_eq_true,decide_eq_true_eq]at hcond;obtain⟨⟨h1,h2⟩,h3⟩:=hcond;obtain⟨l,rfl⟩:=Int.eq_ofNat_of_zero_le h1;obtain⟨m,rfl⟩:=Int.eq_ofNat_of_zero_le (Int.le_trans h1 h2);have e1:l<=m:=by omega
    have e2:m<=len:=by omega
    have blo:boundIs lo' 0 l:=by
     refine⟨fun y hy=> ?_,fun hy=> ?_⟩
     ·subst hy;simp only at hlo;cases hlo;exact⟨_,rfl⟩
     ·subst hy;simp at hlo;omega
    have bhi:boundIs hi' len m:=by
     refine⟨fun y hy=> ?_,fun hy=> ?_⟩
     ·subst hy;simp only at hhi;cases hhi;exact⟨_,rfl⟩
     ·subst hy;simp[lenAt,harr]at hhi;omega
    cases hx with
    |ref hi=>
     rename_i hm;refine⟨_,?_,hv l m hm rfl rfl e1 e2 (fun h0=> ?_) hi⟩
     ·simp only[Instr.sliceAt,Sem.run_bind,run_underlying' hu,Result.andThen_ok,Instr.sureAddr,Sem.run_pure,bounds_ok blo bhi e1 e2,run_sizeOf' he,addr_add]
     ·exact blo.2 (hl0 h0)
   split at hs
   ·rename_i b' hra;unfold rowsAt at hra;simp only at hra
    cases hb:h[b]? with
    |none=>rw[hb]at hra;cases hra
    |some blk=>
     rw[hb]at hra;cases blk<;>simp only at hra<;>try cases hra
     case rows et w' m' c=>
      split at hra
      ·rename_i hcc;obtain⟨q1,q2,q3⟩:=hcc;simp only[sJ]at hra;subst hra;rw[hb]at hs;simp only[sJ,Prod.mk.injEq,Bool.and_eq_true]at hs;obtain⟨⟨h1,h2⟩,rfl⟩:=hs;simp only[decide_eq_true_eq]at h2;refine main _ (by simpa using h1) fun l' mm hm e1 e2 e3 e4 e5 hi=> ?_;have hB:=r.blk _ _ hb;rw[hi]at hB;obtain⟨hw',hn0,hcm,ca,hh,hsz,hmc,hmx,-⟩:=hB;have:=e5 rfl;subst this
       have e6:(if len=0 then(⟨hm.b,rr*hm.w+off,none⟩:Addr)else⟨hm.b,rr*hm.w+off+0*szOf P e,none⟩)=⟨hm.b,0,none⟩:=by
        rw[q2,q3];simp
       rw[e6,e2,Int.toNat_natCast];exact .row hi (by omega) (by omega) (by unfold maxn at*;omega)
      ·cases hra
   ·simp only[sJ,Prod.mk.injEq]at hs;obtain⟨h1,rfl⟩:=hs;refine main _ h1 fun l' mm hm e1 e2 e3 e4 e5 hi=> ?_;rw[e1,e2,Int.toNat_natCast,Int.toNat_natCast];by_cases hll:len=l'
    ·have:mm-l'=0:=by omega
     rw[this];exact .sub0
    ·rw[if_neg hll,Nat.add_assoc];exact .sub hi (by omega) (by unfold maxn at*;omega)
  ·cases hs
 ·rename_i len e n c k l k' m hu;split at hs
  ·rename_i hc;obtain⟨he,hlen,hnn⟩:=hc;have harr:arrOf P t=some (len,e):=by simp[arrOf,hu]
   simp only[sJ,Prod.mk.injEq,Bool.and_eq_true,decide_eq_true_eq]at hs;obtain⟨⟨rfl,rfl⟩,rfl⟩:=hs
   have blo:boundIs lo' 0 0:=by
    refine⟨fun y hy=> ?_,fun _=>rfl⟩;subst hy;simp only at hlo;cases hlo;exact⟨_,rfl⟩
   have bhi:boundIs hi' len len:=by
    refine⟨fun y hy=> ?_,fun _=>rfl⟩;subst hy;simp only at hhi;cases hhi;exact⟨_,rfl⟩
   cases hx with
   |cref hG hsz hr=>
    rename_i bb off cs ee fz;refine⟨_,by simp only[Instr.sliceAt,Sem.run_bind,run_underlying' hu,Result.andThen_ok,Instr.sureAddr,Sem.run_pure,bounds_ok blo bhi (Nat.zero_le _) (Nat.le_refl _),run_sizeOf' he,addr_add];rfl,?_⟩;by_cases hl0:len=0
    ·subst hl0;exact .list0
    ·rw[if_neg hl0,Nat.zero_mul,Nat.add_zero,Nat.sub_zero];refine .list hG (Nat.le_trans (Nat.add_le_add_left hnn _) hsz) (Nat.le_refl _) hlen fun i j hi hj=> ?_
     exact hr _ (Nat.lt_of_lt_of_le (calc i*szOf P e+j<i*szOf P e+szOf P e:=by omega
      _=(i+1)*szOf P e:=by rw[Nat.add_mul,Nat.one_mul]
      _<=len*szOf P e:=Nat.mul_le_mul_right _ hi) hnn)
  ·cases hs
 ·cases hs
end
theorem evalOp_ok{P:Program}{β:Homes}{G K:Kept}{h h':List Blk}{w:World}{ρ:Operand->V}{ρ':Operand->Value}{v:V}(r:RH β G K h w)(hρ:∀x,Rel G β (ρ x) (ρ' x))(o:Oper)
  (he:evalOp P ρ h o.op=some (true,v,h')):OpOK P β G K w ρ' o v h':=by
 generalize ho:o.op=op at he
 cases op with
 |move x=>simp only[evalOp,sJ,Prod.mk.injEq,true_and]at he;obtain⟨rfl,rfl⟩:=he;exact opOK_value r (by simp only[execOp,ho,Sem.run_pure]) (hρ x)
 |assign x=>simp only[evalOp,sJ,Prod.mk.injEq,true_and]at he;obtain⟨rfl,rfl⟩:=he;exact opOK_value r (by simp only[execOp,ho,Sem.run_pure]) (hρ x)
 |pick c a b=>
  simp only[evalOp]at he;have hc:=hρ c;generalize hcv:ρ c=vc at he hc
  generalize hcv':ρ' c=vc' at hc
  cases hc with
  |bool t=>
   have run:(execOp ρ' o).run P w=.ok (.value (if t then ρ' a else ρ' b)) w:=by
    simp only[execOp,ho,hcv',asBool,Sem.run_bind,Sem.run_pure,Result.andThen_ok]
   have ha:=hρ a;have hb:=hρ b;simp only at he;split at he
   ·rename_i p q hp hq;simp only[sJ,Prod.mk.injEq,true_and]at he;obtain⟨rfl,rfl⟩:=he;rw[hp]at ha;rw[hq]at hb;refine opOK_value r run ?_;generalize ρ' a=xa at ha
    generalize ρ' b=xb at hb
    cases ha;cases hb;cases t<;>exact .bool _
   ·simp only[sJ,Prod.mk.injEq,true_and]at he;obtain⟨rfl,rfl⟩:=he;refine opOK_value r run ?_;cases t
    ·exact hb
    ·exact ha
  |_=>simp at he
 |alloc t=>
  simp only[evalOp]at he;split at he
  ·rename_i zs hz;simp only[sJ,Prod.mk.injEq,true_and]at he;obtain⟨rfl,rfl⟩:=he;exact op_alloc r hz o ho
  ·cases he
 |box t x=>
  simp only[evalOp]at he;split at he
  ·rename_i zs hz;simp only[sJ,Prod.mk.injEq,true_and]at he;obtain⟨rfl,rfl⟩:=he;exact op_box r hρ hz o ho
  ·cases he
 |build t parts=>
  simp only[evalOp]at he;split at he
  ·rename_i zs hz;split at he
   ·rename_i fs hu;split at he
    ·rename_i hf;split at he
     ·rename_i cs hb;simp only[sJ,Prod.mk.injEq,true_and]at he;obtain⟨rfl,rfl⟩:=he;exact op_build_struct r hρ hz hu hf hb o ho
     ·cases he
    ·cases he
   ·rename_i n e hu;split at he
    ·rename_i hf;split at he
     ·rename_i cs hb;simp only[sJ,Prod.mk.injEq,true_and]at he;obtain⟨rfl,rfl⟩:=he;exact op_build_array r hρ hz hu hf hb o ho
     ·cases he
    ·cases he
   ·cases he
  ·cases he
 |buildSlice t len parts=>
  simp only[evalOp]at he;split at he
  ·rename_i e hu;split at he
   ·rename_i hc;split at he
    ·rename_i zs hz;split at he
     ·rename_i hzl;split at he
      ·rename_i cs hb;split at he
       ·rename_i hi;simp only[sJ,Prod.mk.injEq,true_and]at he;obtain⟨rfl,rfl⟩:=he;exact op_buildSlice r hρ hu hc.1 hc.2.1 hc.2.2 hz hzl hb hi o ho
       ·cases he
      ·cases he
     ·cases he
    ·cases he
   ·cases he
  ·cases he
 |load t a=>
  simp only[evalOp]at he;split at he
  ·rename_i ht;split at he
   ·rename_i u hl;simp only[sJ,Prod.mk.injEq,true_and]at he;obtain⟨rfl,rfl⟩:=he;obtain⟨y,h1,h2⟩:=loadA_ok r ht (hρ a) hl;exact opOK_value r (by simp only[execOp,ho,Sem.run_bind,h1,Result.andThen_ok,Sem.run_pure]) h2
   split at he
   ·rename_i ob u hl;simp only[sJ,Prod.mk.injEq]at he;obtain⟨rfl,rfl,rfl⟩:=he;obtain⟨y,h1,h2⟩:=load_ok r ht (hρ a) hl;exact opOK_value r (by simp only[execOp,ho,Sem.run_bind,h1,Result.andThen_ok,Sem.run_pure]) h2
   ·cases he
  ·cases he
 |store t a u=>
  simp only[evalOp]at he;split at he
  ·rename_i ht;split at he
   ·rename_i h2 hl;simp only[sJ,Prod.mk.injEq,true_and]at he;obtain⟨rfl,rfl⟩:=he;obtain⟨w',h1,h3⟩:=storeA_ok r ht (hρ a) (hρ u) hl;exact⟨.skip,w',β,by simp only[execOp,ho,Sem.run_bind,h1,Result.andThen_ok,Sem.run_pure],Homes.le_refl _,h3,rfl⟩
   split at he
   ·rename_i ob h2 hl;simp only[sJ,Prod.mk.injEq]at he;obtain⟨rfl,rfl,rfl⟩:=he;obtain⟨w',h1,h3⟩:=store_ok r ht (hρ a) (hρ u) hl;exact⟨.skip,w',β,by simp only[execOp,ho,Sem.run_bind,h1,Result.andThen_ok,Sem.run_pure],Homes.le_refl _,h3,rfl⟩
   ·cases he
  ·cases he
 |nilCheck x=>
  simp only[evalOp]at he;split at he
  ·rename_i u hu;simp only[sJ,Prod.mk.injEq,true_and]at he;obtain⟨rfl,rfl⟩:=he;exact op_nil r hρ hu o ho
  ·cases he
 |binOp op t x y ty=>
  simp only[evalOp]at he;split at he
  ·rename_i ob u hu;simp only[sJ,Prod.mk.injEq]at he;obtain⟨rfl,rfl,rfl⟩:=he;obtain⟨z,h1,h2⟩:=bin_ok hu (hρ x) (hρ y) x y w;refine opOK_value r (y:=z) ?_ h2
   have:(execOp ρ' o).run P w=((do eqGuard op t x y (ρ' x) (ρ' y);binOp op t (ρ' x) (ρ' y):Sem Value).run P w).andThen fun a w'=>.ok (.value a) w':=by
    simp only[execOp,ho,Sem.run_bind,Sem.run_pure]
   rw[this,h1];rfl
  ·cases he
 |unOp op t x=>
  simp only[evalOp]at he;split at he
  ·rename_i ob u hu;simp only[sJ,Prod.mk.injEq]at he;obtain⟨rfl,rfl,rfl⟩:=he;exact op_un r hρ hu o ho
  ·cases he
 |convert s d x=>
  simp only[evalOp]at he;split at he
  ·rename_i ob u hu;simp only[sJ,Prod.mk.injEq]at he;obtain⟨rfl,rfl,rfl⟩:=he;exact op_conv r hρ hu o ho
  ·cases he
 |makeFunc fn first caps=>
  simp only[evalOp,sJ,Prod.mk.injEq,true_and]at he;obtain⟨rfl,rfl⟩:=he;refine opOK_value r (y:=.func fn (first.map ρ') (caps.map ρ')) (by simp only[execOp,ho,Instr.makeFunc,Sem.run_bind,Sem.run_pure,Result.andThen_ok]) (.func (by simp) (by simp) (fun j hj=> ?_) fun j hj=> ?_)
  ·have hj':j<first.size:=by simpa using hj
   simpa[gE,aG,hj']using hρ first[j]
  ·have hj':j<caps.size:=by simpa using hj
   simpa[gE,aG,hj']using hρ caps[j]
 |fieldAddr s x f=>
  simp only[evalOp]at he;split at he
  ·rename_i ob u hu;simp only[sJ,Prod.mk.injEq]at he;obtain⟨rfl,rfl,rfl⟩:=he;obtain⟨z,h1,h2⟩:=fieldAddr_ok (hρ x) hu w;exact opOK_value r (by simp only[execOp,ho,Sem.run_bind,h1,Result.andThen_ok,Sem.run_pure]) h2
  ·cases he
 |field t x f=>
  simp only[evalOp]at he;split at he
  ·rename_i u hu;simp only[sJ,Prod.mk.injEq,true_and]at he;obtain⟨rfl,rfl⟩:=he;obtain⟨z,h1,h2⟩:=field_ok (hρ x) hu w;exact opOK_value r (by simp only[execOp,ho,Sem.run_bind,h1,Result.andThen_ok,Sem.run_pure]) h2
  ·cases he
 |indexAddr t x i=>
  simp only[evalOp]at he;split at he
  ·rename_i ob u hu;simp only[sJ,Prod.mk.injEq]at he;obtain⟨rfl,rfl,rfl⟩:=he;obtain⟨z,h1,h2⟩:=indexAddr_ok r (hρ x) (hρ i) hu;exact opOK_value r (by simp only[execOp,ho,Sem.run_bind,h1,Result.andThen_ok,Sem.run_pure]) h2
  ·cases he
 |index t x i=>
  simp only[evalOp]at he;split at he
  ·rename_i ob u hu;simp only[sJ,Prod.mk.injEq]at he;obtain⟨rfl,rfl,rfl⟩:=he;obtain⟨z,h1,h2⟩:=index_ok (hρ x) (hρ i) hu w;exact opOK_value r (by simp only[execOp,ho,Sem.run_bind,h1,Result.andThen_ok,Sem.run_pure]) h2
  ·cases he
 |extract x i=>
  simp only[evalOp]at he;have hx:=hρ x;generalize hv:ρ x=vx at he hx
  generalize hv':ρ' x=vx' at hx
  cases hx with
  |tuple hs hr=>
   rename_i vs xs;simp only at he;split at he
   ·rename_i hi;simp only[sJ,Prod.mk.injEq,true_and]at he;obtain⟨rfl,rfl⟩:=he;have hi':i<xs.size:=by omega
    refine opOK_value r (y:=xs.getD i Go.undef) ?_ (hr i hi);simp only[execOp,ho,hv',Instr.extract,Array.getElem?_eq_getElem hi',Sem.run_bind,Sem.run_pure,Result.andThen_ok,aG,Option.getD_some]
   ·cases he
  |_=>simp at he
 |slice t x lo hi mx=>
  have key:∀lo' hi' u ob,sliceV P t (ρ x) lo' hi'=some (ob,u)->(match lo.map ρ' with|some y=>Rel G β lo' y|none=>lo'=.int .i64 0)->(match hi.map ρ' with|some y=>Rel G β hi' y|none=>hi'=lenOfV (ρ x))->
    mx=none->ob=true->OpOK P β G K w ρ' o u h:=fun lo' hi' u ob hs hl hh hm hob=>by
   subst hm;subst hob;obtain⟨z,h1,h2⟩:=run_slice (hρ x) hl hh hs w;exact opOK_value r (by simp only[execOp,ho,Option.map_none,Sem.run_bind,h1,Result.andThen_ok,Sem.run_pure]) h2
  have keyH:∀lo' hi' u ob l0,sliceH P h t (ρ x) lo' hi' l0=some (ob,u)->(match lo.map ρ' with|some y=>Rel G β lo' y|none=>lo'=.int .i64 0)->(match hi.map ρ' with|some y=>Rel G β hi' y|none=>hi'=lenAt P t (ρ x))->
    (l0=true->lo=none)->mx=none->ob=true->OpOK P β G K w ρ' o u h:=fun lo' hi' u ob l0 hs hl hh h0 hm hob=>by
   subst hm;subst hob;obtain⟨z,h1,h2⟩:=sliceH_ok r (hρ x) hl (fun q=>by rw[h0 q];rfl) hh hs;exact opOK_value r (by simp only[execOp,ho,Option.map_none,Sem.run_bind,h1,Result.andThen_ok,Sem.run_pure]) h2
  cases lo with
  |none=>
   cases hi with
   |none=>
    cases mx with
    |some _=>simp[evalOp]at he
    |none=>
     simp only[evalOp]at he;split at he
     ·rename_i ob u hu;simp only[sJ,Prod.mk.injEq]at he;obtain⟨rfl,rfl,rfl⟩:=he;exact keyH _ _ _ _ true hu rfl rfl (by simp) rfl rfl
     ·cases he
   |some hi=>
    cases mx with
    |some _=>simp[evalOp]at he
    |none=>
     simp only[evalOp]at he;split at he
     ·rename_i ob u hu;simp only[sJ,Prod.mk.injEq]at he;obtain⟨rfl,rfl,rfl⟩:=he;exact keyH _ _ _ _ true hu rfl (hρ hi) (by simp) rfl rfl
     split at he
     ·rename_i ob u hu;simp only[sJ,Prod.mk.injEq]at he;obtain⟨rfl,rfl,rfl⟩:=he;exact key _ _ _ _ hu rfl (hρ hi) rfl rfl
     ·cases he
  |some lo=>
   cases hi with
   |none=>
    cases mx with
    |some _=>simp[evalOp]at he
    |none=>
     simp only[evalOp]at he;split at he
     ·rename_i ob u hu;simp only[sJ,Prod.mk.injEq]at he;obtain⟨rfl,rfl,rfl⟩:=he;exact keyH _ _ _ _ false hu (hρ lo) rfl (by simp) rfl rfl
     split at he
     ·rename_i ob u hu;simp only[sJ,Prod.mk.injEq]at he;obtain⟨rfl,rfl,rfl⟩:=he;exact key _ _ _ _ hu (hρ lo) rfl rfl rfl
     ·cases he
   |some hi=>
    cases mx with
    |some _=>simp[evalOp]at he
    |none=>
     simp only[evalOp]at he;split at he
     ·rename_i ob u hu;simp only[sJ,Prod.mk.injEq]at he;obtain⟨rfl,rfl,rfl⟩:=he;exact keyH _ _ _ _ false hu (hρ lo) (hρ hi) (by simp) rfl rfl
     split at he
     ·rename_i ob u hu;simp only[sJ,Prod.mk.injEq]at he;obtain⟨rfl,rfl,rfl⟩:=he;exact key _ _ _ _ hu (hρ lo) (hρ hi) rfl rfl
     ·cases he
 |makeSlice t l c=>
  simp only[evalOp]at he;split at he
  ·rename_i e k n k' m hu hl hc;split at he
   ·rename_i zs hz;split at he
    ·rename_i hcond;simp only[sJ,Prod.mk.injEq,Bool.and_eq_true,decide_eq_true_eq]at he;obtain⟨⟨⟨h1,h2⟩,h3⟩,rfl,rfl⟩:=he;exact op_makeSlice r hρ hu hl hc hz hcond.1 hcond.2.1 hcond.2.2.1 hcond.2.2.2 h1 h2 h3 o ho
    ·cases he
   ·cases he
  ·cases he
 |call c=>
  obtain⟨cal,args,ts⟩:=c
  cases cal with
  |builtin b=>
   cases b<;>simp only[evalOp]at he
   case len=>
    split at he
    ·rename_i u hu;split at he
     ·rename_i hn;simp only[sJ,Prod.mk.injEq,true_and]at he;obtain⟨rfl,rfl⟩:=he;exact op_len r hρ hu hn o ho
     ·cases he
    ·cases he
   case max=>
    split at he
    ·rename_i x y hxy;split at he
     ·rename_i k a k' b ha hb;simp only[sJ,Prod.mk.injEq,true_and]at he;obtain⟨rfl,rfl⟩:=he;have e1:=hρ x;have e2:=hρ y;rw[ha]at e1;rw[hb]at e2
      have e3:args.map ρ'= #[.int k a,.int k' b]:=by
       apply Array.ext';simp only[Array.toList_map,hxy,List.map_cons,List.map_nil];generalize ρ' x=u at e1;generalize ρ' y=v at e2
       cases e1;cases e2;rfl
      have e4:(if b>a then b else a)=max a b:=by split<;>omega
      exact opOK_value r (y:=.int k (max a b)) (by simp only[execOp,ho,resolve,Sem.run_bind,Sem.run_pure,Result.andThen_ok,invoke,builtin,e3,run_max_int2,e4]) (.int _ _)
     ·cases he
    ·cases he
   case min=>
    split at he
    ·rename_i x y hxy;split at he
     ·rename_i k a k' b ha hb;simp only[sJ,Prod.mk.injEq,true_and]at he;obtain⟨rfl,rfl⟩:=he;have e1:=hρ x;have e2:=hρ y;rw[ha]at e1;rw[hb]at e2
      have e3:args.map ρ'= #[.int k a,.int k' b]:=by
       apply Array.ext';simp only[Array.toList_map,hxy,List.map_cons,List.map_nil];generalize ρ' x=u at e1;generalize ρ' y=v at e2
       cases e1;cases e2;rfl
      have e4:(if b<a then b else a)=min a b:=by split<;>omega
      exact opOK_value r (y:=.int k (min a b)) (by simp only[execOp,ho,resolve,Sem.run_bind,Sem.run_pure,Result.andThen_ok,invoke,builtin,e3,run_min_int2,e4]) (.int _ _)
     ·cases he
    ·cases he
   all_goals cases he
  |value f=>simp[evalOp]at he
  |invoke a b=>simp[evalOp]at he
 |_=>simp[evalOp]at he
theorem uponIn_mono{F:Fence}{n:Nat}{P:Program}{o:Oper}{a:Act}{next next':Act->World->Prop}{Q Q':Exit->Act->World->Prop}(hn:∀a w,next a w->next' a w)(hq:∀e a w,Q e a w->Q' e a w)(x:Result Next)
  (h:o.uponIn F n P a next Q x):o.uponIn F n P a next' Q' x:=by
 have lo:LetsOut Q->LetsOut Q':=fun⟨a,w,h⟩=>⟨a,w,hq _ _ _ h⟩
 cases x with
 |ok nx w=>
  cases nx with
  |value v=>exact hn _ _ h
  |skip=>exact hn _ _ h
  |defer d=>exact hn _ _ h
  |enter f args=>exact⟨h.1,h.2.1,fun cs hr=>let⟨e,w',fr,r,s⟩:=h.2.2 cs hr;⟨e,w',fr,by cases e with|returned v=>exact hn _ _ r|panicked c=>exact hq _ _ _ r|outgrown=>exact lo r,s⟩⟩
  |row row args=>exact⟨h.1,h.2.mono fun v w' r=>hn _ _ r⟩
  |round l f t az bo=>exact⟨h.1,h.2.mono fun e w' r=>by cases e with|returned v=>exact hn _ _ r|panicked c=>exact hq _ _ _ r|outgrown=>exact lo r⟩
  |_=>exact h.elim
 |halt hl w=>
  cases hl with
  |panic v=>exact hq _ _ _ h
  |_=>exact h.elim
theorem mono_ops{F:Fence}{n:Nat}{P:Program}{ops:Array Oper}{Q Q':Exit->Act->World->Prop}(hq:∀e a w,Q e a w->Q' e a w){is:List Nat}:∀ {a:Act} {w:World},wpOpsIn F n P ops Q is a w->wpOpsIn F n P ops Q' is a w:=by
 induction is with
 |nil=>intro a w h;exact hq _ _ _ h
 |cons i is ih=>
  intro a w h;simp only[wpOpsIn]at h⊢
  cases hi:ops[i]? with
  |none=>simp only[hi]at h;exact ih h
  |some o=>
   simp only[hi]at h;by_cases hw:Region.wanted o (yielded ops a.tmps)=true
   ·simp only[hw,if_true]at h⊢;exact⟨h.1,uponIn_mono (fun _ _=>ih) hq _ h.2⟩
   ·simp only[hw,if_false,Bool.false_eq_true]at h⊢;exact⟨h.1,ih h.2⟩
def AOps(P:Program)(ro:Env)(ops:Array Oper)(is:List Nat)(S:St)(Q:Exit->St->Prop):Prop:=
 ∀β G K a w,RS β G K S a w->wpOpsIn (wide ro) 0 P ops (Post ro.m Q β G K) is a w
def wantedV(ops:Array Oper)(S:St)(o:Oper):Option Bool:=
 match o.guard with
 |none=>some true
 |some (j,want)=>
  match(ops[j]?).bind (·.dst)with
  |none=>some false
  |some d=>
   match S.t.getD d .undef with
   |.bool b=>some (b==want)
   |.tuple _=>some false
   |_=>none
theorem wanted_ok{β:Homes}{G K:Kept}{S:St}{a:Act}{w:World}(r:RS β G K S a w){ops:Array Oper}{o:Oper}{b:Bool}(h:wantedV ops S o=some b):Region.wanted o (yielded ops a.tmps)=b:=by
 unfold wantedV at h;unfold Region.wanted;split at h
 ·rename_i hg;cases h;rw[hg]
 ·rename_i j want hg;rw[hg];simp only;unfold yielded;split at h
  ·rename_i hd;cases h;rw[hd];rfl
  ·rename_i d hd;rw[hd];split at h
   ·rename_i c hc;cases h;have hr:=r.tmp d;rw[hc]at hr
    have hlt:d<a.tmps.size:=by
     rw[r.size];rcases Nat.lt_or_ge d S.t.length with h'|h'
     ·exact h'
     ·rw[gE,List.getElem?_eq_none h']at hc;simp at hc
    have he:a.tmps[d]? =some (a.tmps.getD d Go.undef):=by simp[aG,hlt]
    rw[Option.bind_some,he];generalize a.tmps.getD d Go.undef=x at hr
    cases hr;simp
   ·rename_i vs hc;cases h;have hr:=r.tmp d;rw[hc]at hr
    have hlt:d<a.tmps.size:=by
     rw[r.size];rcases Nat.lt_or_ge d S.t.length with h'|h'
     ·exact h'
     ·rw[gE,List.getElem?_eq_none h']at hc;simp at hc
    have he:a.tmps[d]? =some (a.tmps.getD d Go.undef):=by simp[aG,hlt]
    rw[Option.bind_some,he];generalize a.tmps.getD d Go.undef=x at hr
    cases hr;simp
   ·cases h
def runOps(P:Program)(ops:Array Oper):List Nat->Bool->St->Option (Bool × St)
 |[],ob,S=>some (ob,S)
 |i::is,ob,S=>
  match ops[i]? with
  |none=>runOps P ops is ob S
  |some o=>
   match wantedV ops S o with
   |some true=>
    match evalOp P S.eval S.h o.op with
    |some (b,v,h')=>runOps P ops is (ob&&b) (St.put {S with h:=h'} o.dst v)
    |none=>none
   |some false=>runOps P ops is ob (S.put o.dst (.tuple []))
   |none=>none
section
variable {P:Program} {ro:Env} {ops:Array Oper} {S:St} {Q:Exit->St->Prop}
theorem AOps.nil(h:Q .normal S):AOps P ro ops [] S Q:=fun β G K _ _ r=>⟨S,β,G,K,Homes.low_refl _ _,G.ext_refl K,K.le_refl,r,h⟩
theorem Oper.no_defer_of_eval{P:Program}{ρ:Operand->V}{h:List Blk}{op:Op}{x:Bool × V × List Blk}(he:evalOp P ρ h op=some x):∀c,op≠ .defer c:=by
 intro c hc;subst hc;simp[evalOp]at he
theorem AOps.step{i:Nat}{is:List Nat}{o:Oper}{v:V}{h':List Blk}(hi:ops[i]? =some o)(hw:wantedV ops S o=some true)(he:evalOp P S.eval S.h o.op=some (true,v,h'))
  (hd:∀j,j∈S.d->h'[j]? =S.h[j]?) (rest:AOps P ro ops is (St.put {S with h:=h'} o.dst v) Q):AOps P ro ops (i::is) S Q:=fun β G K a w r=>by
 obtain⟨nx,w',β',hrun,hle,hrh,hleft⟩:=evalOp_ok r.h r.eval o he
 have r1:RS β' G K {S with h:=h'} a w':=⟨hrh,r.size,fun j=>(r.tmp j).mono G.le_refl hle,r.marks,fun j hj=>by
  obtain⟨x,h1,h2,h3⟩:=r.mark j hj;have hm:S.d.getD j 0∈S.d:=by rw[gE,List.getElem?_eq_getElem hj];exact List.getElem_mem hj
  exact⟨x,hle _ _ (by simp) h1,h2,by rw[hd _ hm];exact h3⟩⟩
 simp only[wpOpsIn,hi,wanted_ok r hw,if_true,Oper.wpIn];refine⟨fun _ _=>trivial,?_⟩
 have hsem:(o.semAt ro.ro a.eval).run P w=.ok nx w':=by
  rw[Oper.semAt_eq _ _ _ (Oper.no_defer_of_eval he)];exact hrun
 rw[hsem]
 cases nx with
 |value y=>exact mono_ops (fun e a w hp=>hp.up (hle.low _) (G.ext_refl K) K.le_refl) (rest β' G K _ _ (r1.put hleft o.dst))
 |skip=>
  have:v=.undef:=hleft;subst this;exact mono_ops (fun e a w hp=>hp.up (hle.low _) (G.ext_refl K) K.le_refl) (rest β' G K _ _ (r1.put (.undef _) o.dst))
 |_=>exact hleft.elim
theorem AOps.skip{i:Nat}{is:List Nat}{o:Oper}(hi:ops[i]? =some o)(hw:wantedV ops S o=some false)(rest:AOps P ro ops is (S.put o.dst (.tuple [])) Q):AOps P ro ops (i::is) S Q:=fun β G K a w r=>by
 simp only[wpOpsIn,hi,wanted_ok r hw,Bool.false_eq_true,if_false];exact⟨fun _ _=>trivial,rest β G K _ _ (r.put (.tuple (by simp) (by simp)) o.dst)⟩
theorem AOps.absent{i:Nat}{is:List Nat}(hi:ops[i]? =none)(rest:AOps P ro ops is S Q):AOps P ro ops (i::is) S Q:=fun β G K a w r=>by
 simp only[wpOpsIn,hi];exact rest β G K a w r
theorem evalOp_keeps_obj{P:Program}{ρ:Operand->V}{h h':List Blk}{op:Op}{b:Bool}{v:V}(he:evalOp P ρ h op=some (b,v,h')):∀(j:Nat) (x:Obj),h[j]? =some (.obj x)->h'[j]? =some (.obj x):=by
 intro j x hj;have hlt:j<h.length:=(List.getElem?_eq_some_iff.1 hj).1;have app:∀k,(h++ [k])[j]? =some (.obj x):=fun k=>by rw[aL hlt];exact hj
 have st:∀ {t a u} {q:Bool × List Blk},storeV P h t a u=some q->q.2[j]? =some (.obj x):=fun {t a u q} hs=>by
  unfold storeV at hs;split at hs
  ·rename_i i r off;split at hs
   ·split at hs
    ·rename_i cs hi;split at hs
     ·cases hs;have:i≠j:=fun e=>by subst e;rw[hi]at hj;cases hj
      simp[sN this,hj]
     ·cases hs
    ·rename_i hi;cases hs;have:i≠j:=fun e=>by subst e;rw[hi]at hj;cases hj
     simp[sN this,hj]
    ·cases hs
   ·cases hs
  ·cases hs
 have stA:∀ {t a u} {q:List Blk},storeA P h t a u=some q->q[j]? =some (.obj x):=fun {t a u q} hs=>by
  unfold storeA at hs;split at hs
  ·split at hs
   ·rename_i i r off;split at hs
    ·rename_i hi;split at hs
     ·split at hs
      ·split at hs
       ·cases hs;have:i≠j:=fun e=>by subst e;rw[hi]at hj;cases hj
        simp[sN this,hj]
       ·cases hs
      ·cases hs
     ·cases hs
    ·cases hs
   ·cases hs
  ·cases hs
 cases op
 case slice t x lo hi mx=>
  cases lo<;>cases hi<;>cases mx<;>simp only[evalOp]at he<;>first
   |cases he
   |((repeat' split at he)<;>first|(cases he;exact hj)|cases he)
 case call c=>
  obtain⟨cal,args,ts⟩:=c
  cases cal with
  |builtin bb=>
   cases bb<;>simp only[evalOp]at he
   case len=>(repeat' split at he)<;>first|(cases he;exact hj)|cases he
   case max=>(repeat' split at he)<;>first|(cases he;exact hj)|cases he
   case min=>(repeat' split at he)<;>first|(cases he;exact hj)|cases he
   all_goals cases he
  |value f=>simp[evalOp]at he
  |invoke a b=>simp[evalOp]at he
 all_goals simp only[evalOp]at he
 case store t a u=>
  split at he
  ·split at he
   ·rename_i h2 hs;cases he;exact stA hs
   split at he
   ·rename_i ob h2 hs;cases he;exact st hs
   ·cases he
  ·cases he
 all_goals first
  |(cases he;exact hj)
  |(repeat' split at he)<;>first|(cases he;first|exact hj|exact app _)|cases he
theorem AOps.run:∀(is:List Nat) (is2:List Nat) (S S':St) (ob:Bool),runOps P ops is ob S=some (true,S')->(∀j,j∈S.d->∃x,S.h[j]? =some (.obj x))->AOps P ro ops is2 S' Q->AOps P ro ops (is++is2) S Q:=by
 have mono:∀(is:List Nat) (ob:Bool) (S S':St),runOps P ops is ob S=some (true,S')->ob=true:=by
  intro is
  induction is with
  |nil=>intro ob S S' h;simp only[runOps,sJ,Prod.mk.injEq]at h;exact h.1
  |cons i is ih=>
   intro ob S S' h;simp only[runOps]at h;split at h
   ·exact ih _ _ _ h
   ·split at h
    ·split at h
     ·have:=ih _ _ _ h;simp at this;exact this.1
     ·cases h
    ·exact ih _ _ _ h
    ·cases h
 intro is
 induction is with
 |nil=>intro is2 S S' ob h hd h2;simp only[runOps,sJ,Prod.mk.injEq]at h;obtain⟨_,rfl⟩:=h;exact h2
 |cons i is ih=>
  intro is2 S S' ob h hd h2;simp only[runOps]at h;split at h
  ·rename_i hi;exact AOps.absent hi (ih is2 _ _ _ h hd h2)
  ·rename_i o hi;split at h
   ·rename_i hw;split at h
    ·rename_i b v h' he;have hb:b=true:=by have:=mono _ _ _ _ h;simp at this;exact this.2
     subst hb;refine AOps.step hi hw he (fun j hj=> ?_) (ih is2 _ _ _ h (fun j hj=> ?_) h2)
     ·obtain⟨x,hx⟩:=hd j hj;rw[hx];exact evalOp_keeps_obj he j x hx
     ·have hj':j∈S.d:=by cases hdst:o.dst<;>simpa[St.put,hdst]using hj
      obtain⟨x,hx⟩:=hd j hj';refine⟨x,?_⟩;have:=evalOp_keeps_obj he j x hx;cases hdst:o.dst<;>simpa[St.put,hdst]using this
    ·cases h
   ·rename_i hw;refine AOps.skip hi hw (ih is2 _ _ _ h (fun j hj=> ?_) h2);have hj':j∈S.d:=by cases hdst:o.dst<;>simpa[St.put,hdst]using hj
    obtain⟨x,hx⟩:=hd j hj';exact⟨x,by cases hdst:o.dst<;>simpa[St.put,hdst]using hx⟩
   ·cases h
theorem AOps.split{is:List Nat}(d:Nat){b:Bool}(hb:S.t.getD d .undef=.bool b)(ht:b=true->AOps P ro ops is {S with t:=S.t.set d (.bool true)} Q)(hf:b=false->AOps P ro ops is {S with t:=S.t.set d (.bool false)} Q):AOps P ro ops is S Q:=by
 have same:∀c,b=c->S={S with t:=S.t.set d (.bool c)}:=fun c hc=>by
  subst hc
  have:S.t.set d (.bool b)=S.t:=by
   apply List.ext_getElem?;intro j;by_cases e:d=j
   ·subst e;rcases Nat.lt_or_ge d S.t.length with h|h
    ·rw[List.getElem?_set_self h,List.getElem?_eq_getElem h];rw[gE,List.getElem?_eq_getElem h]at hb;simp at hb;rw[hb]
    ·rw[List.getElem?_eq_none (by simpa using h),List.getElem?_eq_none h]
   ·rw[sN e]
  rw[this]
 cases b with
 |true=>have:=ht rfl;rwa[<-same true rfl]at this
 |false=>have:=hf rfl;rwa[<-same false rfl]at this
theorem AWP.region{id:Nat}(h:AOps P ro ops (List.range ops.size) S Q):AWP P ro (.region id ops false) S Q:=fun β G K a w r=>wpIn_region (h β G K a w r)
theorem RS.drew{β:Homes}{G K:Kept}{S:St}{a:Act}{w:World}(r:RS β G K S a w):RS β G K S a {w with drawn:=w.drawn+1}:=⟨r.h.drew,r.size,r.tmp,r.marks,r.mark⟩
end
structure KeepsIn(G:Kept)(w:World):Prop where
 at_:∀b o,G b=some o->w.heap[b]? =some o
 amb:G.amb.ok w
instance (G:Kept) (w:World):CoeFun (KeepsIn G w) (fun _=>∀b o,G b=some o->w.heap[b]? =some o):=⟨KeepsIn.at_⟩
def PCalls(P:Program)(f:FuncId)(args:List V)(post:V->Prop):Prop:=
 (∀xs w,(callFunc f xs).run P w=.ok (.enter f xs) w)/\
 ∀G w (xs:Array Value),KeepsIn G w->args.length=xs.size->(∀j,j<args.length->Rel G [] (args.getD j .undef) (xs.getD j Go.undef))->
  Calls P f xs w fun e w'=>∃v x G',e=.returned x/\G.le G'/\KeepsIn G' w'/\(∀b o,G' b=some o->G b=some o\/w.heap.size<=b)/\
   (∀b,b<w.heap.size->w'.heap[b]? =w.heap[b]?)/\w.heap.size<=w'.heap.size/\Rel G' [] v x/\post v
theorem PCalls.tight{P:Program}{f:FuncId}{args:List V}{post:V->Prop}(hc:PCalls P f args post)(G:Kept)(w:World)(xs:Array Value)(hk:KeepsIn G w)(hl:args.length=xs.size)
  (hr:∀j,j<args.length->Rel G [] (args.getD j .undef) (xs.getD j Go.undef)):
  Calls P f xs w fun e w'=>(∃v x G',e=.returned x/\G.le G'/\KeepsIn G' w'/\(∀b o,G' b=some o->G b=some o\/w.heap.size<=b)/\
   (∀b,b<w.heap.size->w'.heap[b]? =w.heap[b]?)/\w.heap.size<=w'.heap.size/\Rel G' [] v x/\post v)/\Mild w w':=by
 refine(hc.2 ⟨G.f,ambOf w⟩ w xs ⟨hk.at_,ambOf_ok w⟩ hl (fun j hj=>Rel.monoF (G:=G) (G':=⟨G.f,ambOf w⟩) (fun _ _ h=>h) (hr j hj) (Homes.le_refl _))).mono ?_;rintro e w' ⟨v,x,G',h1,h2,h3,h4,h5,h6,h7,h8⟩
 have hm:Mild w w':=Mild.of_amb (by have:=h3.amb;rwa[<-h2.same]at this);exact⟨⟨v,x,⟨G'.f,G.amb⟩,h1,⟨h2.sub,rfl⟩,⟨h3.at_,hk.amb.mild hm⟩,h4,h5,h6,Rel.monoF (G:=G') (G':=⟨G'.f,G.amb⟩) (fun _ _ h=>h) h7 (Homes.le_refl _),h8⟩,hm⟩
inductive Snap(h:List Blk):V->V->Prop where
 |imm {v} (hv:v.imm=true):Snap h v v
 |undef (v):Snap h v .undef
 |row {i n e w m c} (hi:h[i]? =some (.rows e w m c)) (hn:n<=m):Snap h (.row i n) (.list w n c)
 |ref {i off n} {cs:List V} {c:Nat->V} (hi:h[i]? =some (.cells cs)) (hn:off+n<=cs.length) (hc:∀j,j<n->Snap h (cs.getD (off+j) .undef) (c j)):Snap h (.ref i 0 off) (.cref n c)
 |refrow {i r off n e w m c} {c':Nat->V} (hi:h[i]? =some (.rows e w m c)) (hr:r<m) (hn:off+n<=w) (hc:∀j,j<n->c' j=c r (off+j)):Snap h (.ref i r off) (.cref n c')
 |agg {vs us:List V} (hl:vs.length=us.length) (hc:∀j,j<vs.length->Snap h (vs.getD j .undef) (us.getD j .undef)):Snap h (.agg vs) (.agg us)
 |tuple {vs us:List V} (hl:vs.length=us.length) (hc:∀j,j<vs.length->Snap h (vs.getD j .undef) (us.getD j .undef)):Snap h (.tuple vs) (.tuple us)
 |func {fn} {f c f' c':List V} (hf:f.length=f'.length) (hl:c.length=c'.length) (hc:∀j,j<f.length->Snap h (f.getD j .undef) (f'.getD j .undef)) (hc':∀j,j<c.length->Snap h (c.getD j .undef) (c'.getD j .undef)):
   Snap h (.func fn f c) (.func fn f' c')
 |iface {t v u} (hv:Snap h v u):Snap h (.iface t v) (.iface t u)
 |sub {i r w n e m c} {c':Nat->Nat->V} (hi:h[i]? =some (.rows e w m c)) (hn:r+n<=m) (hc:∀a j,a<n->j<w->c' a j=c (r+a) j):Snap h (.sub i r 0 w n) (.list w n c')
 |subrow {i r off w n e w' m c} {c':Nat->Nat->V} (hi:h[i]? =some (.rows e w' m c)) (hr:r<m) (hn:off+n*w<=w') (hc:∀a j,a<n->j<w->c' a j=c r (off+(a*w+j))):Snap h (.sub i r off w n) (.list w n c')
 |subcells {i off w n} {cs:List V} {c':Nat->Nat->V} (hi:h[i]? =some (.cells cs)) (hn:off+n*w<=cs.length) (hc:∀a j,a<n->j<w->Snap h (cs.getD (off+(a*w+j)) .undef) (c' a j)):Snap h (.sub i 0 off w n) (.list w n c')
 |weak {v u u'} (hv:Snap h v u) (hl:VLe u u'):Snap h v u'
open Classical in
noncomputable def allF(β:Homes)(G:Kept)(h:List Blk)(w:World)(b:Nat):Option Obj:=
 match G b with
 |some o=>some o
 |none=>if∃(i:Nat) (x:Home) (k:Blk),h[i]? =some k/\k≠ .gone/\β[i]? =some (.lie x)/\x.b=b then w.heap[b]? else none
noncomputable def allOf(β:Homes)(G:Kept)(h:List Blk)(w:World):Kept:=⟨allF β G h w,G.amb⟩
theorem allOf_le(β:Homes)(G:Kept)(h:List Blk)(w:World):G.le (allOf β G h w):=⟨fun b o hb=>by simp[allOf,allF,hb],rfl⟩
theorem RH.gamb{β:Homes}{G K:Kept}{h:List Blk}{w:World}(r:RH β G K h w):G.amb.ok w:=by rw[r.gk.same];exact r.amb
theorem RH.keeps{β:Homes}{G K:Kept}{h:List Blk}{w:World}(r:RH β G K h w):KeepsIn G w:=⟨fun _ _ hb=>r.keep _ _ (r.gk _ _ hb),r.gamb⟩
theorem allOf_new{β:Homes}{G K:Kept}{h:List Blk}{w:World}(r:RH β G K h w):∀b o,allOf β G h w b=some o->G b=some o\/K b=none:=fun b o hb=>by
 change allF β G h w b=some o at hb
 unfold allF at hb;split at hb
 ·rename_i o' hG;left;rw[hG];exact hb
 ·split at hb
  ·rename_i hex;obtain⟨i,x,k,h1,h2,h3,rfl⟩:=hex;right;exact(r.sep i x k h1 h2 h3).1
  ·cases hb
theorem allOf_keeps{β:Homes}{G K:Kept}{h:List Blk}{w:World}(r:RH β G K h w):KeepsIn (allOf β G h w) w where
 at_ b o hb:=by
  change allF β G h w b=some o at hb
  unfold allF at hb;split at hb
  ·rename_i o' hG;cases hb;exact r.keep _ _ (r.gk _ _ hG)
  ·split at hb
   ·exact hb
   ·cases hb
 amb:=r.gamb
theorem allOf_home{β:Homes}{G K:Kept}{h:List Blk}{w:World}(r:RH β G K h w){i:Nat}{k:Blk}{x:Home}{o:Obj}(hi:h[i]? =some k)(hk:k≠ .gone)(hb:β[i]? =some (.lie x))(ho:w.heap[x.b]? =some o):allOf β G h w x.b=some o:=by
 have hG:G x.b=none:=by
  cases hG:G x.b with
  |none=>rfl
  |some o'=>have:=r.gk _ _ hG;rw[(r.sep i x k hi hk hb).1]at this;cases this
 show allF β G h w x.b=some o;unfold allF;rw[hG];simp only;rw[if_pos ⟨i,x,k,hi,hk,hb,rfl⟩];exact ho
theorem snap_rel{β:Homes}{G K:Kept}{h:List Blk}{w:World}(r:RH β G K h w){v u:V}(hs:Snap h v u):∀ {x:Value},Rel G β v x->Rel (allOf β G h w) [] u x:=by
 induction hs with
 |imm hv=>intro x hx;exact(hx.imm hv).mono (allOf_le _ _ _ _) (Homes.le_refl _)
 |undef v=>intro x _;exact .undef x
 |row hi hn=>
  intro x hx;have hB:=r.blk _ _ hi
  cases hx with
  |row0 hb=>exact .list0
  |row hb hc0 hcc hm=>
   rw[hb]at hB;have hc:=Nat.le_trans hc0 hcc;obtain⟨hw,h0,hcm,c,hh,hsz,hmc,hmx,hr⟩:=hB;subst hw;refine .list (allOf_home r hi (by simp) hb hh) ?_ hc0 hm fun i j hi' hj=> ?_
   ·rw[hsz,Nat.zero_add];exact Nat.mul_le_mul_right _ hc
   ·rw[Nat.zero_add];exact(hr i j (by omega) hj).mono (allOf_le _ _ _ _) (Homes.le_refl _)
 |ref hi hn hc ih=>
  intro x hx;have hB:=r.blk _ _ hi
  cases hx with
  |ref hb=>
   rw[hb]at hB;obtain⟨c,e,hh,hsz,hr⟩:=hB;rw[Nat.zero_mul,Nat.zero_add];exact .cref (allOf_home r hi (by simp) hb hh) (by omega) fun j hj=>ih j hj (hr _ (by omega))
 |refrow hi hr hn hc=>
  intro x hx;have hB:=r.blk _ _ hi
  cases hx with
  |ref hb=>
   rename_i i rr off n e w' m c c' y;rw[hb]at hB;obtain⟨hw,h0,hcm,ca,hh,hsz,hmc,hmx,hrr⟩:=hB;subst hw
   have room:rr*y.w+y.w<=y.cap*y.w:=by
    have:(rr+1)*y.w<=y.cap*y.w:=Nat.mul_le_mul_right _ (by omega);rw[Nat.succ_mul]at this;exact this
   refine .cref (allOf_home r hi (by simp) hb hh) (by omega) fun j hj=> ?_;rw[hc j hj,Nat.add_assoc];exact(hrr rr (off+j) hr (by omega)).mono (allOf_le _ _ _ _) (Homes.le_refl _)
 |agg hl hc ih=>
  intro x hx
  cases hx with
  |agg hs hr=>exact .agg (by omega) fun j hj=>ih j (by omega) (hr j (by omega))
 |tuple hl hc ih=>
  intro x hx
  cases hx with
  |tuple hs hr=>exact .tuple (by omega) fun j hj=>ih j (by omega) (hr j (by omega))
 |func hf hl hc hc' ih ih'=>
  intro x hx
  cases hx with
  |func q1 q2 q3 q4=>exact .func (by omega) (by omega) (fun j hj=>ih j (by omega) (q3 j (by omega))) fun j hj=>ih' j (by omega) (q4 j (by omega))
 |iface hv ih=>
  intro x hx
  cases hx with
  |iface hr=>exact .iface (ih hr)
 |weak hv hl ih=>intro x hx;exact hl _ _ _ (ih hx)
 |sub hi hn hc=>
  intro x hx;have hB:=r.blk _ _ hi
  cases hx with
  |sub0=>exact .list0
  |sub hb hcap hm=>
   rename_i i rr w' n e m c c' cap y;rw[hb]at hB;obtain⟨hw,h0,hcm,ca,hh,hsz,hmc,hmx,hrr⟩:=hB;subst hw;refine .list (allOf_home r hi (by simp) hb hh) ?_ hcap hm fun a j ha hj=> ?_
   ·rw[hsz,Nat.add_zero,<-Nat.add_mul];exact Nat.mul_le_mul_right _ (by omega)
   ·rw[hc a j ha hj,Nat.add_zero,<-Nat.add_assoc,<-Nat.add_mul];exact(hrr (rr+a) j (by omega) hj).mono (allOf_le _ _ _ _) (Homes.le_refl _)
 |subrow hi hr hn hc=>
  intro x hx;have hB:=r.blk _ _ hi
  cases hx with
  |sub0=>exact .list0
  |sub hb hcap hm=>
   rename_i i rr off w n e w' m c c' cap y;rw[hb]at hB;obtain⟨hw,h0,hcm,ca,hh,hsz,hmc,hmx,hrr⟩:=hB;subst hw
   have room:rr*y.w+y.w<=y.cap*y.w:=by
    have:(rr+1)*y.w<=y.cap*y.w:=Nat.mul_le_mul_right _ (by omega);rw[Nat.succ_mul]at this;exact this
   refine .list (allOf_home r hi (by simp) hb hh) (by omega) hcap hm fun a j ha hj=> ?_
   have hlt:a*w+j<n*w:=by
    have:(a+1)*w<=n*w:=Nat.mul_le_mul_right _ ha;rw[Nat.succ_mul]at this;omega
   rw[hc a j ha hj,Nat.add_assoc];exact(hrr rr (off+(a*w+j)) hr (by omega)).mono (allOf_le _ _ _ _) (Homes.le_refl _)
 |subcells hi hn hc ih=>
  intro x hx;have hB:=r.blk _ _ hi
  cases hx with
  |sub0=>exact .list0
  |sub hb hcap hm=>
   rename_i i off w n cs c' cap y;rw[hb]at hB;obtain⟨c,e,hh,hsz,hr⟩:=hB;refine .list (allOf_home r hi (by simp) hb hh) (by omega) hcap hm fun a j ha hj=> ?_
   have hlt:a*w+j<n*w:=by
    have:(a+1)*w<=n*w:=Nat.mul_le_mul_right _ ha;rw[Nat.succ_mul]at this;omega
   rw[Nat.zero_mul,Nat.zero_add];exact ih a j ha hj (hr _ (by omega))
mutual
def V.plain:V->Bool
 |.undef|.bool _|.int _ _|.str _|.nil|.nils|.nilfunc|.nilmap|.niliface=>true
 |.agg vs=>plainL vs
 |.tuple vs=>plainL vs
 |.iface _ v=>v.plain
 |.arr w n c=>(List.range n).all fun r=>(List.range w).all fun j=>(c r j).plain
 |_=>false
def plainL:List V->Bool
 |[]=>true
 |v::vs=>v.plain&&plainL vs
end
theorem plainL_getD:∀ {vs:List V} (_:plainL vs=true) (j:Nat),(vs.getD j .undef).plain=true
 |[],_,j=>by simp[V.plain]
 |v::vs,h,0=>by simp only[plainL,Bool.and_eq_true]at h;simpa using h.1
 |v::vs,h,j+1=>by
  simp only[plainL,Bool.and_eq_true]at h;simpa using plainL_getD h.2 j
theorem Rel.plain{G:Kept}{β:Homes}{v:V}{x:Value}(h:Rel G β v x):v.plain=true->∀(G':Kept) (β':Homes),Rel G' β' v x:=by
 induction h with
 |undef x=>intros;exact .undef x
 |bool b=>intros;exact .bool b
 |int k n=>intros;exact .int k n
 |str s=>intros;exact .str s
 |nil=>intros;exact .nil
 |nils=>intros;exact .nils
 |nilfunc=>intros;exact .nilfunc
 |nilmap=>intros;exact .nilmap
 |niliface=>intros;exact .niliface
 |agg hs h ih=>intro hp G' β';exact .agg hs fun j hj=>ih j hj (plainL_getD hp j) G' β'
 |tuple hs h ih=>intro hp G' β';exact .tuple hs fun j hj=>ih j hj (plainL_getD hp j) G' β'
 |iface h ih=>intro hp G' β';exact .iface (ih hp G' β')
 |arr hs h ih=>
  intro hp G' β';simp only[V.plain,List.all_eq_true,List.mem_range]at hp;exact .arr hs fun r j hr hj=>ih r j hr hj (hp r hr j hj) G' []
 |_=>intro hp;simp[V.plain]at hp
theorem RH.kept{β:Homes}{G K G':Kept}{h:List Blk}{w w':World}(r:RH β G K h w)(hG:G.le G')(hk:KeepsIn G' w')(hn:∀b o,G' b=some o->G b=some o\/w.heap.size<=b)
  (hw:∀b,b<w.heap.size->w'.heap[b]? =w.heap[b]?) (hs:w.heap.size<=w'.heap.size) (hm:Mild w w'):
  ∃K',K.le K'/\G.ext K G'/\RH β G' K' h w':=by
 have ha:K.amb.ok w':=r.amb.mild hm;have r1:=r.congr hw hs hm
 have knone:∀b,w.heap.size<=b->K b=none:=fun b hb=>by
  cases hK:K b with
  |none=>rfl
  |some o=>have:=(Array.getElem?_eq_some_iff.1 (r.keep _ _ hK)).1;omega
 refine⟨⟨fun b=>match K b with|some o=>some o|none=>G' b,K.amb⟩,⟨fun b o hb=>by simp[hb],rfl⟩,⟨hG,fun b o hb=>(hn b o hb).imp id (knone b)⟩,?_⟩;refine⟨r1.len,fun i k hk'=> ?_,r1.inj,fun i x k h1 h2 h3=> ?_,fun b o hb=> ?_,⟨fun b o hb=> ?_,hG.same.symm.trans r.gk.same⟩,ha,fun i X tr hi=> ?_⟩
 ·by_cases hg:k=.gone
  ·subst hg;cases(β[i]?.getD .void)<;>trivial
  ·exact(r1.blk i k hk').mono hG (Homes.le_refl _) fun _ _=>rfl
 ·have:=r1.sep i x k h1 h2 h3;refine⟨?_,this.2⟩;simp only[this.1];have hlt:=(r.sep i x k h1 h2 h3).2
  cases hb:G' x.b with
  |none=>rfl
  |some o=>
   rcases hn _ _ hb with q|q
   ·have:=r.gk _ _ q;rw[(r.sep i x k h1 h2 h3).1]at this;cases this
   ·omega
 ·simp only at hb
  cases hK:K b with
  |some o'=>rw[hK]at hb;cases hb;exact r1.keep _ _ hK
  |none=>rw[hK]at hb;exact hk _ _ hb
 ·cases hK:K b with
  |some o'=>
   simp only[hK];rw[<-hk _ _ hb,<-r1.keep _ _ hK]
  |none=>simp only[hK];exact hb
 ·obtain⟨l,E,h1,h2,hbs,h3⟩:=r.ext i X tr hi
  refine⟨l,E,h1,X.stable h2 (fun b o hb=>by
   have q:=X.keeps h2 b o hb
   rw[hw b (Array.getElem?_eq_some_iff.1 q).1];exact q) (fun b o hb=>by
   have q:=r.keep b o (hbs b o hb)
   rw[hw b (Array.getElem?_eq_some_iff.1 q).1];exact q) hs hm,⟨fun b o hb=>by simp only[hbs b o hb],hbs.same⟩,fun b hE=>⟨?_,(h3 b hE).2⟩⟩
  have hKb:=(h3 b hE).1;simp only[hKb];have hlt:=Ext.lt h2 hE
  cases hb:G' b with
  |none=>rfl
  |some o=>
   rcases hn _ _ hb with q|q
   ·have:=r.gk _ _ q;rw[hKb]at this;cases this
   ·omega
def fnOf:V->Option (FuncId × List V × List V)
 |.func (.func f) a b=>some (f,a,b)
 |_=>none
theorem getD_append_left{α:Type}{d:α}{l l':List α}{j:Nat}(h:j<l.length):(l++l').getD j d=l.getD j d:=by
 simp[gE,aL h]
theorem getD_append_right{α:Type}{d:α}{l l':List α}{j:Nat}(h:l.length<=j):(l++l').getD j d=l'.getD (j-l.length) d:=by
 simp[gE,List.getElem?_append_right h]
theorem agetD_append_left{d:Value}{l l':Array Value}{j:Nat}(h:j<l.size):(l++l').getD j d=l.getD j d:=by
 simp[aG,Array.getElem?_append_left h]
theorem agetD_append_right{d:Value}{l l':Array Value}{j:Nat}(h:l.size<=j):(l++l').getD j d=l'.getD (j-l.size) d:=by
 simp[aG,Array.getElem?_append_right h]
theorem rel_append{G:Kept}{β:Homes}{l l':List V}{a a':Array Value}(hl:l.length=a.size)(hl':l'.length=a'.size)(h:∀j,j<l.length->Rel G β (l.getD j .undef) (a.getD j Go.undef))
  (h':∀j,j<l'.length->Rel G β (l'.getD j .undef) (a'.getD j Go.undef)):∀j,j<(l++l').length->Rel G β ((l++l').getD j .undef) ((a++a').getD j Go.undef):=fun j hj=>by
 rcases Nat.lt_or_ge j l.length with hlt|hge
 ·rw[getD_append_left hlt,agetD_append_left (by omega)];exact h j hlt
 ·rw[getD_append_right hge,agetD_append_right (by omega),hl];simp at hj;rw[<-hl];exact h' _ (by omega)
def callArgs(S:St)(first caps:List V)(args:Array Operand):List V:=first++args.toList.map S.eval++caps
section
variable {P:Program} {ro:Env} {ops:Array Oper} {S:St} {Q:Exit->St->Prop}
theorem AOps.call_snap{i:Nat}{is:List Nat}{o:Oper}{fo:Operand}{args:Array Operand}{ts:Array TypeId}{g:FuncId}{first caps us:List V}{post:V->Prop}(hi:ops[i]? =some o)(hw:wantedV ops S o=some true)
  (ho:o.op=.call {callee:=.value fo,args:=args,argTypes:=ts}) (hf:fnOf (S.eval fo)=some (g,first,caps)) (hl:(callArgs S first caps args).length=us.length)
  (hs:∀j,j<us.length->Snap S.h ((callArgs S first caps args).getD j .undef) (us.getD j .undef)) (hc:PCalls P g us post)
  (hp:us=callArgs S first caps args/\underL 0 us=true\/∀v,post v->v.plain=true)
  (rest:∀v,post v->AOps P ro ops is (S.put o.dst v) Q):AOps P ro ops (i::is) S Q:=fun β G K a w r=>by
 simp only[wpOpsIn,hi,wanted_ok r hw,if_true,Oper.wpIn];refine⟨fun _ _=>trivial,?_⟩;have hfv:=r.eval fo
 obtain⟨f',c',hfe,hfl,hcl,hff,hcc⟩:∃f' c',a.eval fo=.func (.func g) f' c'/\first.length=f'.size/\caps.length=c'.size/\(∀j,j<first.length->Rel G β (first.getD j .undef) (f'.getD j Go.undef))/\(∀j,j<caps.length->Rel G β (caps.getD j .undef) (c'.getD j Go.undef)):=by
  unfold fnOf at hf;split at hf
  ·rename_i f a1 b1 he;cases hf;rw[he]at hfv;generalize a.eval fo=x at hfv
   cases hfv with
   |func h1 h2 h3 h4=>exact⟨_,_,rfl,h1,h2,h3,h4⟩
  ·cases hf
 have hsem:(o.semAt ro.ro a.eval).run P w=.ok (.enter g (f'++args.map a.eval++c')) w:=by
  rw[Oper.semAt_eq _ _ _ (by rw[ho];simp)];simp only[execOp,ho,resolve,hfe,Deferred.ofValue,Sem.run_bind,Sem.run_pure,Result.andThen_ok,invoke,hc.1]
 rw[hsem];refine⟨fun h=>by simp[wide,Fence.wide]at h,?_⟩
 have hrel:∀j,j<(callArgs S first caps args).length->Rel G β ((callArgs S first caps args).getD j .undef) ((f'++args.map a.eval++c').getD j Go.undef):=by
  refine rel_append (by simp[hfl]) hcl (rel_append hfl (by simp) hff fun j hj=> ?_) hcc;have hj':j<args.size:=by simpa using hj
  simpa[gE,aG,hj']using r.eval args[j]
 have hlen:us.length=(f'++args.map a.eval++c').size:=by rw[<-hl];simp[callArgs,hfl,hcl]
 rcases hp with⟨rfl,himm⟩|hplain
 ·have hcalls:=hc.tight G w (f'++args.map a.eval++c') r.h.keeps hlen (fun j hj=>(hrel j hj).imm (underL_getD himm j));refine(callsIn_wide (n:=0-1)).2 (hcalls.mono ?_);rintro e w' ⟨⟨v,x,G',rfl,h2,h3,h4,h5,h6,h7,h8⟩,hmild⟩
  obtain⟨K',hK,hG,hr⟩:=r.h.kept h2 h3 h4 h5 h6 hmild
  have r1:RS β G' K' S a w':=⟨hr,r.size,fun j=>(r.tmp j).mono h2 (Homes.le_refl _),r.marks,r.mark⟩
  have:=rest v h8 β G' K' _ w' (r1.put (h7.up β) o.dst);exact mono_ops (fun e a w hp=>hp.up (Homes.low_refl _ _) hG hK) this
 ·have hcalls:=hc.tight (allOf β G S.h w) w (f'++args.map a.eval++c') (allOf_keeps r.h) hlen (fun j hj=>snap_rel r.h (hs j hj) (hrel j (by rw[hl];exact hj)));refine(callsIn_wide (n:=0-1)).2 (hcalls.mono ?_);rintro e w' ⟨⟨v,x,G',rfl,h2,h3,h4,h5,h6,h7,h8⟩,hmild⟩
  have r1:RS β G K S a w':=⟨r.h.congr h5 h6 hmild,r.size,r.tmp,r.marks,r.mark⟩
  exact rest v h8 β G K _ w' (r1.put (h7.plain (hplain v h8) G β) o.dst)
end
theorem Mild.putObj(w:World)(b:Nat)(o:Obj):Mild w (w.putObj b o):=⟨rfl,rfl,rfl,Nat.le_refl _⟩
def resV(P:Program)(S:St):ResultVar->Option V
 |.tmp t=>some (S.t.getD t .undef)
 |.cell a t=>
  if hasT P t=true then
   match loadA P S.h t (S.t.getD a .undef)with
   |some v=>some v
   |none=>
    match loadV P S.h t (S.t.getD a .undef)with
    |some (true,v)=>some v
    |_=>none
  else none
def resVs(P:Program)(S:St):List ResultVar->Option (List V)
 |[]=>some []
 |r::rs=>
  match resV P S r,resVs P S rs with
  |some v,some vs=>some (v::vs)
  |_,_=>none
def resultV(P:Program)(fn:Func)(S:St):Option V:=
 match resVs P S fn.results.toList with
 |some [v]=>some v
 |some vs=>some (.tuple vs)
 |none=>none
def resS(tm:Array Value):ResultVar->Sem Value
 |.tmp t=>pure (tm.getD t Go.undef)
 |.cell a t=>do loadVar t (<-asAddr (tm.getD a Go.undef))
theorem resVs_ok{P:Program}{β:Homes}{G K:Kept}{S:St}{tm:Array Value}{w:World}(r:RH β G K S.h w)(ht:∀j,Rel G β (S.t.getD j .undef) (tm.getD j Go.undef)):
  ∀(rs:List ResultVar) (vs:List V),resVs P S rs=some vs->∃xs:List Value,Sem.run P (rs.mapM (resS tm)) w=.ok xs w/\xs.length=vs.length/\
   ∀j,Rel G β (vs.getD j .undef) (xs.getD j Go.undef):=by
 intro rs
 induction rs with
 |nil=>intro vs h;simp only[resVs,sJ]at h;subst h;exact⟨[],by simp,rfl,fun j=>by simp;exact .undef _⟩
 |cons x rs ih=>
  intro vs h;simp only[resVs]at h;split at h
  ·rename_i v us hv hus;cases h;obtain⟨xs,h1,h2,h3⟩:=ih us hus
   have hx:∃y,Sem.run P (resS tm x) w=.ok y w/\Rel G β v y:=by
    cases x with
    |tmp t=>simp only[resV,sJ]at hv;subst hv;exact⟨_,rfl,ht t⟩
    |cell a t=>
     simp only[resV]at hv;split at hv
     ·rename_i hT;split at hv
      ·rename_i u hl;cases hv;obtain⟨y,q1,q2⟩:=loadA_ok r hT (ht a) hl;refine⟨y,?_,q2⟩;have hra:=ht a;generalize hva:S.t.getD a .undef=va at hl hra
       generalize hxa:tm.getD a Go.undef=xa at hra q1
       cases hra with
       |ref _=>simpa only[Instr.loadAt,Instr.sureAddr,asAddr,hxa,resS]using q1
       |_=>unfold loadA at hl;split at hl<;>simp at hl
      split at hv
      ·rename_i u hl;cases hv;obtain⟨y,q1,q2⟩:=load_ok r hT (ht a) hl;refine⟨y,?_,q2⟩;have hra:=ht a;generalize hva:S.t.getD a .undef=va at hl hra
       generalize hxa:tm.getD a Go.undef=xa at hra q1
       cases hra with
       |cref _ _ _=>simpa only[Instr.loadAt,Instr.sureAddr,asAddr,hxa,resS]using q1
       |ref _=>simpa only[Instr.loadAt,Instr.sureAddr,asAddr,hxa,resS]using q1
       |_=>simp[loadV]at hl
      ·cases hv
     ·cases hv
   obtain⟨y,q1,q2⟩:=hx;refine⟨y::xs,?_,by simp[h2],fun j=> ?_⟩
   ·rw[List.mapM_cons,Sem.run_bind,q1,Result.andThen_ok,Sem.run_bind,h1,Result.andThen_ok,Sem.run_pure]
   ·cases j with
    |zero=>simpa using q2
    |succ j=>simpa using h3 j
  ·cases h
theorem resultV_ok{P:Program}{β:Homes}{G K:Kept}{S:St}{tm:Array Value}{w:World}(r:RH β G K S.h w)(ht:∀j,Rel G β (S.t.getD j .undef) (tm.getD j Go.undef)){fn:Func}{v:V}(h:resultV P fn S=some v):
  ∃x,(results fn tm).run P w=.ok x w/\Rel G β v x:=by
 unfold resultV at h
 have conv:∀xs:List Value,Sem.run P (fn.results.toList.mapM (resS tm)) w=.ok xs w->
   (results fn tm).run P w=.ok (if h:xs.toArray.size=1 then xs.toArray[0]else .tuple xs.toArray) w:=fun xs hx=>by
  have hres:results fn tm=(do let vs<-fn.results.mapM (resS tm);pure (if h:vs.size=1 then vs[0]else .tuple vs)):=by
   unfold results;congr 1
  rw[hres,Array.mapM_eq_mapM_toList];simp only[Sem.run_bind,Sem.run_map,hx,Result.andThen_ok,Sem.run_pure]
 split at h
 ·rename_i u hu;cases h;obtain⟨xs,h1,h2,h3⟩:=resVs_ok r ht _ _ hu
  match xs,h2 with
  |[x],_=>exact⟨x,by rw[conv _ h1];simp,by simpa using h3 0⟩
 ·rename_i us hus hne;cases h;obtain⟨xs,h1,h2,h3⟩:=resVs_ok r ht _ _ hne;refine⟨.tuple xs.toArray,?_,.tuple (by simp[h2]) fun j _=>by simpa[gE,aG]using h3 j⟩;rw[conv _ h1,dif_neg];simp only[List.size_toArray];intro hl
  match us,h2,hus with
  |[u],_,hus=>exact hus u rfl
  |[],h2,_=>rw[hl]at h2;cases h2
  |_::_::_,h2,_=>rw[hl]at h2;simp at h2
 ·cases h
def shut:List Nat->List Blk->List Blk
 |[],h=>h
 |j::js,h=>shut js (h.set j (.obj (.deferred none)))
def bodyQ(P:Program)(fn:Func)(post:V->Prop)(e:Exit)(S:St):Prop:=
 (e=.normal\/e=.ret)/\S.d.Nodup/\∃v u,resultV P fn {S with h:=shut S.d S.h}=some v/\Snap (shut S.d S.h) v u/\post u
theorem take_marks{P:Program}{fn:Func}{R:Ending->World->Prop}:∀(d:List Nat) (ds:List Deferred) (β:Homes) (G K:Kept) (h:List Blk) (tm:Array Value) (w:World),RH β G K h w->ds.length=d.length->d.Nodup->
  (∀j,j<d.length->∃x:Home,β[d.getD j 0]? =some (.lie x)/\ds[j]? =some {target:=.collected x.b,args:= #[]}/\h[d.getD j 0]? =some (.obj (.deferred (some []))))->
  (∀w',RH β G K (shut d h) w'->∃v,(results fn tm).run P w'=.ok v w'/\R (.returned v) w')->LeavesInM (wide ⟨none,0⟩) 0 P fn tm R ds .returning w:=by
 intro d
 induction d with
 |nil=>
  intro ds β G K h tm w r hl _ _ hR;have:ds=[]:=List.eq_nil_of_length_eq_zero hl;subst this;exact hR w r
 |cons j d ih=>
  intro ds β G K h tm w r hl hnd hm hR;obtain⟨x,h1,h2,h3⟩:=hm 0 (by simp);simp at h1 h3
  cases ds with
  |nil=>simp at hl
  |cons dd ds=>
   simp at h2;subst h2;have hB:=r.blk j _ h3;rw[h1]at hB;have hh:w.heap[x.b]? =some (.deferred (some [])):=hB;refine⟨by simp,.inl ⟨x.b,w.putObj x.b (.deferred none),rfl,run_takeDeferred hh,?_⟩⟩;have hlt:=(Array.getElem?_eq_some_iff.1 hh).1
   have r1:RH β G K (h.set j (.obj (.deferred none))) (w.putObj x.b (.deferred none)):=
    r.write h3 (by simp) h1 (fun b hb=>World.putObj_heap_other hb) (by simp) (World.putObj_heap_same hlt) (Mild.putObj _ _ _)
   refine ih ds β G K _ tm _ r1 (by simpa using hl) (List.nodup_cons.1 hnd).2 (fun i hi=> ?_) hR;obtain⟨y,q1,q2,q3⟩:=hm (i+1) (by simpa using hi);simp at q1 q2 q3;refine⟨y,by simpa using q1,q2,?_⟩;rw[sN]
   ·simpa using q3
   ·intro e;apply(List.nodup_cons.1 hnd).1;have hi':i<d.length:=hi;rw[e,gE,List.getElem?_eq_getElem hi'];exact List.getElem_mem hi'
theorem PCalls.of_body{P:Program}{f:FuncId}{fn:Func}{c:Code}{args:List V}{post:V->Prop}(hf:P.funcs[f]? =some fn)(hb:fn.body=some c)(hn:(fn.name== "runtime.NumGoroutine")=false)
  (h:AWP P ⟨none,0⟩ c {t:=args++List.replicate (fn.ntmps-args.length) .undef,h:=[],d:=[]} (bodyQ P fn post)):PCalls P f args post:=by
 have hn':¬fn.name= "runtime.NumGoroutine" :=by simpa using hn
 refine⟨fun xs w=>by simp[callFunc,hf,hn',hb],fun G w xs hk hl hr=> ?_⟩
 have hcalls:CallsIn Fence.wide 0 P f xs w fun e w'=>∃v x G',e=.returned x/\G.le G'/\KeepsIn G' w'/\(∀b o,G' b=some o->G b=some o\/w.heap.size<=b)/\
   (∀b,b<w.heap.size->w'.heap[b]? =w.heap[b]?)/\w.heap.size<=w'.heap.size/\Rel G' [] v x/\post v:=by
  refine callsIn_of_wp_marks hf hb trivial ?_
  have r:RS [] G ⟨fun b=>w.heap[b]?,G.amb⟩ {t:=args++List.replicate (fn.ntmps-args.length) .undef,h:=[],d:=[]} {tmps:=xs++Array.replicate (fn.ntmps-xs.size) Go.undef,defers:=[]} w:=by
   refine⟨⟨rfl,by simp,by simp,by simp,fun b o h=>h,⟨hk.at_,rfl⟩,hk.amb,by simp⟩,by simp[hl],fun j=> ?_,rfl,by simp⟩;rcases Nat.lt_or_ge j args.length with h1|h1
   ·rw[getD_append_left h1,agetD_append_left (by omega)];exact hr j h1
   ·rw[getD_append_right h1,agetD_append_right (by omega)]
    have:(List.replicate (fn.ntmps-args.length) V.undef).getD (j-args.length) .undef=.undef:=by
     rw[gE,List.getElem?_replicate];split<;>rfl
    rw[this];exact .undef _
  refine wpIn_mono (h [] G _ _ w r) fun e a' w' hp=> ?_;obtain⟨S,β,G',K',-,hG,hK,r',he,hnd,v,u,hv,hs,hpost⟩:=hp
  have leaves:LeavesInM (wide ⟨none,0⟩) 0 P fn a'.tmps (fun e w'=>∃v x G',e=.returned x/\G.le G'/\KeepsIn G' w'/\(∀b o,G' b=some o->G b=some o\/w.heap.size<=b)/\
   (∀b,b<w.heap.size->w'.heap[b]? =w.heap[b]?)/\w.heap.size<=w'.heap.size/\Rel G' [] v x/\post v) a'.defers .returning w':=by
   refine take_marks S.d a'.defers β G' K' S.h a'.tmps w' r'.h r'.marks hnd r'.mark fun w2 r2=> ?_;obtain⟨x,hx,hrx⟩:=resultV_ok (S:={S with h:=shut S.d S.h}) r2 r'.tmp hv;refine⟨x,hx,u,x,allOf β G' (shut S.d S.h) w2,rfl,hG.1.trans (allOf_le _ _ _ _),allOf_keeps r2,fun b o hb=> ?_,fun b hb=> ?_,?_,snap_rel r2 hs hrx,hpost⟩
   ·have fresh:K' b=none->w.heap.size<=b:=fun hkb=>by
     rcases Nat.lt_or_ge b w.heap.size with q|q
     ·have:=hK b w.heap[b] (Array.getElem?_eq_getElem q);rw[hkb]at this;cases this
     ·exact q
    rcases allOf_new r2 b o hb with q|q
    ·rcases hG.2 b o q with q'|q'
     ·exact .inl q'
     ·right
      rcases Nat.lt_or_ge b w.heap.size with z|z
      ·simp[Array.getElem?_eq_getElem z]at q'
      ·exact z
    ·exact .inr (fresh q)
   ·have:=r2.keep b w.heap[b] (hK b _ (Array.getElem?_eq_getElem hb));rw[this,Array.getElem?_eq_getElem hb]
   ·rcases Nat.lt_or_ge w2.heap.size w.heap.size with z|z
    ·have hz:w2.heap.size<w.heap.size:=z;have:=r2.keep _ _ (hK w2.heap.size w.heap[w2.heap.size] (Array.getElem?_eq_getElem hz));simp at this
    ·exact z
  rcases he with rfl|rfl
  ·exact leaves
  ·exact leaves
 exact callsIn_wide.1 hcalls
end Ab
