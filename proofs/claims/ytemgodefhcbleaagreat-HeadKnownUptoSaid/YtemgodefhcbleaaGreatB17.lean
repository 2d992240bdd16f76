/-
  Part of the proof of the Head laws. Conditions: those that stand in each theorem.
-/
import Derived.Test.YtemgodefhcbleaaGreatRows
import Derived.ChangeArms
import Derived.ChangeSame
import Derived.WideKeyArgs
import Derived.WalkKit
import Derived.ProofKit
import Derived.OpenShut
import Derived.JoinedCond
import Derived.Test.YtemgodefhcbleaaGreatB16
set_option linter.unusedSimpArgs false
set_option linter.unusedVariables false
set_option maxRecDepth 100000
namespace Go.Proofs.YtemgodefhcbleaaGreat
open Ab Go.ChangeShapes Go.WideShapes Go.RowKit
def GW(W:World):Kept:=⟨fun b=>W.heap[b]?,ambOf W⟩
theorem bulk_one{H:Type}(d:DataW H):1≤Rows.uptoBulk d:=by
 cases d with
 |lit l=>cases l<;>simp[Rows.uptoBulk]
 |nil=>simp[Rows.uptoBulk]
 |ptr d=>simp[Rows.uptoBulk]
 |slice elems spare=>simp[Rows.uptoBulk]
 |agg parts=>simp[Rows.uptoBulk]
 |iface t d=>simp[Rows.uptoBulk]
 |map entries=>simp[Rows.uptoBulk]
 |held h=>simp[Rows.uptoBulk]
theorem bulk_part{H:Type}{d:DataW H}{l:List (DataW H)}(h:d∈l):Rows.uptoBulk d≤Rows.uptoBulkAll l:=by
 induction l with
 |nil=>cases h
 |cons x r ih=>
  simp only[Rows.uptoBulkAll]
  cases List.mem_cons.1 h with
  |inl e=>subst e;omega
  |inr e=>have:=ih e;omega
theorem bulk_length{H:Type}(l:List (DataW H)):l.length≤Rows.uptoBulkAll l:=by
 induction l with
 |nil=>simp[Rows.uptoBulkAll]
 |cons x r ih=>have:=bulk_one x;simp only[Rows.uptoBulkAll,List.length_cons];omega
def Opens(P:Program)(W:World)(C:List V→Prop)(t:TypeId):Prop:=
 ∀(H:Type) (enc:TypeId × Value→H) (n:Nat) (cs:List Value) (x:DataW H × List MemPlace),DataW.trod enc P W 0 (fun _=>true) true n t cs=some x→Rows.uptoBulk x.1≤1048576→
  ∃vs,C vs∧vs.length=cs.length∧∀j,j<vs.length→Rel (GW W) [] (vs.getD j .undef) (cs.getD j Go.undef)
section
variable {P:Program} {W:World} {t e:TypeId}
theorem Opens.mono{C C':List V→Prop}(h:Opens P W C t)(hC:∀vs,C vs→C' vs):Opens P W C' t:=fun H enc n cs x hx hb=>by
 obtain⟨vs,h1,h2,h3⟩:=h H enc n cs x hx hb
 exact⟨vs,hC vs h1,h2,h3⟩
theorem Opens.int{k:IntKind}(ht:P.underlying t=some (.int k)):Opens P W (fun vs=>∃n,vs=[.int k n]) t:=fun H enc n cs x h _=>by
 obtain⟨m,rfl,-,-⟩:=DataW.trod_int ht h
 refine⟨[.int k m],⟨m,rfl⟩,rfl,fun j hj=> ?_⟩
 obtain rfl:j=0:=by simpa using hj
 exact .int k m
theorem Opens.str(ht:P.underlying t=some .string):Opens P W (fun vs=>∃s,vs=[.str s]) t:=fun H enc n cs x h _=>by
 obtain⟨s,rfl,-,-⟩:=DataW.trod_string ht h
 refine⟨[.str s],⟨s,rfl⟩,rfl,fun j hj=> ?_⟩
 obtain rfl:j=0:=by simpa using hj
 exact .str s
theorem Opens.sliceP{τ:Type}{E:Ty τ}{p:τ→Prop}(ht:P.underlying t=some (.slice e))(he:Opens P W (fun vs=>∃x,p x∧vs=E.cells x) e)(hw:P.cellsOf e=E.w)(h0:0<E.w)(hl:∀x,(E.cells x).length=E.w):
  Opens P W (fun vs=>∃l,l.length≤1048576∧(∀x∈l,p x)∧vs=[.list E.w l.length (rowsOf E l)]) t:=fun H enc n cs x h hb=>by
 rcases DataW.trod_slice ht h with⟨rfl,-⟩|⟨a,len,cap,elems,rest,m,-,rfl,rfl,-,hlc,hcm,hel,hget,-,-⟩
 ·refine⟨[.list E.w 0 (rowsOf E [])],⟨[],Nat.zero_le _,fun x hx=>absurd hx List.not_mem_nil,rfl⟩,rfl,fun j hj=> ?_⟩
  obtain rfl:j=0:=by simpa using hj
  exact .list0
 ·simp only[Rows.uptoBulk]at hb
  have hlen:len≤1048576:=by
   have:=bulk_length (elems.map (·.1))
   rw[List.length_map]at this;omega
  have hstep:∀i,i<len→∃x:τ,p x∧∃cs',W.cells? 0 (a.add (i*E.w)) E.w=some cs'∧∀j,j<E.w→Rel (GW W) [] ((E.cells x).getD j .undef) (cs'.getD j Go.undef):=fun i hi=>by
   have h1:=hget i hi
   have hy:elems[i]? =some elems[i]:=List.getElem?_eq_getElem (by omega)
   rw[hy,Option.bind_eq_some_iff]at h1
   obtain⟨cs',h3,h4⟩:=h1
   have hm:(elems[i]).1∈elems.map (·.1):=List.mem_map.2 ⟨_,List.getElem_mem _,rfl⟩
   obtain⟨vs,⟨x,px,rfl⟩,h5,h6⟩:=he H enc m cs' _ h4 (by have:=bulk_part hm;omega)
   rw[hw]at h3
   exact⟨x,px,cs',h3,fun j hj=>h6 j (by rw[hl];exact hj)⟩
  obtain⟨f,hf⟩:∃f:Fin len→τ,∀i:Fin len,p (f i)∧∃cs',W.cells? 0 (a.add (i.1*E.w)) E.w=some cs'∧∀j,j<E.w→Rel (GW W) [] ((E.cells (f i)).getD j .undef) (cs'.getD j Go.undef):=
   ⟨fun i=>(hstep i.1 i.2).choose,fun i=>(hstep i.1 i.2).choose_spec⟩
  refine⟨[.list E.w (List.ofFn f).length (rowsOf E (List.ofFn f))],⟨_,by rw[List.length_ofFn];exact hlen,fun x hx=>by
   obtain⟨i,rfl⟩:=List.mem_ofFn.1 hx
   exact(hf i).1,rfl⟩,rfl,fun j hj=> ?_⟩
  obtain rfl:j=0:=by simpa using hj
  show Rel _ _ (.list E.w (List.ofFn f).length (rowsOf E (List.ofFn f))) (.slice (some a) len cap)
  rw[List.length_ofFn]
  rcases Nat.eq_zero_or_pos len with rfl|hpos
  ·exact .list0
  ·obtain⟨b,off,spot⟩:=a
   have cell:∀i j,(hi:i<len)→j<E.w→∃u,W.cell? (((Addr.mk b off spot).add (i*E.w)).add j)=some u∧Rel (GW W) [] ((E.cells (f ⟨i,hi⟩)).getD j .undef) u:=fun i j hi hj=>by
    obtain⟨-,cs',h1,h2⟩:=hf ⟨i,hi⟩
    obtain⟨-,h3,h4⟩:=World.cells?_some h1
    have h5:=h4 j hj
    have hjl:j<cs'.length:=by rw[h3];exact hj
    rw[List.getElem?_eq_getElem hjl]at h5
    refine⟨cs'[j],h5,?_⟩
    have:=h2 j hj
    rwa[List.getD_eq_getElem?_getD (l:=cs'),List.getElem?_eq_getElem hjl]at this
   have hspot:spot=none:=by
    obtain⟨u,h1,-⟩:=cell 0 0 hpos h0
    cases spot with
    |none=>rfl
    |some s=>
     exfalso
     rw[Nat.zero_mul]at h1
     simp only[Addr.add,if_true]at h1
     unfold World.cell? at h1
     split at h1
     ·simp at h1
     ·cases h1
   subst hspot
   obtain⟨c,e',fz,hblk⟩:∃c e' fz,W.heap[b]? =some (.cells c e' fz):=by
    obtain⟨u,h1,-⟩:=cell 0 0 hpos h0
    rw[addr_add,addr_add]at h1
    unfold World.cell? at h1
    split at h1
    ·rename_i c e' fz hh;exact⟨c,e',fz,hh⟩
    ·cases h1
   have look:∀k l,W.cell? (((Addr.mk b off none).add k).add l)=c[off+(k+l)]? :=fun k l=>by rw[addr_add,addr_add,Nat.add_assoc];simp only[World.cell?,hblk];simp
   refine .list (G:=GW W) (cs:=c) (e:=e') (fz:=fz) hblk ?_ hlc (by unfold maxn;omega) fun i j hi hj=> ?_
   ·obtain⟨u,h1,-⟩:=cell (len-1) (E.w-1) (by omega) (by omega)
    rw[look]at h1
    have:=(Array.getElem?_eq_some_iff.1 h1).1
    have e1:len*E.w=(len-1)*E.w+E.w:=by rw[←Nat.succ_mul];congr 1;omega
    omega
   ·obtain⟨u,h1,h2⟩:=cell i j hi hj
    rw[look]at h1
    rw[Array.getD_eq_getD_getElem?,h1]
    show Rel _ _ ((E.cells ((List.ofFn f).getD i E.zero)).getD j .undef) u
    rw[List.getD_eq_getElem?_getD (l:=List.ofFn f),List.getElem?_ofFn,dif_pos hi]
    exact h2
theorem Opens.slice{τ:Type}{E:Ty τ}(ht:P.underlying t=some (.slice e))(he:Opens P W (fun vs=>∃x,vs=E.cells x) e)(hw:P.cellsOf e=E.w)(h0:0<E.w)(hl:∀x,(E.cells x).length=E.w):
  Opens P W (fun vs=>∃l,vs=[.list E.w l.length (rowsOf E l)]) t:=
 (Opens.sliceP (p:=fun _=>True) ht (he.mono fun _ ⟨x,h⟩=>⟨x,trivial,h⟩) hw h0 hl).mono fun _ ⟨l,_,_,h⟩=>⟨l,h⟩
def Parts:List (List V→Prop)→List V→Prop
 |[],vs=>vs=[]
 |C::Cs,vs=>∃a b,vs=a++b∧C a∧Parts Cs b
def OpensL(P:Program)(W:World):List (List V→Prop)→List Field→Prop
 |[],[]=>True
 |C::Cs,f::fs=>Opens P W C f.type∧OpensL P W Cs fs
 |_,_=>False
def laid(P:Program)(tot:Nat):Nat→List Field→Bool
 |o,[]=>o==tot
 |o,f::fs=>f.offset==o&&decide (o+P.cellsOf f.type≤tot)&&laid P tot (o+P.cellsOf f.type) fs
theorem parts_ok{H:Type}{enc:TypeId × Value→H}{n:Nat}{cs:List Value}:∀(Cs:List (List V→Prop)) (fl:List Field) (o:Nat) (ys:List (DataW H × List MemPlace)),OpensL P W Cs fl→laid P cs.length o fl=true→ys.length=fl.length→
  (∀(i:Nat) (f:Field),fl[i]? =some f→DataW.trod enc P W 0 (fun _=>true) true n f.type ((cs.drop f.offset).take (P.cellsOf f.type))=ys[i]?)→Rows.uptoBulkAll (ys.map (·.1))≤1048576→
  ∃vs,Parts Cs vs∧vs.length=cs.length-o∧∀j,j<vs.length→Rel (GW W) [] (vs.getD j .undef) (cs.getD (o+j) Go.undef)
 |[],[],o,ys,_,hlay,_,_,_=>by
  simp only[laid,beq_iff_eq]at hlay
  exact⟨[],rfl,by simp[hlay],fun j hj=>absurd hj (Nat.not_lt_zero _)⟩
 |[],f::fl,_,_,h,_,_,_,_=>h.elim
 |C::Cs,[],_,_,h,_,_,_,_=>h.elim
 |C::Cs,f::fl,o,[],_,_,hl,_,_=>by simp at hl
 |C::Cs,f::fl,o,y::ys,h,hlay,hl,hget,hb=>by
  simp only[laid,Bool.and_eq_true,beq_iff_eq,decide_eq_true_eq]at hlay
  obtain⟨⟨ho,hle⟩,hrest⟩:=hlay
  simp only[List.map_cons,Rows.uptoBulkAll]at hb
  have h1:=hget 0 f rfl
  simp only[List.getElem?_cons_zero]at h1
  obtain⟨a,ha,la,ra⟩:=h.1 H enc n _ _ h1 (by omega)
  obtain⟨b,hb1,lb,rb⟩:=parts_ok Cs fl (o+P.cellsOf f.type) ys h.2 hrest (by simpa using hl) (fun i g hi=>by simpa using hget (i+1) g (by simpa using hi)) (by omega)
  have la':a.length=P.cellsOf f.type:=by rw[la,List.length_take,List.length_drop,ho];omega
  refine⟨a++b,⟨a,b,rfl,ha,hb1⟩,by rw[List.length_append,la',lb];omega,fun j hj=> ?_⟩
  rcases Nat.lt_or_ge j a.length with q|q
  ·rw[getD_append_left q]
   have:=ra j q
   rw[List.getD_eq_getElem?_getD (l:=List.take _ _),List.getElem?_take_of_lt (by omega),List.getElem?_drop,ho,←List.getD_eq_getElem?_getD]at this
   exact this
  ·rw[getD_append_right q]
   have:=rb (j-a.length) (by rw[List.length_append]at hj;omega)
   rw[la']at this⊢
   rw[show o+P.cellsOf f.type+(j-P.cellsOf f.type)=o+j by omega]at this
   exact this
theorem Opens.struct{fs:Array Field}(ht:P.underlying t=some (.struct fs))(Cs:List (List V→Prop))(ho:OpensL P W Cs fs.toList)(hlay:laid P (P.cellsOf t) 0 fs.toList=true):Opens P W (Parts Cs) t:=fun H enc n cs x h hb=>by
 obtain⟨xs,m,-,rfl,hl,hlen,hf⟩:=DataW.trod_struct ht h
 simp only[Rows.uptoBulk]at hb
 obtain⟨vs,h1,h2,h3⟩:=parts_ok (enc:=enc) (n:=m) Cs fs.toList 0 xs ho (by rw[hl];exact hlay) (by simpa using hlen) (fun i f hi=>hf i f (by simpa using hi)) (by omega)
 exact⟨vs,h1,by simpa using h2,fun j hj=>by simpa using h3 j hj⟩
theorem val_struct{H:Type}{enc:TypeId × Value→H}{fs:Array Field}{base:Nat}{v:Value}{d:DataW H}{ps:List MemPlace}{C:List V→Prop}(ht:P.underlying t=some (.struct fs))(hok:Value.okWide P W .any base t v)
  (h:DataW.Trod enc P W 0 (fun _=>true) true t v d ps) (ho:Opens P W C t) (hb:Rows.uptoBulk d≤1048576):∃vs,C vs∧Rel (GW W) [] (.agg vs) v:=by
 simp only[Value.okWide,ht]at hok
 obtain⟨cs,rfl,-,-⟩:=hok
 obtain⟨n,hn⟩:=h
 obtain⟨vs,h1,h2,h3⟩:=ho H enc n _ _ hn hb
 have h2':vs.length=cs.size:=by simpa[Value.cells]using h2
 refine⟨vs,h1,.agg h2' fun j hj=> ?_⟩
 have:=h3 j hj
 simpa[Value.cells,List.getD_eq_getElem?_getD,Array.getD_eq_getD_getElem?]using this
theorem val_slice{H:Type}{enc:TypeId × Value→H}{base:Nat}{v:Value}{d:DataW H}{ps:List MemPlace}{τ:Type}{E:Ty τ}(ht:P.underlying t=some (.slice e))(hok:Value.okWide P W .any base t v)
  (h:DataW.Trod enc P W 0 (fun _=>true) true t v d ps) (ho:Opens P W (fun vs=>∃l,vs=[.list E.w l.length (rowsOf E l)]) t) (hb:Rows.uptoBulk d≤1048576):∃l,Rel (GW W) [] (.list E.w l.length (rowsOf E l)) v:=by
 have hv:v.cells.toList=[v]:=by
  simp only[Value.okWide,ht,Cell.okWide,Cell.ok]at hok
  cases v<;>first|rfl|simp at hok
 obtain⟨n,hn⟩:=h
 rw[hv]at hn
 obtain⟨vs,⟨l,rfl⟩,-,h3⟩:=ho H enc n _ _ hn hb
 exact⟨l,by simpa using h3 0 (by simp)⟩
theorem post_same{H:Type}{enc:TypeId × Value→H}{f:Func}{s:ChangeSpec}{apart fresh handsOn again:Bool}{W W':World}{args:Array Value}{v:Value}{ds gs:List (DataW H)}{before pa pv:List MemPlace}
  (hW:DataW.Whole enc P f.params.toList s.vars apart W args.toList ds gs before)
  (hres:∀(b:Nat) (sp:Nat→Bool) (hd:Bool),DataW.TrodAll enc P W' b sp hd f.resultTypes.toList (v.resultList f.resultTypes.size) (s.fn H (ds++gs)).results [])
  (hargs:∀sp:Nat→Bool,(∀p∈before,sp p.block=true)→DataW.TrodAll enc P W' 0 sp true f.params.toList args.toList (s.fn H (ds++gs)).args pa)
  (hvars:∀sp:Nat→Bool,(∀p∈before,sp p.block=true)→DataW.TrodVars enc P W' sp s.vars (s.fn H (ds++gs)).vars pv)
  (hps:before=pa++pv) (hk:W.keptBut W' (·∈before)) (hfz:∀a:Addr,a.block<W.heap.size→W'.frozen? a=W.frozen? a)
  (hok:∀(j:Nat) (t:TypeId) (r:Value),f.resultTypes[j]? =some t→(v.resultList f.resultTypes.size)[j]? =some r→Value.okWide P W' .any 0 t r):
  s.post enc P f apart fresh handsOn again W args v W':=by
 have hold:∀p∈before,(fun b=>decide (b<W.heap.size)) p.block=true:=fun p hp=>by simpa using hW.lt p hp
 refine⟨ds,gs,before,[],pa,pv,hW,hres _ _ _,hargs _ hold,hvars _ hold,World.keptBut_mono (fun p hp=>⟨hp,?_⟩) hk,fun _=> ?_⟩
 ·rw[hps,List.mem_append]at hp
  exact Or.inr hp
 ·have hlt:=hW.lt
  obtain⟨_,_,_,_,_,hz,hn⟩:=hW
  refine⟨hok,_,_,([]++pa)++pv,⟨[]++pa,pv,trodAll_append (hargs _ (fun _ _=>rfl)) (hres _ _ _),hvars _ (fun _ _=>rfl),rfl,?_,?_⟩,?_⟩
  ·intro b off hp
   have hp':MemPlace.cell b off∈before:=by rw[hps];simpa using hp
   rw[hfz _ (hlt _ hp')]
   exact hz b off hp'
  ·intro ha
   have:=hn ha
   rw[hps]at this
   simpa using this
  ·intro p hp _
   rw[hps]
   simpa using hp
theorem trods_stay{H:Type}{enc:TypeId × Value→H}{W':World}{sp:Nat→Bool}(hl:laidOutB P=true):∀ {ts:List TypeId} {vs:List Value} {ds:List (DataW H)} {ps:List MemPlace},(∀t∈ts,P.readableRec t=true∧t<P.types.size)→
  DataW.TrodAll enc P W 0 (fun _=>true) true ts vs ds ps→(∀p∈ps,W.sameAt W' p)→(∀p∈ps,sp p.block=true)→DataW.TrodAll enc P W' 0 sp true ts vs ds ps
 |[],_,_,_,_,h,_,_=>by
  obtain⟨rfl,rfl,rfl⟩:=trodAll_nil h
  exact trodAll_mk0
 |t::ts,_,_,_,ht,h,h1,h2=>by
  obtain⟨v,vs1,d,ds1,a,b,rfl,rfl,rfl,h3,h4⟩:=trodAll_cons h
  exact⟨a,b,WideElems.Trod_stays hl (ht t (by simp)).1 (ht t (by simp)).2 h3 (fun p hp=>h1 p (by simp[hp])) (fun p hp=>h2 p (by simp[hp])),
   trods_stay hl (fun t' h'=>ht t' (by simp[h'])) h4 (fun p hp=>h1 p (by simp[hp])) (fun p hp=>h2 p (by simp[hp])),rfl⟩
theorem bridge{H:Type}{enc:TypeId × Value→H}{f:FuncId}{fn:Func}{s:ChangeSpec}{apart fresh handsOn again:Bool}{args:Array Value}{ds gs:List (DataW H)}{before:List MemPlace}{tb:TypeId}
  (hW:DataW.Whole enc P fn.params.toList s.vars apart W args.toList ds gs before) {vs:List V} (hc:PCalls P f vs (·=.bool true)) (hl:vs.length=args.size) (hr:∀j,j<vs.length→Rel (GW W) [] (vs.getD j .undef) (args.getD j Go.undef))
  (hvars:s.vars=[]) (hfn:s.fn H (ds++gs)={results:=[.lit (.bool true)],args:=ds}) (hty:fn.resultTypes= #[tb]) (htb:P.underlying tb=some .bool) (hlo:laidOutB P=true) (hrd:∀t∈fn.params.toList,P.readableRec t=true∧t<P.types.size):
  Calls P f args W fun e W'=>∃v,e=.returned v∧s.post enc P fn apart fresh handsOn again W args v W':=by
 refine(hc.2 (GW W) W args ⟨fun b o hb=>hb,ambOf_ok W⟩ hl hr).mono ?_
 rintro e W' ⟨v,x,G',rfl,h1,h2,-,h4,h5,h6,rfl⟩
 cases h6
 have hamb:G'.amb.ok W':=h2.amb
 rw[←h1.same]at hamb
 have hW':=hW
 obtain⟨p,q,hA,hV,rfl,-,-⟩:=hW'
 rw[hvars]at hV
 obtain⟨rfl,rfl⟩:=trodVars_none hV
 have hlt:∀x∈p,x.block<W.heap.size:=fun x hx=>hW.lt x (by simp[hx])
 refine⟨_,rfl,post_same (pa:=p) (pv:=[]) hW (fun _ _ _=> ?_) (fun sp hsp=> ?_) (fun sp _=> ?_) rfl ?_ (fun a ha=>World.frozen?_of_block (w:=W) (h4 _ ha)) (ok_one hty rfl (okWide_bool_mk htb _))⟩
 ·rw[hfn,hty]
  exact trodAll_cons_mk (shut_bool htb _) trodAll_mk0
 ·rw[hfn]
  refine trods_stay hlo hrd hA (fun x hx=> ?_) fun x hx=>hsp x (by simp[hx])
  cases x with
  |cell b o=>exact World.cell?_of_block (w:=W) (h4 b (hlt _ hx))
  |map b=>exact h4 b (hlt _ hx)
 ·rw[hfn,hvars];rfl
 ·refine⟨hamb.os,hamb.out,fun i hi=> ?_⟩
  rw[h4 i hi]
  split<;>simp_all
end
section
variable {W:World}
theorem oInt:Opens Tryz.prog W (fun vs=>∃n,vs=[.int .i64 n]) 3:=Opens.int Tryz.underlying3
theorem oStr:Opens Tryz.prog W (fun vs=>∃s,vs=[.str s]) 9:=Opens.str Tryz.underlying9
theorem oNames:Opens Tryz.prog W (fun vs=>∃l,vs=[tstr.lst l]) 23:=Opens.slice (E:=tstr) Tryz.underlying23 oStr (by kernel_rfl) (by decide) fun _=>rfl
theorem oShown:Opens Tryz.prog W (fun vs=>∃x,vs=tShown.cells x) 103:=
 (Opens.struct Tryz.underlying103 [fun vs=>∃n,vs=[.int .i64 n],fun vs=>∃s,vs=[.str s]] ⟨oInt,oStr,trivial⟩ (by kernel_rfl)).mono fun vs h=>by
  obtain⟨_,_,rfl,⟨a,rfl⟩,_,_,rfl,⟨b,rfl⟩,rfl⟩:=h
  exact⟨⟨a,b⟩,rfl⟩
theorem oShowns:Opens Tryz.prog W (fun vs=>∃l,vs=[tShown.lst l]) 69:=Opens.slice (E:=tShown) Tryz.underlying69 oShown (by kernel_rfl) (by decide) fun _=>rfl
theorem oBody:Opens Tryz.prog W (fun vs=>∃x,vs=tBody.cells x) 71:=
 (Opens.struct Tryz.underlying71 [fun vs=>∃s,vs=[.str s],fun vs=>∃l,vs=[tShown.lst l]] ⟨oStr,oShowns,trivial⟩ (by kernel_rfl)).mono fun vs h=>by
  obtain⟨_,_,rfl,⟨a,rfl⟩,_,_,rfl,⟨b,rfl⟩,rfl⟩:=h
  exact⟨⟨a,b⟩,rfl⟩
theorem oBodies:Opens Tryz.prog W (fun vs=>∃l,vs=[tBody.lst l]) 22:=Opens.slice (E:=tBody) Tryz.underlying22 oBody (by kernel_rfl) (by decide) fun _=>rfl
theorem oLine:Opens Tryz.prog W (fun vs=>∃x,vs=tLine.cells x) 66:=
 (Opens.struct Tryz.underlying66 (List.replicate 7 fun vs=>∃n,vs=[.int .i64 n]) ⟨oInt,oInt,oInt,oInt,oInt,oInt,oInt,trivial⟩ (by kernel_rfl)).mono fun vs h=>by
  obtain⟨_,_,rfl,⟨a,rfl⟩,_,_,rfl,⟨b,rfl⟩,_,_,rfl,⟨c,rfl⟩,_,_,rfl,⟨d,rfl⟩,_,_,rfl,⟨e,rfl⟩,_,_,rfl,⟨f,rfl⟩,_,_,rfl,⟨g,rfl⟩,rfl⟩:=h
  exact⟨⟨a,b,c,d,e,f,g⟩,rfl⟩
theorem oLines:Opens Tryz.prog W (fun vs=>∃l,vs=[tLine.lst l]) 24:=Opens.slice (E:=tLine) Tryz.underlying24 oLine (by kernel_rfl) (by decide) fun _=>rfl
theorem oBook:Opens Tryz.prog W (fun vs=>∃x,vs=tBook.cells x) 26:=
 (Opens.struct Tryz.underlying26 [fun vs=>∃l,vs=[tBody.lst l],fun vs=>∃l,vs=[tstr.lst l],fun vs=>∃l,vs=[tLine.lst l]] ⟨oBodies,oNames,oLines,trivial⟩ (by kernel_rfl)).mono fun vs h=>by
  obtain⟨_,_,rfl,⟨a,rfl⟩,_,_,rfl,⟨b,rfl⟩,_,_,rfl,⟨c,rfl⟩,rfl⟩:=h
  exact⟨⟨a,b,c⟩,rfl⟩
variable {H:Type} {enc:TypeId × Value→H} {base:Nat} {v:Value} {d:DataW H} {ps:List MemPlace}
theorem arg_book(hok:Value.okWide Tryz.prog W .any base 26 v)(h:DataW.Trod enc Tryz.prog W 0 (fun _=>true) true 26 v d ps)(hb:Rows.uptoBulk d≤1048576):∃x,Rel (GW W) [] (.agg (tBook.cells x)) v:=by
 obtain⟨vs,⟨x,rfl⟩,hr⟩:=val_struct Tryz.underlying26 hok h oBook hb
 exact⟨x,hr⟩
theorem val_arr{k:IntKind}{t e:TypeId}{n:Nat}(ht:Tryz.prog.underlying t=some (.array n e))(he:Tryz.prog.underlying e=some (.int k))(hc:Tryz.prog.cellsOf e=1)(hc2:Tryz.prog.cellsOf t=n)(hok:Value.okWide Tryz.prog W .any base t v)(h:DataW.Trod enc Tryz.prog W 0 (fun _=>true) true t v d ps):
  ∃f:Nat→Int,(∀i,i<n→(Lit.int k (f i)).wf=true)∧Rel (GW W) [] (.arr 1 n fun r j=>([.int k (f r)]:List V).getD j .undef) v:=by
 simp only[Value.okWide,ht]at hok
 obtain⟨cs,rfl,hsz,-⟩:=hok
 obtain⟨fuel,hn⟩:=h
 obtain⟨xs,m,-,-,hl,hlen,hf⟩:=DataW.trod_array ht hn
 have hs2:cs.size=n:=by rw[hsz,hc2]
 have el:∀i,i<n→∃a,cs.getD i Go.undef=.int k a∧(Lit.int k a).wf=true:=fun i hi=>by
  have h1:=hf i hi
  have hx:xs[i]? =some xs[i]:=List.getElem?_eq_getElem (by omega)
  rw[hx,hc,Nat.mul_one]at h1
  obtain⟨a,h2,-,hw⟩:=DataW.trod_int he h1
  refine⟨a,?_,hw⟩
  have h3:((cs.toList.drop i).take 1)[0]? =some (.int k a):=by
   have e:(Value.agg cs).cells.toList=cs.toList:=rfl
   rw[e]at h2;rw[h2];rfl
  rw[List.getElem?_take_of_lt (by omega),List.getElem?_drop,Nat.add_zero,Array.getElem?_toList]at h3
  rw[Array.getD_eq_getD_getElem?,h3];rfl
 obtain⟨f,hf⟩:∃f:Nat→Int,∀i,i<n→cs.getD i Go.undef=.int k (f i)∧(Lit.int k (f i)).wf=true:=⟨fun i=>if h:i<n then(el i h).choose else 0,fun i hi=>by have:=(el i hi).choose_spec;simpa only[hi,dif_pos]using this⟩
 refine⟨f,fun i hi=>(hf i hi).2,.arr (by rw[hs2,Nat.mul_one]) fun r j hr hj=> ?_⟩
 obtain rfl:j=0:=by omega
 rw[Nat.mul_one,Nat.add_zero,(hf r hr).1]
 exact .int _ _
theorem arg_arr2(hok:Value.okWide Tryz.prog W .any base 36 v)(h:DataW.Trod enc Tryz.prog W 0 (fun _=>true) true 36 v d ps)(_hb:Rows.uptoBulk d≤1048576):∃f:Nat→Int,Rel (GW W) [] (.arr 1 2 (rowsFn tint f)) v:=by
 obtain⟨f,-,hr⟩:=val_arr Tryz.underlying36 Tryz.underlying3 (by kernel_rfl) (by kernel_rfl) hok h
 exact⟨f,hr⟩
theorem wf16{n:Int}(h:(Lit.int .u16 n).wf=true):0≤n∧n≤65535:=by simpa[Lit.wf,IntKind.min,IntKind.max,IntKind.signed,IntKind.bits]using h
theorem wf8{n:Int}(h:(Lit.int .u8 n).wf=true):0≤n∧n≤255:=by simpa[Lit.wf,IntKind.min,IntKind.max,IntKind.signed,IntKind.bits]using h
theorem arg_h2(hok:Value.okWide Tryz.prog W .any base 60 v)(h:DataW.Trod enc Tryz.prog W 0 (fun _=>true) true 60 v d ps)(_hb:Rows.uptoBulk d≤1048576):∃f:Nat→Int,(∀i,i<2→0≤f i∧f i≤65535)∧Rel (GW W) [] (.arr 1 2 (rowsFn tu16 f)) v:=by
 obtain⟨f,hf,hr⟩:=val_arr Tryz.underlying60 Tryz.underlying59 (by kernel_rfl) (by kernel_rfl) hok h
 exact⟨f,fun i hi=>wf16 (hf i hi),hr⟩
theorem arg_h3(hok:Value.okWide Tryz.prog W .any base 80 v)(h:DataW.Trod enc Tryz.prog W 0 (fun _=>true) true 80 v d ps)(_hb:Rows.uptoBulk d≤1048576):∃f:Nat→Int,(∀i,i<3→0≤f i∧f i≤65535)∧Rel (GW W) [] (.arr 1 3 (rowsFn tu16 f)) v:=by
 obtain⟨f,hf,hr⟩:=val_arr Tryz.underlying80 Tryz.underlying59 (by kernel_rfl) (by kernel_rfl) hok h
 exact⟨f,fun i hi=>wf16 (hf i hi),hr⟩
theorem arg_h4(hok:Value.okWide Tryz.prog W .any base 76 v)(h:DataW.Trod enc Tryz.prog W 0 (fun _=>true) true 76 v d ps)(_hb:Rows.uptoBulk d≤1048576):∃f:Nat→Int,(∀i,i<4→0≤f i∧f i≤65535)∧Rel (GW W) [] (.arr 1 4 (rowsFn tu16 f)) v:=by
 obtain⟨f,hf,hr⟩:=val_arr Tryz.underlying76 Tryz.underlying59 (by kernel_rfl) (by kernel_rfl) hok h
 exact⟨f,fun i hi=>wf16 (hf i hi),hr⟩
theorem arg_b3(hok:Value.okWide Tryz.prog W .any base 90 v)(h:DataW.Trod enc Tryz.prog W 0 (fun _=>true) true 90 v d ps)(_hb:Rows.uptoBulk d≤1048576):∃f:Nat→Int,(∀i,i<3→0≤f i∧f i≤255)∧Rel (GW W) [] (.arr 1 3 (rowsFn tu8 f)) v:=by
 obtain⟨f,hf,hr⟩:=val_arr Tryz.underlying90 Tryz.underlying5 (by kernel_rfl) (by kernel_rfl) hok h
 exact⟨f,fun i hi=>wf8 (hf i hi),hr⟩
theorem arg_b2(hok:Value.okWide Tryz.prog W .any base 92 v)(h:DataW.Trod enc Tryz.prog W 0 (fun _=>true) true 92 v d ps)(_hb:Rows.uptoBulk d≤1048576):∃f:Nat→Int,(∀i,i<2→0≤f i∧f i≤255)∧Rel (GW W) [] (.arr 1 2 (rowsFn tu8 f)) v:=by
 obtain⟨f,hf,hr⟩:=val_arr Tryz.underlying92 Tryz.underlying5 (by kernel_rfl) (by kernel_rfl) hok h
 exact⟨f,fun i hi=>wf8 (hf i hi),hr⟩
theorem arg_str(hok:Value.okWide Tryz.prog W .any base 9 v)(h:DataW.Trod enc Tryz.prog W 0 (fun _=>true) true 9 v d ps)(_hb:Rows.uptoBulk d≤1048576):∃s:ByteArray,Rel (GW W) [] (.str s) v:=by
 have hv:v.cells.toList=[v]:=by
  simp only[Value.okWide,Tryz.underlying9,Cell.okWide,Cell.ok]at hok
  cases v<;>first|rfl|simp at hok
 obtain⟨n,hn⟩:=h
 rw[hv]at hn
 obtain⟨s,hs,-,-⟩:=DataW.trod_string Tryz.underlying9 hn
 obtain rfl:v=.string s:=by simpa using hs
 exact⟨s,.str s⟩
theorem arg_line(hok:Value.okWide Tryz.prog W .any base 66 v)(h:DataW.Trod enc Tryz.prog W 0 (fun _=>true) true 66 v d ps)(hb:Rows.uptoBulk d≤1048576):∃x,Rel (GW W) [] (.agg (tLine.cells x)) v:=by
 obtain⟨vs,⟨x,rfl⟩,hr⟩:=val_struct Tryz.underlying66 hok h oLine hb
 exact⟨x,hr⟩
end
theorem own:ownKnob Tryz.prog.godebug=none:=by kernel_rfl
theorem laidOut:laidOutB Tryz.prog=true:=by kernel_rfl
abbrev noBook:Value:=.agg #[.slice none 0 0,.slice none 0 0,.slice none 0 0]
abbrev noBookD{H:Type}:DataW H:=.agg [.nil,.nil,.nil]
end Go.Proofs.YtemgodefhcbleaaGreat
