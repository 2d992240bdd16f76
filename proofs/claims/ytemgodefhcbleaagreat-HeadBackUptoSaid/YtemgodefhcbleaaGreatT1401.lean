/-
  Part of the proof of HeadBack. Conditions: those that stand in each theorem.
-/
import Derived.Laws.Strings
import Derived.KernelRfl
import Derived.Test.YtemgodefhcbleaaGreatB16
set_option linter.unusedSimpArgs false
set_option linter.unusedVariables false
set_option maxRecDepth 100000
namespace Go.Proofs.YtemgodefhcbleaaGreat
open Ab Go
theorem Up.ext:∀ {a b:List ByteArray},Up a→Up b→(∀t,t∈a↔t∈b)→a=b
 |[],[],_,_,_=>rfl
 |[],y::b,_,_,h=>by have:=(h y).2 (by simp);simp at this
 |x::a,[],_,_,h=>by have:=(h x).1 (by simp);simp at this
 |x::a,y::b,ha,hb,h=>by
  obtain⟨a1,a2⟩:=List.pairwise_cons.1 ha
  obtain⟨b1,b2⟩:=List.pairwise_cons.1 hb
  have e:x=y:=by
   rcases List.mem_cons.1 ((h x).1 (by simp))with q|q
   ·exact q
   ·rcases List.mem_cons.1 ((h y).2 (by simp))with z|z
    ·exact z.symm
    ·have:=blt_trans (b1 x q) (a1 y z);rw[blt_irr]at this;cases this
  subst e
  congr 1
  refine Up.ext a2 b2 fun t=> ?_
  have ht:=h t
  rw[List.mem_cons,List.mem_cons]at ht
  constructor
  ·intro hm
   rcases ht.1 (.inr hm)with q|q
   ·subst q;have:=a1 t hm;rw[blt_irr]at this;cases this
   ·exact q
  ·intro hm
   rcases ht.2 (.inr hm)with q|q
   ·subst q;have:=b1 t hm;rw[blt_irr]at this;cases this
   ·exact q
end Go.Proofs.YtemgodefhcbleaaGreat
namespace Ab
open Go
section
variable {P:Program} {ro:Env} {ops:Array Oper} {S:St} {i:Nat} {o:Oper}
theorem AStep.app0(hi:ops[i]? =some o)(hw:wantedV ops S o=some true){s x:Operand}{t e:TypeId}{wd k q:Nat}{c:Nat→Nat→V}{zs:List V}
  (hop:o.op=.call {callee:=.builtin .append,args:= #[s,x],argTypes:= #[t,t]}) (hsv:S.eval s=.nils) (hxv:S.eval x=.list wd k c) (hu:P.underlying t=some (.slice e)) (hz:zeroCs P e=some zs)
  (hc:decide (hasT P e=true∧szOf P e=wd∧0<wd∧zs.length=wd∧P.bytesOf e≤32768)=true) (hvd:S.h[q]? =some .void)
  (hk:k≤4294967296) (hsc:∀r,r<k→∀j,j<wd→(c r j).scalar=true):
  AStep P ro ops i S ({S with h:=S.h.set q (.rows e wd k c)}.put o.dst (.row q k)):=by
 obtain⟨hT,hsz,h0,hzl,hby⟩:=of_decide_eq_true hc
 refine AStep.of_val hi hw (fun c hcc=>by rw[hop]at hcc;cases hcc) fun β G K a w r=> ?_
 have hs:=r.eval s
 rw[hsv]at hs
 have hx:=r.eval x
 rw[hxv]at hx
 have hlt:q<β.length:=by rw[r.h.len];exact(List.getElem?_eq_some_iff.1 hvd).1
 generalize hsx:a.eval s=sv at hs
 cases hs with
 |nils=>
  rename_i a0
  obtain⟨v',w',r1,r2,r3,r5,r4⟩:=run_fresh (ty:=o.type) hu hT hsz h0 hz hzl hby r.h (a0:=a0) hx hk hsc
  have hrun:(execOp a.eval o).run P w=.ok (.value v') w':=by
   simp only[execOp,hop,resolve,Sem.run_bind,Sem.run_pure,Result.andThen_ok,invoke,builtin,List.map_toArray,List.map_cons,List.map_nil,hsx,r1]
  rcases r4 with⟨rfl,rfl,rfl⟩|⟨hpos,g,cap',cur,rfl,hge,hcur,hnc,hcm,hcsz,hrel⟩
  ·have hle:=le_set_void (x:=.nil) (r.h.void_home hvd)
   have q1:=r.refill hvd hle (r.h.fillNil hvd e c h0)
   exact⟨_,_,_,G,K,hrun,hle.low _,G.ext_refl K,K.le_refl,q1,.row0 (List.getElem?_set_self hlt)⟩
  ·have hle:=le_set_void (x:=.lie ⟨g,wd,cap'⟩) (r.h.void_home hvd)
   have hmn:k≤maxn:=by unfold maxn;omega
   have hg':g<w'.heap.size:=(Array.getElem?_eq_some_iff.1 hcur).1
   have q1:=r.refill hvd hle (r.h.fillG r2 r3 (k:=.rows e wd k c) (x:=⟨g,wd,cap'⟩) hvd hge hg' ⟨rfl,h0,hcm,cur,hcur,hcsz,hnc,hmn,hrel⟩ r5)
   exact⟨_,_,_,G,K,hrun,hle.low _,G.ext_refl K,K.le_refl,q1,.row (List.getElem?_set_self hlt) hnc (Nat.le_refl _) hmn⟩
end
end Ab
namespace Ab
open Go
end Ab
namespace Ab
open Go
section
variable {P:Program} {ro:Env} {ops:Array Oper} {i:Nat} {S S2:St}
theorem AStep.ap0(s x:Operand)(t e q wd k:Nat)(c:Nat→Nat→V)(zs:List V)(hk:k≤4294967296)(hsc:∀r,r<k→∀j,j<wd→(c r j).scalar=true)(hi:ops[i]? =some (ops.getD i default):=by kernel_rfl)(hw:wantedV ops S (ops.getD i default)=some true:=by kernel_rfl)
  (hop:(ops.getD i default).op=.call {callee:=.builtin .append,args:= #[s,x],argTypes:= #[t,t]}:=by kernel_rfl) (hsv:S.eval s=.nils:=by kernel_rfl) (hxv:S.eval x=.list wd k c:=by kernel_rfl) (hu:P.underlying t=some (.slice e):=by kernel_rfl) (hz:zeroCs P e=some zs:=by kernel_rfl)
  (hc:decide (hasT P e=true∧szOf P e=wd∧0<wd∧zs.length=wd∧P.bytesOf e≤32768)=true:=by kernel_rfl) (hvd:S.h[q]? =some .void:=by kernel_rfl)
  (h2:({S with h:=S.h.set q (.rows e wd k c)}.put (ops.getD i default).dst (.row q k))=S2:=by kernel_rfl):AStep P ro ops i S S2:=AStep.to (AStep.app0 hi hw hop hsv hxv hu hz hc hvd hk hsc) h2
end
end Ab
namespace Go.Proofs.YtemgodefhcbleaaGreat
open Ab Go
theorem firstE_all{τ:Type}{of:Nat→τ→Int}(d:τ):∀ {l:List τ} {i:Nat},(∀j,j<l.length→of (i+j) (l.getD j d)=0)→firstE of i l=none
 |[],_,_=>rfl
 |x::l,i,h=>by
  have h0:=h 0 (by simp)
  simp only[Nat.add_zero,List.getD_cons_zero]at h0
  simp only[firstE,h0,if_true]
  refine firstE_all d fun j hj=> ?_
  have:=h (j+1) (by simpa using hj)
  rw[show i+(j+1)=i+1+j by omega]at this
  simpa using this
theorem bookCheck_of{b:Book}(h:OkBook b):bookCheck b=(0,0,0):=by
 have e1:firstE (bodyAt b.bodies) 0 b.bodies=none:=firstE_all zBody fun j hj=>by rw[Nat.zero_add];exact h.body j hj
 have e2:firstE (headAt b.heads) 0 b.heads=none:=firstE_all ByteArray.empty fun j hj=>by rw[Nat.zero_add];exact h.head j hj
 have e3:firstE (lineErr b) 0 b.lines=none:=firstE_all zLine fun j hj=>by rw[Nat.zero_add];exact h.lineE j hj
 unfold bookCheck
 have h1:=h.nb
 have h2:=h.nh
 have h3:=h.nl
 rw[if_neg (by omega),e1]
 simp only
 rw[if_neg (by omega),e2]
 simp only
 rw[if_neg (by omega),e3]
def Step1(x:Line)(h h':List Int):Prop:=∃p∈pairsR x,doneR h x p=(h',true)
def Step2(f:Bool)(x:Line)(h h':List Int):Prop:=if f=true then h'=h else Step1 x h h'
inductive Run:List Int→List (Line × Bool)→List (List Int)→Prop
 |nil (h:List Int):Run h [] []
 |cons {h h':List Int} {x:Line} {f:Bool} {L:List (Line × Bool)} {hs:List (List Int)}:Step2 f x h h'→Run h' L hs→Run h ((x,f)::L) (h'::hs)
def lastH(h:List Int)(hs:List (List Int)):List Int:=(h::hs).getD hs.length []
theorem lastH_cons(h h':List Int)(hs:List (List Int)):lastH h (h'::hs)=lastH h' hs:=by simp[lastH]
theorem Run.len{h:List Int}{L:List (Line × Bool)}{hs:List (List Int)}(r:Run h L hs):hs.length=L.length:=by
 induction r with
 |nil=>rfl
 |cons _ _ ih=>simp[ih]
theorem run_nil{h:List Int}{hs:List (List Int)}:Run h [] hs↔hs=[]:=⟨fun r=>by cases r;rfl,fun e=>e▸Run.nil h⟩
theorem run_cons{h:List Int}{x:Line}{f:Bool}{L:List (Line × Bool)}{hs:List (List Int)}:Run h ((x,f)::L) hs↔∃h' r,hs=h'::r∧Step2 f x h h'∧Run h' L r:=by
 constructor
 ·intro r;cases r with
  |cons s r=>exact⟨_,_,rfl,s,r⟩
 ·rintro⟨h',r,rfl,s,q⟩;exact .cons s q
theorem run_append{L2:List (Line × Bool)}:∀(L1:List (Line × Bool)) (h:List Int) (hs:List (List Int)),Run h (L1++L2) hs↔∃h1 h2,hs=h1++h2∧Run h L1 h1∧Run (lastH h h1) L2 h2
 |[],h,hs=>by
  constructor
  ·intro r;exact⟨[],hs,rfl,.nil h,r⟩
  ·rintro⟨h1,h2,rfl,r1,r2⟩;rw[run_nil]at r1;subst r1;exact r2
 |(x,f)::L1,h,hs=>by
  rw[List.cons_append,run_cons]
  constructor
  ·rintro⟨h',r,rfl,s,q⟩
   obtain⟨h1,h2,rfl,r1,r2⟩:=(run_append L1 h' r).1 q
   exact⟨h'::h1,h2,rfl,.cons s r1,by rw[lastH_cons];exact r2⟩
  ·rintro⟨h1,h2,rfl,r1,r2⟩
   obtain⟨h',r,rfl,s,q⟩:=run_cons.1 r1
   rw[lastH_cons]at r2
   exact⟨h',r++h2,rfl,s,(run_append L1 h' _).2 ⟨r,h2,rfl,q,r2⟩⟩
def flags(b:Book)(but:List Int)(i:Nat):List (Line × Bool):=(List.range i).map fun k=>(b.lines.getD k zLine,hasN but (k:Int))
theorem flags_succ(b:Book)(but:List Int)(i:Nat):flags b but (i+1)=flags b but i++ [(b.lines.getD i zLine,hasN but (i:Int))]:=by unfold flags;rw[List.range_succ,List.map_append];rfl
theorem mem_step{b:Book}{but:List Int}{i:Nat}{t:Truth}(hp:0<(pairsR (b.lines.getD i zLine)).length)(hv:List (List Int)):(∃u∈stepT b but i t,u.haves=hv)↔∃h',hv=t.haves++ [h']∧Step2 (hasN but (i:Int)) (b.lines.getD i zLine) (t.haves.getD i []) h':=by
 unfold stepT Step2 Step1 waysR
 generalize b.lines.getD i zLine=x at*
 constructor
 ·rintro⟨u,hu,rfl⟩
  obtain⟨k,hk,hu⟩:=List.mem_flatMap.1 hu
  rw[List.mem_range]at hk
  by_cases hb:hasN but (i:Int)=true
  ·rw[if_pos hb]at hu
   split at hu
   ·rw[List.mem_singleton.1 hu];exact⟨_,rfl,by rw[if_pos hb]⟩
   ·exact absurd hu List.not_mem_nil
  ·rw[if_neg hb]at hu
   split at hu
   ·rename_i hd
    rw[List.mem_singleton.1 hu]
    exact⟨_,rfl,by rw[if_neg hb];exact⟨_,getD_mem zPair _ k hk,Prod.ext rfl hd⟩⟩
   ·exact absurd hu List.not_mem_nil
 ·rintro⟨h',rfl,hs⟩
  by_cases hb:hasN but (i:Int)=true
  ·rw[if_pos hb]at hs
   subst hs
   exact⟨_,List.mem_flatMap.2 ⟨0,List.mem_range.2 hp,by rw[if_pos hb,if_pos rfl];exact List.mem_singleton.2 rfl⟩,rfl⟩
  ·rw[if_neg hb]at hs
   obtain⟨p,hp2,e⟩:=hs
   obtain⟨k,hk,rfl⟩:=mem_getD zPair hp2
   exact⟨_,List.mem_flatMap.2 ⟨k,List.mem_range.2 hk,by rw[if_neg hb,if_pos (by rw[e])];exact List.mem_singleton.2 rfl⟩,by simp only[e]⟩
theorem truth_run{b:Book}(h:OkBook b)(but:List Int):∀i,i≤b.lines.length→∀hv,(∃t∈truthsTo b but i,t.haves=hv)↔∃hs,hv=firstH b::hs∧Run (firstH b) (flags b but i) hs
 |0,_,hv=>by
  constructor
  ·rintro⟨t,ht,rfl⟩
   rw[truthsTo,List.mem_singleton]at ht
   subst ht
   exact⟨[],rfl,.nil _⟩
  ·rintro⟨hs,rfl,r⟩
   have:flags b but 0=[]:=rfl
   rw[this,run_nil]at r
   subst r
   exact⟨_,List.mem_singleton.2 rfl,rfl⟩
 |i+1,hi,hv=>by
  have hp:=pairs_pos (h.line (i:=i) (by omega))
  rw[flags_succ]
  have ih:=truth_run h but i (by omega)
  constructor
  ·rintro⟨t,ht,rfl⟩
   rw[truthsTo,List.mem_flatMap]at ht
   obtain⟨u,hu,ht⟩:=ht
   obtain⟨h',e,s⟩:=(mem_step hp t.haves).1 ⟨t,ht,rfl⟩
   obtain⟨hs,e2,r⟩:=(ih u.haves).1 ⟨u,hu,rfl⟩
   have hl:=r.len
   rw[flags,List.length_map,List.length_range]at hl
   refine⟨hs++ [h'],by rw[e,e2];rfl,(run_append _ _ _).2 ⟨hs,[h'],rfl,r,.cons ?_ (.nil _)⟩⟩
   rw[e2]at s
   unfold lastH;rw[hl];exact s
  ·rintro⟨hs,rfl,r⟩
   obtain⟨h1,h2,rfl,r1,r2⟩:=(run_append _ _ _).1 r
   obtain⟨h',r3,rfl,s,q⟩:=run_cons.1 r2
   rw[run_nil]at q
   subst q
   obtain⟨u,hu,e⟩:=(ih (firstH b::h1)).2 ⟨h1,rfl,r1⟩
   have hl:=r1.len
   rw[flags,List.length_map,List.length_range]at hl
   unfold lastH at s
   rw[hl,←e]at s
   obtain⟨t,ht,e3⟩:=(mem_step (b:=b) hp (u.haves++ [h'])).2 ⟨h',rfl,s⟩
   exact⟨t,by rw[truthsTo,List.mem_flatMap];exact⟨u,hu,ht⟩,by rw[e3,e];rfl⟩
def all0(l:List Line):List (Line × Bool):=l.map fun x=>(x,false)
theorem flags_all(b:Book):flags b [] b.lines.length=all0 b.lines:=by
 apply List.ext_getElem
 ·simp[flags,all0]
 ·intro i h1 h2
  have:i<b.lines.length:=by simpa[all0]using h2
  simp[flags,all0,hasN,List.getD_eq_getElem?_getD,this]
theorem truths_run{b:Book}(h:OkBook b)(hv:List (List Int)):(∃t∈truthsR b [],t.haves=hv)↔∃hs,hv=firstH b::hs∧Run (firstH b) (all0 b.lines) hs:=by
 rw[←flags_all];exact truth_run h [] _ (Nat.le_refl _) hv
theorem truth_hs{b:Book}(h:OkBook b){t:Truth}(ht:t∈truthsR b []):∃hs,t.haves=firstH b::hs∧Run (firstH b) (all0 b.lines) hs:=(truths_run h _).1 ⟨t,ht,rfl⟩
theorem hs_truth{b:Book}(h:OkBook b){hs:List (List Int)}(r:Run (firstH b) (all0 b.lines) hs):∃t∈truthsR b [],t.haves=firstH b::hs:=(truths_run h _).2 ⟨hs,rfl,r⟩
theorem run0_len{h:List Int}{L:List Line}{hs:List (List Int)}(r:Run h (all0 L) hs):hs.length=L.length:=by rw[r.len];simp[all0]
def atL(d:Int):List Int→List Line→List (List Int)→List Int
 |h,x::L,h'::hs=>if x.day≤d then atL d h' L hs else h
 |h,_,_=>h
theorem atL_split{d:Int}{B:List Line}(hB:∀x∈B,d<x.day):∀(A:List Line) (h:List Int) (hs:List (List Int)),(∀x∈A,x.day≤d)→A.length≤hs.length→atL d h (A++B) hs=(h::hs).getD A.length []
 |[],h,hs,_,_=>by
  cases B with
  |nil=>cases hs<;>rfl
  |cons x B=>
   cases hs with
   |nil=>rfl
   |cons h' hs=>
    have:=hB x (by simp)
    simp only[List.nil_append,atL]
    rw[if_neg (by omega)];rfl
 |x::A,h,[],_,hl=>by simp at hl
 |x::A,h,h'::hs,hA,hl=>by
  simp only[List.cons_append,atL]
  rw[if_pos (hA x (by simp)),atL_split hB A h' hs (fun y hy=>hA y (by simp[hy])) (by simpa using hl)]
  simp
def Sorted(l:List Line):Prop:=l.Pairwise fun x y=>x.day≤y.day
theorem sorted_split(d:Int):∀l:List Line,Sorted l→∃A B,l=A++B∧(∀x∈A,x.day≤d)∧∀x∈B,d<x.day
 |[],_=>⟨[],[],rfl,by simp,by simp⟩
 |x::l,h=>by
  obtain⟨h1,h2⟩:=List.pairwise_cons.1 h
  by_cases hx:x.day≤d
  ·obtain⟨A,B,e,hA,hB⟩:=sorted_split d l h2
   refine⟨x::A,B,by rw[e];rfl,fun y hy=> ?_,hB⟩
   rcases List.mem_cons.1 hy with rfl|q
   ·exact hx
   ·exact hA y q
  ·refine⟨[],x::l,rfl,by simp,fun y hy=> ?_⟩
   rcases List.mem_cons.1 hy with rfl|q
   ·omega
   ·have:=h1 y q;omega
theorem OkBook.sorted{b:Book}(h:OkBook b):Sorted b.lines:=by
 refine List.pairwise_iff_getElem.2 fun i j hi hj hij=> ?_
 have:=days_mono h (j-i) i (by omega)
 rw[show i+(j-i)=j by omega,List.getD_eq_getElem?_getD,List.getD_eq_getElem?_getD,List.getElem?_eq_getElem hi,List.getElem?_eq_getElem hj]at this
 exact this
theorem at_atL{b:Book}(h:OkBook b){t:Truth}{hs:List (List Int)}(ht:t.haves=firstH b::hs)(hl:hs.length=b.lines.length)(d:Int):atR b t d=atL d (firstH b) b.lines hs:=by
 obtain⟨A,B,e,hA,hB⟩:=sorted_split d b.lines h.sorted
 have hn:lineN b d=(A.length:Int):=by
  refine lineN_eq h (by rw[e];simp) (fun i hi=> ?_) (fun hn=> ?_)
  ·rw[e,List.getD_eq_getElem?_getD,List.getElem?_append_left hi,List.getElem?_eq_getElem hi]
   exact hA _ (List.getElem_mem hi)
  ·rw[e,List.length_append]at hn
   rw[e,List.getD_eq_getElem?_getD,List.getElem?_append_right (Nat.le_refl _),Nat.sub_self,List.getElem?_eq_getElem (by omega)]
   exact hB _ (List.getElem_mem (by omega))
 unfold atR
 rw[hn,ht,Int.toNat_natCast,e,atL_split hB A _ _ hA (by rw[hl,e,List.length_append];omega)]
def Sim(b b':Book)(D:Int→Prop):Prop:=∀t'∈truthsR b' [],∃t∈truthsR b [],∀d,D d→atR b' t' d=atR b t d
theorem sim_of{b b':Book}{D:Int→Prop}(h:OkBook b)(h':OkBook b')(hf:firstH b'=firstH b)(hr:∀hs',Run (firstH b) (all0 b'.lines) hs'→∃hs,Run (firstH b) (all0 b.lines) hs∧∀d,D d→atL d (firstH b) b'.lines hs'=atL d (firstH b) b.lines hs):Sim b b' D:=fun t' ht'=>by
 obtain⟨hs',e',r'⟩:=truth_hs h' ht'
 rw[hf]at r'
 obtain⟨hs,r,ha⟩:=hr hs' r'
 obtain⟨t,ht,e⟩:=hs_truth h r
 exact⟨t,ht,fun d hd=>by rw[at_atL h' e' (run0_len r') d,at_atL h e (run0_len r) d,hf];exact ha d hd⟩
theorem all0_append(l m:List Line):all0 (l++m)=all0 l++all0 m:=List.map_append
theorem atL_pre{d:Int}{B B':List Line}{hB hB':List (List Int)}:∀(A:List Line) (h:List Int) (hA:List (List Int)),hA.length=A.length→atL d (lastH h hA) B hB=atL d (lastH h hA) B' hB'→atL d h (A++B) (hA++hB)=atL d h (A++B') (hA++hB')
 |[],h,[],_,e=>e
 |[],h,_::_,hl,_=>by simp at hl
 |x::A,h,[],hl,_=>by simp at hl
 |x::A,h,h'::hA,hl,e=>by
  simp only[List.cons_append,atL]
  rw[lastH_cons]at e
  rw[atL_pre A h' hA (by simpa using hl) e]
theorem atL_stop{d:Int}{B:List Line}(hB:∀x∈B,d<x.day)(h:List Int)(hs:List (List Int)):atL d h B hs=h:=by
 cases B with
 |nil=>cases hs<;>rfl
 |cons x B=>
  cases hs with
  |nil=>rfl
  |cons h' hs=>
   have:=hB x (by simp)
   simp only[atL]
   rw[if_neg (by omega)]
theorem step_one{x:Line}{h h':List Int}:Step2 false x h h'↔Step1 x h h':=by unfold Step2;rw[if_neg (by decide)]
theorem sorted_mid{A B:List Line}{x:Line}(h:Sorted (A++x::B)):∀y∈B,x.day≤y.day:=(List.pairwise_cons.1 (List.pairwise_append.1 h).2.1).1
theorem step_swap{x:Line}(hk:x.kind≤2){h h':List Int}:Step1 x h h'↔∃p∈pairsR x,h'=swapR h p:=by
 unfold Step1 doneR
 have h3:¬x.kind=3:=by omega
 have h4:¬x.kind=4:=by omega
 simp only[h3,h4,if_false]
 constructor
 ·rintro⟨p,hp,e⟩;exact⟨p,hp,(Prod.ext_iff.1 e).1.symm⟩
 ·rintro⟨p,hp,rfl⟩;exact⟨p,hp,rfl⟩
theorem swapR_twice{h:List Int}{p:Pair}(ha:p.a.toNat<h.length)(hb:p.b.toNat<h.length):swapR (swapR h p) p=h:=by
 apply List.ext_getElem
 ·simp[swapR]
 ·intro i h1 h2
  simp only[swapR,List.getD_eq_getElem?_getD,List.getElem_set,List.getElem?_set,List.length_set]
  split
  ·rename_i q;subst q;split<;>simp_all
  ·split
   ·rename_i q q2;subst q2;simp_all
   ·rfl
theorem sim_back{b b':Book}(h:OkBook b)(h':OkBook b')(hb:b'.bodies=b.bodies){A B:List Line}{x:Line}(e:b.lines=A++B)(e':b'.lines=A++x::x::B)(hk:x.kind=0):Sim b b' (fun _=>True)∧Sim b' b fun _=>True:=by
 have hf:firstH b'=firstH b:=by unfold firstH;rw[hb]
 have hx:OkLine b'.bodies.length x:=by
  have:=h'.line (i:=A.length) (by rw[e'];simp)
  rw[e',List.getD_eq_getElem?_getD,List.getElem?_append_right (Nat.le_refl _),Nat.sub_self]at this
  exact this
 have hpx:pairsR x=[pairR x.a x.b]:=by unfold pairsR;rw[if_pos hk]
 obtain⟨p,hp⟩:∃p,p=pairR x.a x.b:=⟨_,rfl⟩
 rw[←hp]at hpx
 have hin:=pairs_in hx (p:=p) (by rw[hpx];simp) (by omega)
 have hst:∀g g',Step1 x g g'↔g'=swapR g p:=fun g g'=>by rw[step_swap (by omega),hpx];simp
 have hsrt:=h'.sorted
 rw[e']at hsrt
 have hd1:=sorted_mid hsrt
 have hd2:∀y∈B,x.day≤y.day:=fun y hy=>hd1 y (by simp[hy])
 have hat:∀d g hB,(swapR (swapR g p) p=g)→atL d g (x::x::B) (swapR g p::g::hB)=atL d g B hB:=fun d g hB hg=>by
  by_cases q:x.day≤d
  ·simp only[atL];rw[if_pos q,if_pos q]
  ·rw[atL_stop (d:=d) (B:=B) (fun y hy=>by have:=hd2 y hy;omega)]
   simp only[atL];rw[if_neg q]
 have hperm:∀(hA:List (List Int)),Run (firstH b) (all0 A) hA→(lastH (firstH b) hA).length=b.bodies.length:=fun hA r=>by
  have h0:(firstH b).length=b.bodies.length:=by simp[firstH]
  have:∀(L:List Line) (g:List Int) (hs:List (List Int)),Run g (all0 L) hs→(lastH g hs).length=g.length:=by
   intro L
   induction L with
   |nil=>intro g hs r;rw[run_nil.1 r];rfl
   |cons y L ih=>
    intro g hs r
    obtain⟨g',hs,rfl,s,r⟩:=run_cons.1 r
    rw[lastH_cons,ih g' hs r]
    obtain⟨p,_,e⟩:=step_one.1 s
    have:=doneR_len g y p
    rw[e]at this;exact this
  rw[this A _ hA r,h0]
 have hsw:∀(hA:List (List Int)),Run (firstH b) (all0 A) hA→swapR (swapR (lastH (firstH b) hA) p) p=lastH (firstH b) hA:=fun hA r=>by
  have:=hperm hA r
  rw[hb]at hin
  exact swapR_twice (by omega) (by omega)
 refine⟨sim_of h h' hf fun hs' r=> ?_,sim_of h' h hf.symm fun hs r=> ?_⟩
 ·rw[e',all0_append]at r
  obtain⟨hA,hB,rfl,r1,r2⟩:=(run_append _ _ _).1 r
  obtain⟨h1,hB,rfl,s1,r3⟩:=run_cons.1 r2
  obtain⟨h2,hB,rfl,s2,r4⟩:=run_cons.1 r3
  have g1:=(hst _ _).1 (step_one.1 s1)
  subst g1
  have g2:=(hst _ _).1 (step_one.1 s2)
  subst g2
  have hg:=hsw hA r1
  rw[hg]at r4⊢
  refine⟨hA++hB,by rw[e,all0_append];exact(run_append _ _ _).2 ⟨hA,hB,rfl,r1,r4⟩,fun d _=> ?_⟩
  rw[e,e']
  exact atL_pre A _ hA (run0_len r1) (hat d _ hB hg)
 ·rw[hf]at r⊢
  rw[e,all0_append]at r
  obtain⟨hA,hB,rfl,r1,r2⟩:=(run_append _ _ _).1 r
  have hg:=hsw hA r1
  refine⟨hA++(swapR (lastH (firstH b) hA) p::lastH (firstH b) hA::hB),?_,fun d _=> ?_⟩
  ·rw[e',all0_append]
   refine(run_append _ _ _).2 ⟨hA,_,rfl,r1,.cons (step_one.2 ((hst _ _).2 rfl)) (.cons (step_one.2 ((hst _ _).2 hg.symm)) r2)⟩
  ·rw[e,e']
   exact(atL_pre A _ hA (run0_len r1) (hat d _ hB hg)).symm
theorem outside_no{lo hi:Int}{l:List Int}(h:∀n∈l,lo≤n∧n≤hi):outside lo hi l=false:=by
 unfold outside
 cases e:l.any fun n=> !within n lo hi with
 |false=>rfl
 |true=>
  obtain⟨n,hn,q⟩:=List.any_eq_true.1 e
  rw[not_iff_false]at q
  have:=within_iff.2 (h n hn)
  rw[q]at this;cases this
theorem told_val{b:Book}(h:OkBook b){ns:List Int}(hn:∀n∈ns,0≤n∧n<b.bodies.length){d:Int}(hd:0≤d∧d≤364):toldR b ns d=if(truthsR b []).length=0 then([],8)else(truthsR b [],0):=by
 have e:toldE b ns d=0:=by
  unfold toldE
  rw[bookCheck_of h,if_neg (by decide),outside_no (fun n hm=>by have:=hn n hm;omega),if_neg (by decide),within_iff.2 hd,if_pos rfl]
 unfold toldR
 rw[e,if_neg (by decide)]
theorem told_zero{b:Book}(h:OkBook b){ns:List Int}(hn:∀n∈ns,0≤n∧n<b.bodies.length){d:Int}(hd:0≤d∧d≤364)(ht:0<(truthsR b []).length):(toldR b ns d).2=0:=by
 rw[told_val h hn hd,if_neg (by omega)]
theorem told_eight{b:Book}(h:OkBook b){ns:List Int}(hn:∀n∈ns,0≤n∧n<b.bodies.length){d:Int}(hd:0≤d∧d≤364)(ht:(truthsR b []).length=0):toldR b ns d=([],8):=by
 rw[told_val h hn hd,if_pos ht]
theorem one_in{n m:Int}(h:0≤n∧n<m):∀k∈ [n],0≤k∧k<m:=fun k hk=>by rw[List.mem_singleton.1 hk];exact h
section
variable {b b':Book} {D:Int→Prop}
theorem Sim.pos(s:Sim b b' D)(h:0<(truthsR b' []).length):0<(truthsR b []).length:=by
 obtain⟨t,ht⟩:=List.exists_mem_of_length_pos h
 obtain⟨u,hu,_⟩:=s t ht
 exact List.length_pos_of_mem hu
theorem anyT_iff{d:Int}{i:Nat}{n:Int}{L:List Truth}:anyT b d L i n=true↔∃t∈L,(atR b t d).getD i 0=n:=by
 unfold anyT;rw[List.any_eq_true];simp only[beq_iff_eq]
theorem Sim.anyT(s:Sim b b' D){d:Int}(hd:D d){i:Nat}{n:Int}(h:anyT b' d (truthsR b' []) i n=true):anyT b d (truthsR b []) i n=true:=by
 obtain⟨t,ht,e⟩:=anyT_iff.1 h
 obtain⟨u,hu,eu⟩:=s t ht
 exact anyT_iff.2 ⟨u,hu,by rw[←eu d hd];exact e⟩
theorem where_is{head d:Int}(h0:(toldR b [head] d).2=0):whereR b head d=(((List.range b.bodies.length).filter fun i=>anyT b d (truthsR b []) i head).map fun(i:Nat)=>(i:Int),0):=by unfold whereR;rw[if_neg (fun q=>q h0)]
theorem ever_is{head:Int}(h0:(toldR b [head] 0).2=0):everR b head=((personsR b).filter fun s=>manyS b (truthsR b []) head s==(truthsR b []).length,(personsR b).filter fun s=>decide (0<manyS b (truthsR b []) head s),0):=by unfold everR;rw[if_neg (fun q=>q h0)]
theorem many_is{d:Int}(h0:(toldR b [] d).2=0):manyR b d=(((((truthsR b []).map fun t=>atR b t d).foldl metN []).length:Int),0):=by unfold manyR;rw[if_neg (fun q=>q h0)]
theorem Sim.anyT_eq(s:Sim b b' D)(s':Sim b' b D){d:Int}(hd:D d)(i:Nat)(n:Int):Go.Proofs.YtemgodefhcbleaaGreat.anyT b' d (truthsR b' []) i n=Go.Proofs.YtemgodefhcbleaaGreat.anyT b d (truthsR b []) i n:=by
 rw[Bool.eq_iff_iff];exact⟨s.anyT hd,s'.anyT hd⟩
theorem Sim.where_eq(s:Sim b b' D)(s':Sim b' b D)(hb:b'.bodies=b.bodies){d head:Int}(hd:D d)(h0:(toldR b [head] d).2=0)(h0':(toldR b' [head] d).2=0):whereR b' head d=whereR b head d:=by
 rw[where_is h0,where_is h0',hb]
 simp only[s.anyT_eq s' hd]
theorem seen_at(hb:b'.bodies=b.bodies){t t':Truth}{d:Int}(e:atR b' t' d=atR b t d)(head:Int):seenR b' t' head d=seenR b t head d:=by
 unfold seenR;rw[e,hb]
theorem persons_eq(hb:b'.bodies=b.bodies):personsR b'=personsR b:=by unfold personsR allNames;rw[hb]
def Sees(b:Book)(t:Truth)(head:Int)(s:ByteArray):Prop:=∃d:Int,(0≤d∧d≤364)∧seenR b t head d=s
theorem shown_sees(h:OkBook b){t:Truth}(ht:t∈truthsR b []){head:Int}(hh:0≤head∧head<b.bodies.length){s:ByteArray}:shownR b t head s (daysR b)=true↔Sees b t head s:=by
 unfold shownR Sees
 rw[List.any_eq_true]
 constructor
 ·rintro⟨d,hd,e⟩;exact⟨d,days_in hd,same_iff.1 e⟩
 ·rintro⟨d,hd,e⟩
  have hn:((d.toNat:Nat):Int)=d:=Int.toNat_of_nonneg hd.1
  obtain⟨d',h1,h2⟩:=seen_days h ht hh (s:=s) d.toNat (by omega) (by rw[hn];exact e)
  exact⟨d',h1,same_iff.2 h2⟩
theorem many_all(h:OkBook b){head:Int}(hh:0≤head∧head<b.bodies.length){s:ByteArray}:manyS b (truthsR b []) head s=(truthsR b []).length↔∀t∈truthsR b [],Sees b t head s:=by
 unfold manyS
 rw[List.length_filter_eq_length_iff]
 constructor
 ·exact fun q t ht=>(shown_sees h ht hh).1 (q t ht)
 ·exact fun q t ht=>(shown_sees h ht hh).2 (q t ht)
theorem many_some(h:OkBook b){head:Int}(hh:0≤head∧head<b.bodies.length){s:ByteArray}:0<manyS b (truthsR b []) head s↔∃t∈truthsR b [],Sees b t head s:=by
 unfold manyS
 constructor
 ·intro q
  obtain⟨t,ht⟩:=List.exists_mem_of_length_pos q
  obtain⟨h1,h2⟩:=List.mem_filter.1 ht
  exact⟨t,h1,(shown_sees h h1 hh).1 h2⟩
 ·rintro⟨t,ht,q⟩
  exact List.length_pos_of_mem (List.mem_filter.2 ⟨ht,(shown_sees h ht hh).2 q⟩)
theorem mem_sure(h:OkBook b){head:Int}(h0:(toldR b [head] 0).2=0)(hh:0≤head∧head<b.bodies.length){s:ByteArray}:s∈(everR b head).1↔s∈personsR b∧∀t∈truthsR b [],Sees b t head s:=by
 rw[ever_is h0,List.mem_filter,beq_iff_eq,many_all h hh]
theorem mem_may(h:OkBook b){head:Int}(h0:(toldR b [head] 0).2=0)(hh:0≤head∧head<b.bodies.length){s:ByteArray}:s∈(everR b head).2.1↔s∈personsR b∧∃t∈truthsR b [],Sees b t head s:=by
 rw[ever_is h0,List.mem_filter,decide_eq_true_eq,many_some h hh]
theorem Sim.sees(s:Sim b b' D)(hD:∀d,0≤d∧d≤364→D d)(hb:b'.bodies=b.bodies){t':Truth}(ht:t'∈truthsR b' []):∃t∈truthsR b [],∀head x,Sees b' t' head x↔Sees b t head x:=by
 obtain⟨t,ht2,e⟩:=s t' ht
 refine⟨t,ht2,fun head x=> ?_⟩
 unfold Sees
 constructor
 ·rintro⟨d,hd,q⟩;exact⟨d,hd,by rw[←seen_at hb (e d (hD d hd))];exact q⟩
 ·rintro⟨d,hd,q⟩;exact⟨d,hd,by rw[seen_at hb (e d (hD d hd))];exact q⟩
theorem Sim.may(s:Sim b b' D)(hD:∀d,0≤d∧d≤364→D d)(h:OkBook b)(h':OkBook b')(hb:b'.bodies=b.bodies){head:Int}(h0:(toldR b [head] 0).2=0)(h0':(toldR b' [head] 0).2=0)(hh:0≤head∧head<b.bodies.length){x:ByteArray}(hx:x∈(everR b' head).2.1):x∈(everR b head).2.1:=by
 rw[mem_may h' h0' (by rw[hb];exact hh),persons_eq hb]at hx
 rw[mem_may h h0 hh]
 obtain⟨h1,t',ht,q⟩:=hx
 obtain⟨t,ht2,e⟩:=s.sees hD hb ht
 exact⟨h1,t,ht2,(e _ _).1 q⟩
theorem Sim.sure(s:Sim b b' D)(hD:∀d,0≤d∧d≤364→D d)(h:OkBook b)(h':OkBook b')(hb:b'.bodies=b.bodies){head:Int}(h0:(toldR b [head] 0).2=0)(h0':(toldR b' [head] 0).2=0)(hh:0≤head∧head<b.bodies.length){x:ByteArray}(hx:x∈(everR b head).1):x∈(everR b' head).1:=by
 rw[mem_sure h h0 hh]at hx
 rw[mem_sure h' h0' (by rw[hb];exact hh),persons_eq hb]
 refine⟨hx.1,fun t' ht=> ?_⟩
 obtain⟨t,ht2,e⟩:=s.sees hD hb ht
 exact(e _ _).2 (hx.2 t ht2)
theorem Sim.ever_eq(s:Sim b b' D)(s':Sim b' b D)(hD:∀d,0≤d∧d≤364→D d)(h:OkBook b)(h':OkBook b')(hb:b'.bodies=b.bodies){head:Int}(h0:(toldR b [head] 0).2=0)(h0':(toldR b' [head] 0).2=0)(hh:0≤head∧head<b.bodies.length):everR b' head=everR b head:=by
 have hh':0≤head∧head<b'.bodies.length:=by rw[hb];exact hh
 refine Prod.ext (Up.ext ?_ ?_ fun x=>⟨s'.sure hD h' h hb.symm h0' h0 hh',s.sure hD h h' hb h0 h0' hh⟩) (Prod.ext (Up.ext ?_ ?_ fun x=>⟨s.may hD h h' hb h0 h0' hh,s'.may hD h' h hb.symm h0' h0 hh'⟩) ?_)
 ·rw[ever_is h0'];exact(sortU_up _).filter _
 ·rw[ever_is h0];exact(sortU_up _).filter _
 ·rw[ever_is h0'];exact(sortU_up _).filter _
 ·rw[ever_is h0];exact(sortU_up _).filter _
 ·rw[ever_is h0,ever_is h0']
theorem mem_met{x:List Int}:∀ {l met:List (List Int)},x∈l.foldl metN met↔x∈met∨x∈l
 |[],met=>by simp
 |y::l,met=>by
  rw[List.foldl_cons,mem_met,List.mem_cons]
  unfold metN
  split
  ·rename_i q
   obtain⟨z,hz,e⟩:=List.any_eq_true.1 q
   have e:z=y:=by simpa[sameI]using e
   subst e
   constructor
   ·rintro(a|a)
    ·exact .inl a
    ·exact .inr (.inr a)
   ·rintro(a|rfl|a)
    ·exact .inl a
    ·exact .inl hz
    ·exact .inr a
  ·rw[List.mem_append,List.mem_singleton,or_assoc]
theorem met_nodup:∀ {l met:List (List Int)},met.Nodup→(l.foldl metN met).Nodup
 |[],_,h=>h
 |y::l,met,h=>by
  rw[List.foldl_cons]
  refine met_nodup ?_
  unfold metN
  split
  ·exact h
  ·rename_i q
   rw[List.nodup_append]
   refine⟨h,by simp,fun a ha c hc=> ?_⟩
   rw[List.mem_singleton.1 hc]
   intro e
   subst e
   exact q (List.any_eq_true.2 ⟨_,ha,by simp[sameI]⟩)
theorem met_le{l l':List (List Int)}(h:∀x∈l',x∈l):(l'.foldl metN []).length≤(l.foldl metN []).length:=
 nodup_len (met_nodup List.nodup_nil) fun x hx=>by
  rcases mem_met.1 hx with q|q
  ·exact absurd q List.not_mem_nil
  ·exact mem_met.2 (.inr (h x q))
theorem Sim.met(s:Sim b b' D){d:Int}(hd:D d):∀x∈(truthsR b' []).map (fun t=>atR b' t d),x∈(truthsR b []).map fun t=>atR b t d:=fun x hx=>by
 obtain⟨t,ht,rfl⟩:=List.mem_map.1 hx
 obtain⟨u,hu,e⟩:=s t ht
 exact List.mem_map.2 ⟨u,hu,(e d hd).symm⟩
theorem Sim.many(s:Sim b b' D){d:Int}(hd:D d)(h0:(toldR b [] d).2=0)(h0':(toldR b' [] d).2=0):(manyR b' d).1≤(manyR b d).1:=by
 rw[many_is h0,many_is h0']
 have:=met_le (s.met hd)
 simp only;omega
theorem Sim.many_eq(s:Sim b b' D)(s':Sim b' b D){d:Int}(hd:D d)(h0:(toldR b [] d).2=0)(h0':(toldR b' [] d).2=0):manyR b' d=manyR b d:=by
 have h1:=s.many hd h0 h0'
 have h2:=s'.many hd h0' h0
 refine Prod.ext (by omega) ?_
 rw[many_is h0,many_is h0']
end
noncomputable section
theorem sameI_self(l:List Int):sameI l l=true:=by simp[sameI]
theorem sameS_self(l:List ByteArray):sameS l l=true:=by simp[sameS]
end
noncomputable section
def dayR(n:Int):Int:=n.tmod 365
def putR(b:Book)(x:Line)(n:Int):Book:=⟨b.bodies,b.heads,b.lines.take n.toNat++ [x]++b.lines.drop n.toNat⟩
theorem valid_ok{b:Book}(h:validR b=true):OkBook b:=okBook (by simpa[validR]using h)
inductive P41
 |e
inductive R41
 |r0 (r0:Int)
noncomputable def T41(n:Int):P41→Tr P41 R41
 |.e=>(.need (inR .i64 n) (.need (decide ((365:Int)≠0)) (.out (.r0 (n.tmod (365:Int))))))
noncomputable def g41(n:Int):P41→List Item × St
 |.e=>bd Tryz.f41 [.int .u16 n] 5
noncomputable def n41:R41→Exit × St
 |.r0 r0=>(.ret,⟨mk 6 [(2,iI r0)],[],[]⟩)
noncomputable def v41:R41→V
 |.r0 r0=>iI r0
theorem s41(n:Int):Sm 0 (g41 n) (T41 n) (n41)
 |.e=>⟨400,by kernel_rfl⟩
theorem q41:∀r,bodyQ Tryz.prog Tryz.f41 (·=v41 r) (n41 r).1 (n41 r).2
 |.r0 r0=>bq (iI r0) (by kernel_rfl)
theorem w41(n:Int){post:V→Prop}(h:WQ (T41 n) v41 post .e):PC 41 [.int .u16 n] post:=
 PCalls.wq Tryz.func41 (s41 n) q41 h
theorem c41(n:Int)(h:inR .i64 n=true):PC 41 [.int .u16 n] (·=iI (dayR n)):=by
 refine w41 n (WP.step ?_)
 simp only[T41,Go,Ends',v41,Tr.sure,SS]
 repeat' with_reducible first|intro _|apply And.intro
 all_goals simp[h,dayR,Go,Ends',v41,-List.getD_eq_getElem?_getD, *]
noncomputable def o47_1:Array Oper:=(regOf 1 (Tryz.f47.body.getD .skip)).getD #[]
@[reducible] noncomputable def st47_1 (b:Book) (x:Line) (n:Int) (c:Nat→Bool):St:=⟨[.agg (cC b),.agg [iI x.day,iI x.kind,iI x.a,iI x.b,iI x.c,iI x.d,iI x.set],iI n,.ref 0 0 0,.ref 1 0 0,uU,.ref 2 0 0,(bif c 0 then .nils else(uU)),(bif c 1 then .ref 0 0 2 else(uU)),(bif c 2 then tLine.lst b.lines else(uU)),(bif c 3 then iI n else(uU)),(bif c 4 then .list 7 ((n).toNat-((0:Int)).toNat) (fun i j=>rowsOf tLine b.lines (((0:Int)).toNat+i) j)else(uU)),(bif c 8 then uU else(bif c 5 then .row 3 ((n).toNat-((0:Int)).toNat)else(uU))),(bif c 6 then .agg [iI x.day,iI x.kind,iI x.a,iI x.b,iI x.c,iI x.d,iI x.set]else(uU)),(bif c 7 then .list 7 1 (litC 7 1 [iI x.day,iI x.kind,iI x.a,iI x.b,iI x.c,iI x.d,iI x.set])else(uU)),(bif c 8 then .row 3 (((n).toNat-((0:Int)).toNat)+1)else(uU)),(bif c 9 then .ref 0 0 2 else(uU)),(bif c 10 then tLine.lst b.lines else(uU)),(bif c 11 then iI n else(uU)),(bif c 12 then .list 7 (((b.lines.length:Int)).toNat-(n).toNat) (fun i j=>rowsOf tLine b.lines ((n).toNat+i) j)else(uU)),uU,uU,uU],[.cells (cC b),.cells [iI x.day,iI x.kind,iI x.a,iI x.b,iI x.c,iI x.d,iI x.set],.cells [.nils,.nils,.nils],(bif c 8 then .rows 66 7 (((n).toNat-((0:Int)).toNat)+1) (appC ((n).toNat-((0:Int)).toNat) (fun i j=>rowsOf tLine b.lines (((0:Int)).toNat+i) j) (litC 7 1 [iI x.day,iI x.kind,iI x.a,iI x.b,iI x.c,iI x.d,iI x.set]))else(bif c 5 then .rows 66 7 ((n).toNat-((0:Int)).toNat) (fun i j=>rowsOf tLine b.lines (((0:Int)).toNat+i) j)else(.void)))],[]⟩
def t47_1:Tab:=[([],[1,2,3,4,6,7,9,10,11,12]),([],[0,3,6,7,9,10,11,12]),([1],[0,3,6,7,9,10,11,12]),([],[0,1,2,6,7,9,10,11,12]),([1,2,3],[0,6,7,9,10,11,12]),([0,1,2,3,4],[6,7,9,10,11,12]),([],[0,1,2,3,4,5,9,10,11,12]),([6],[0,1,2,3,4,5,9,10,11,12]),([0,1,2,3,4,5,6,7],[9,10,11,12]),([],[0,1,2,3,4,5,6,7,8,11]),([9],[0,1,2,3,4,5,6,7,8,11]),([],[0,1,2,3,4,5,6,7,8,9,10]),([9,10,11],[0,1,2,3,4,5,6,7,8])]
theorem ov47_1(b:Book)(x:Line)(n:Int)(h0:0≤n)(h1:n≤(b.lines.length:Int))(h2:b.lines.length≤1000):AWP Tryz.prog ⟨none,0⟩ (regionOf Tryz.f47 1) ⟨[.agg (cC b),.agg [iI x.day,iI x.kind,iI x.a,iI x.b,iI x.c,iI x.d,iI x.set],iI n,.ref 0 0 0,.ref 1 0 0,uU,.ref 2 0 0,uU,uU,uU,uU,uU,uU,uU,uU,uU,uU,uU,uU,uU,uU,uU,uU],[.cells (cC b),.cells [iI x.day,iI x.kind,iI x.a,iI x.b,iI x.c,iI x.d,iI x.set],.cells [.nils,.nils,.nils]],[]⟩ (fun e T=>e=.normal∧T=⟨[.agg (cC b),.agg [iI x.day,iI x.kind,iI x.a,iI x.b,iI x.c,iI x.d,iI x.set],iI n,.ref 0 0 0,.ref 1 0 0,uU,.ref 2 0 0,.nils,.ref 0 0 2,tLine.lst b.lines,iI n,.list 7 ((n).toNat-((0:Int)).toNat) (fun i j=>rowsOf tLine b.lines (((0:Int)).toNat+i) j),uU,.agg [iI x.day,iI x.kind,iI x.a,iI x.b,iI x.c,iI x.d,iI x.set],.list 7 1 (litC 7 1 [iI x.day,iI x.kind,iI x.a,iI x.b,iI x.c,iI x.d,iI x.set]),uU,.ref 0 0 2,tLine.lst b.lines,iI n,.list 7 (((b.lines.length:Int)).toNat-(n).toNat) (fun i j=>rowsOf tLine b.lines ((n).toNat+i) j),.row 3 ((((n).toNat-((0:Int)).toNat)+1)+(((b.lines.length:Int)).toNat-(n).toNat)),.ref 0 0 2,uU],[.cells [tBody.lst b.bodies,tstr.lst b.heads,.row 3 ((((n).toNat-((0:Int)).toNat)+1)+(((b.lines.length:Int)).toNat-(n).toNat))],.cells [iI x.day,iI x.kind,iI x.a,iI x.b,iI x.c,iI x.d,iI x.set],.cells [.nils,.nils,.nils],.rows 66 7 ((((n).toNat-((0:Int)).toNat)+1)+(((b.lines.length:Int)).toNat-(n).toNat)) (appC (((n).toNat-((0:Int)).toNat)+1) (appC ((n).toNat-((0:Int)).toNat) (fun i j=>rowsOf tLine b.lines (((0:Int)).toNat+i) j) (litC 7 1 [iI x.day,iI x.kind,iI x.a,iI x.b,iI x.c,iI x.d,iI x.set])) (fun i j=>rowsOf tLine b.lines ((n).toNat+i) j))],[]⟩):=by
 refine AWP.region_bits (ops:=o47_1) 13 1 t47_1 mx (st47_1 b x n) (fun z_i z_h c=> ?_) ?_
 ·rcases show z_i=0∨z_i=1∨z_i=2∨z_i=3∨z_i=4∨z_i=5∨z_i=6∨z_i=7∨z_i=8∨z_i=9∨z_i=10∨z_i=11∨z_i=12 by omega with rfl|rfl|rfl|rfl|rfl|rfl|rfl|rfl|rfl|rfl|rfl|rfl|rfl
  ·exact AStep.lt 24 66 0 #[] [iI 0,iI 0,iI 0,iI 0,iI 0,iI 0,iI 0] []
  ·exact AStep.rd true (.ref 0 0 2) rfl
  ·exact AStep.rd true (tLine.lst b.lines) rfl
  ·exact AStep.rd true (iI n) rfl
  ·refine AStep.rd (((decide (0≤(0:Int))&&decide ((0:Int)≤n))&&decide (n≤(b.lines.length:Int)))) (.list 7 ((n).toNat-((0:Int)).toNat) (fun i j=>rowsOf tLine b.lines (((0:Int)).toNat+i) j)) ?_
   first|assumption|rfl|(simp[*];done)|(simp;omega)|(simp only[Bool.and_eq_true,decide_eq_true_eq];omega)
  ·refine AStep.ap0 (.tmp 7) (.tmp 11) 24 66 3 7 ((n).toNat-((0:Int)).toNat) (fun i j=>rowsOf tLine b.lines (((0:Int)).toNat+i) j) [iI 0,iI 0,iI 0,iI 0,iI 0,iI 0,iI 0] ?_ ?_
   ·first|omega|(simp;done)|(simp;omega)
   ·intro r hr j hj;first|(have hj0:j=0:=by omega;subst hj0;rfl)|(rcases show j=0∨j=1∨j=2∨j=3∨j=4∨j=5∨j=6 by omega with rfl|rfl|rfl|rfl|rfl|rfl|rfl<;>rfl)
  ·exact AStep.rd true (.agg [iI x.day,iI x.kind,iI x.a,iI x.b,iI x.c,iI x.d,iI x.set]) rfl
  ·exact AStep.lt 24 66 1 #[(0,.tmp 13)] [iI 0,iI 0,iI 0,iI 0,iI 0,iI 0,iI 0] [iI x.day,iI x.kind,iI x.a,iI x.b,iI x.c,iI x.d,iI x.set]
  ·refine AStep.ap 24 (.tmp 12) (.tmp 14) 3 (.rows 66 7 (((n).toNat-((0:Int)).toNat)+1) (appC ((n).toNat-((0:Int)).toNat) (fun i j=>rowsOf tLine b.lines (((0:Int)).toNat+i) j) (litC 7 1 [iI x.day,iI x.kind,iI x.a,iI x.b,iI x.c,iI x.d,iI x.set]))) ((decide (((n).toNat-((0:Int)).toNat)=((n).toNat-((0:Int)).toNat))&&decide (((n).toNat-((0:Int)).toNat)+1≤4294967296))&&true) (fun _=>true) (.row 3 (((n).toNat-((0:Int)).toNat)+1)) ?_ ?_ ?_
   ·first|(simp;done)|(simp;omega)|(simp[*];done)|(simp[-List.getD_eq_getElem?_getD];omega)
   ·intro r;rfl
   ·simp only[killS,List.map_cons,List.map_nil,killV_bif,killB_bif];kernel_rfl
  ·exact AStep.rd true (.ref 0 0 2) rfl
  ·exact AStep.rd true (tLine.lst b.lines) rfl
  ·exact AStep.rd true (iI n) rfl
  ·refine AStep.rd (((decide (0≤n)&&decide (n≤(b.lines.length:Int)))&&decide ((b.lines.length:Int)≤(b.lines.length:Int)))) (.list 7 (((b.lines.length:Int)).toNat-(n).toNat) (fun i j=>rowsOf tLine b.lines ((n).toNat+i) j)) ?_
   first|assumption|rfl|(simp[*];done)|(simp;omega)|(simp only[Bool.and_eq_true,decide_eq_true_eq];omega)
 ·refine AOps.tree (g:=(.need ((decide ((((n).toNat-((0:Int)).toNat)+1)=(((n).toNat-((0:Int)).toNat)+1))&&decide ((((n).toNat-((0:Int)).toNat)+1)+(((b.lines.length:Int)).toNat-(n).toNat)≤4294967296))&&true) (.scal (fun r=>(List.range 7).all fun j=>((fun i j=>rowsOf tLine b.lines ((n).toNat+i) j) r j).scalar) (.done .normal ⟨[.agg (cC b),.agg [iI x.day,iI x.kind,iI x.a,iI x.b,iI x.c,iI x.d,iI x.set],iI n,.ref 0 0 0,.ref 1 0 0,uU,.ref 2 0 0,.nils,.ref 0 0 2,tLine.lst b.lines,iI n,.list 7 ((n).toNat-((0:Int)).toNat) (fun i j=>rowsOf tLine b.lines (((0:Int)).toNat+i) j),uU,.agg [iI x.day,iI x.kind,iI x.a,iI x.b,iI x.c,iI x.d,iI x.set],.list 7 1 (litC 7 1 [iI x.day,iI x.kind,iI x.a,iI x.b,iI x.c,iI x.d,iI x.set]),uU,.ref 0 0 2,tLine.lst b.lines,iI n,.list 7 (((b.lines.length:Int)).toNat-(n).toNat) (fun i j=>rowsOf tLine b.lines ((n).toNat+i) j),.row 3 ((((n).toNat-((0:Int)).toNat)+1)+(((b.lines.length:Int)).toNat-(n).toNat)),.ref 0 0 2,uU],[.cells [tBody.lst b.bodies,tstr.lst b.heads,.row 3 ((((n).toNat-((0:Int)).toNat)+1)+(((b.lines.length:Int)).toNat-(n).toNat))],.cells [iI x.day,iI x.kind,iI x.a,iI x.b,iI x.c,iI x.d,iI x.set],.cells [.nils,.nils,.nils],.rows 66 7 ((((n).toNat-((0:Int)).toNat)+1)+(((b.lines.length:Int)).toNat-(n).toNat)) (appC (((n).toNat-((0:Int)).toNat)+1) (appC ((n).toNat-((0:Int)).toNat) (fun i j=>rowsOf tLine b.lines (((0:Int)).toNat+i) j) (litC 7 1 [iI x.day,iI x.kind,iI x.a,iI x.b,iI x.c,iI x.d,iI x.set])) (fun i j=>rowsOf tLine b.lines ((n).toNat+i) j))],[]⟩)))) (by kernel_rfl) ?_
  simp only[DT.holds]
  repeat' (first|exact rfl|refine And.intro ?_ ?_)
  all_goals first|(simp;done)|(simp;omega)|(intro r;rfl)
inductive P47
 |e
inductive R47
 |r0 (r0_0:List Body) (r0_1:List ByteArray) (r0_2:List Line)
noncomputable def T47(b:Book)(x:Line)(n:Int):P47→Tr P47 R47
 |.e=>let c3:List V:=[iI x.day,iI x.kind,iI x.a,iI x.b,iI x.c,iI x.d,iI x.set];let c4:=(n).toNat-((0:Int)).toNat;let c1:=(c4+1)+(((b.lines.length:Int)).toNat-(n).toNat);let c2:=(((b.lines.drop (((0:Int)).toNat)).take c4)++ [x])++((b.lines.drop ((n).toNat)).take (((b.lines.length:Int)).toNat-(n).toNat));(.wait 3 (.over (regionOf Tryz.f47 1) ⟨[.agg (cC b),.agg c3,iI n,.ref 0 0 0,.ref 1 0 0,uU,.ref 2 0 0,uU,uU,uU,uU,uU,uU,uU,uU,uU,uU,uU,uU,uU,uU,uU,uU],[.cells (cC b),.cells c3,.cells [.nils,.nils,.nils]],[]⟩ .normal ⟨[.agg (cC b),.agg c3,iI n,.ref 0 0 0,.ref 1 0 0,uU,.ref 2 0 0,.nils,.ref 0 0 2,tLine.lst b.lines,iI n,.list 7 c4 (fun i j=>rowsOf tLine b.lines (((0:Int)).toNat+i) j),uU,.agg c3,.list 7 1 (litC 7 1 c3),uU,.ref 0 0 2,tLine.lst b.lines,iI n,.list 7 (((b.lines.length:Int)).toNat-(n).toNat) (fun i j=>rowsOf tLine b.lines ((n).toNat+i) j),.row 3 c1,.ref 0 0 2,uU],[.cells [tBody.lst b.bodies,tstr.lst b.heads,.row 3 c1],.cells c3,.cells [.nils,.nils,.nils],.rows 66 7 c1 (appC (c4+1) (appC c4 (fun i j=>rowsOf tLine b.lines (((0:Int)).toNat+i) j) (litC 7 1 c3)) (fun i j=>rowsOf tLine b.lines ((n).toNat+i) j))],[]⟩ true (.telb 3 7 c1 (appC (c4+1) (appC c4 (fun i j=>rowsOf tLine b.lines (((0:Int)).toNat+i) j) (litC 7 1 c3)) (fun i j=>rowsOf tLine b.lines ((n).toNat+i) j)) (rowsOf tLine c2) (.wait 1 (.drop ⟨[uU,uU,uU,.nil,uU,uU,.nil,uU,uU,uU,uU,uU,uU,uU,uU,uU,uU,uU,uU,uU,uU,uU,uU],[.void,.void,.void,.void],[]⟩ (.frz 3 (true&&(((decide (c1≤c1))&&true)&&true)) (.telc 0 [tBody.lst b.bodies,tstr.lst b.heads,.list 7 c1 (rowsOf tLine c2)] [tBody.lst b.bodies,tstr.lst b.heads,tLine.lst c2] (.out (.r0 b.bodies b.heads c2)))))))))
noncomputable def g47(b:Book)(x:Line)(n:Int):P47→List Item × St
 |.e=>bd Tryz.f47 [.agg (cC b),.agg [iI x.day,iI x.kind,iI x.a,iI x.b,iI x.c,iI x.d,iI x.set],iI n] 20
noncomputable def n47:R47→Exit × St
 |.r0 r0_0 r0_1 r0_2=>(.ret,⟨mk 23 [(6,.ref 2 0 0)],[.gone,.gone,.cells [tBody.lst r0_0,tstr.lst r0_1,tLine.lst r0_2]],[]⟩)
noncomputable def v47:R47→V
 |.r0 r0_0 r0_1 r0_2=>.agg [tBody.lst r0_0,tstr.lst r0_1,tLine.lst r0_2]
theorem s47(b:Book)(x:Line)(n:Int):Sm 0 (g47 b x n) (T47 b x n) (n47)
 |.e=>⟨400,by kernel_rfl⟩
theorem q47:∀r,bodyQ Tryz.prog Tryz.f47 (·=v47 r) (n47 r).1 (n47 r).2
 |.r0 r0_0 r0_1 r0_2=>bq (.agg [tBody.lst r0_0,tstr.lst r0_1,tLine.lst r0_2]) (by kernel_rfl)
theorem w47(b:Book)(x:Line)(n:Int){post:V→Prop}(h:WQ (T47 b x n) v47 post .e):PC 47 [.agg (cC b),.agg [iI x.day,iI x.kind,iI x.a,iI x.b,iI x.c,iI x.d,iI x.set],iI n] post:=
 PCalls.wq Tryz.func47 (s47 b x n) q47 h
theorem put_lines(b:Book)(n:Int)(x:Line):((b.lines.drop (((0:Int)).toNat)).take ((n).toNat-((0:Int)).toNat))++ [x]++((b.lines.drop ((n).toNat)).take (b.lines.length-(n).toNat))=(putR b x n).lines:=by
 unfold putR
 have e:(b.lines.drop n.toNat).take (b.lines.length-n.toNat)=b.lines.drop n.toNat:=List.take_of_length_le (by simp)
 rw[e];rfl
theorem app_any{τ:Type}(E:Ty τ)(A B:List τ){n w:Nat}(hn:n=A.length){c c2:Nat→Nat→V}(h1:∀i j,i<A.length→j<w→VLe (c i j) (rowsOf E A i j))(h2:∀i j,i<B.length→j<w→VLe (c2 i j) (rowsOf E B i j)){r j:Nat}(hr:r<A.length+B.length)(hj:j<w):VLe (appC n c c2 r j) (rowsOf E (A++B) r j):=by
 subst hn
 unfold appC
 by_cases g:r<A.length
 ·rw[if_pos g]
  have e0:(A++B).getD r E.zero=A.getD r E.zero:=by rw[List.getD_eq_getElem?_getD,List.getElem?_append_left g,←List.getD_eq_getElem?_getD]
  have e:rowsOf E (A++B) r j=rowsOf E A r j:=by unfold rowsOf;rw[e0]
  rw[e];exact h1 r j g hj
 ·rw[if_neg g]
  have e0:(A++B).getD r E.zero=B.getD (r-A.length) E.zero:=by rw[List.getD_eq_getElem?_getD,List.getElem?_append_right (by omega),←List.getD_eq_getElem?_getD]
  have e:rowsOf E (A++B) r j=rowsOf E B (r-A.length) j:=by unfold rowsOf;rw[e0]
  rw[e];exact h2 _ j (by omega) hj
theorem put_rows(b:Book)(x:Line)(n:Int)(h0:0≤n)(h1:n≤(b.lines.length:Int)){r j:Nat}(hr:r<n.toNat-((0:Int)).toNat+1+(b.lines.length-n.toNat))(hj:j<7):
  VLe (appC (n.toNat-((0:Int)).toNat+1) (appC (n.toNat-((0:Int)).toNat) (fun i j=>rowsOf tLine b.lines (((0:Int)).toNat+i) j) (litC 7 1 [iI x.day,iI x.kind,iI x.a,iI x.b,iI x.c,iI x.d,iI x.set])) (fun i j=>rowsOf tLine b.lines (n.toNat+i) j) r j)
   (rowsOf tLine (((b.lines.drop (((0:Int)).toNat)).take ((n).toNat-((0:Int)).toNat))++ [x]++((b.lines.drop ((n).toNat)).take (b.lines.length-(n).toNat))) r j):=by
 have h2:n.toNat≤b.lines.length:=by omega
 rw[put_lines]
 have e:(putR b x n).lines=b.lines.take n.toNat++ [x]++b.lines.drop n.toNat:=rfl
 rw[e]
 have i0:((0:Int)).toNat=0:=rfl
 rw[i0,Nat.sub_zero]at*
 generalize n.toNat=m at*
 have hlen:(b.lines.take m).length=m:=by simp;omega
 have hl2:(b.lines.take m++ [x]).length=m+1:=by simp;omega
 have hl3:(b.lines.drop m).length=b.lines.length-m:=by simp
 refine app_any tLine _ _ (w:=7) hl2.symm (fun i j hi hj=> ?_) (fun i j hi hj=> ?_) (by omega) hj
 ·refine app_any tLine _ _ (w:=7) hlen.symm (fun i j hi hj=> ?_) (fun i j hi hj=>lit_rows tLine [x] rfl rfl (fun _=>rfl) rfl i j hi hj) (by rw[hl2]at hi;rw[hlen];exact hi) hj
  have e:rowsOf tLine (b.lines.take m) i j=rowsOf tLine b.lines (0+i) j:=by
   have e0:(b.lines.take m).getD i tLine.zero=b.lines.getD (0+i) tLine.zero:=by rw[List.getD_eq_getElem?_getD,List.getElem?_take_of_lt (by omega),←List.getD_eq_getElem?_getD,Nat.zero_add]
   unfold rowsOf;rw[e0]
  rw[e];exact VLe.refl _
 ·have e:rowsOf tLine (b.lines.drop m) i j=rowsOf tLine b.lines (m+i) j:=by
   have e0:(b.lines.drop m).getD i tLine.zero=b.lines.getD (m+i) tLine.zero:=by rw[List.getD_eq_getElem?_getD,List.getElem?_drop,←List.getD_eq_getElem?_getD]
   unfold rowsOf;rw[e0]
  rw[e];exact VLe.refl _
theorem put_at(b:Book)(x:Line)(n:Int)(h0:0≤n)(h1:n≤(b.lines.length:Int))(j:Nat):VLe (([tBody.lst b.bodies,tstr.lst b.heads,.list 7 (n.toNat-((0:Int)).toNat+1+(b.lines.length-n.toNat)) (rowsOf tLine (((b.lines.drop (((0:Int)).toNat)).take ((n).toNat-((0:Int)).toNat))++ [x]++((b.lines.drop ((n).toNat)).take (b.lines.length-(n).toNat))))]:List V).getD j uU)
  (([tBody.lst b.bodies,tstr.lst b.heads,tLine.lst (((b.lines.drop (((0:Int)).toNat)).take ((n).toNat-((0:Int)).toNat))++ [x]++((b.lines.drop ((n).toNat)).take (b.lines.length-(n).toNat)))]:List V).getD j uU):=by
 refine VLe.at ?_ [tBody.lst b.bodies,tstr.lst b.heads] [] j
 have:n.toNat-((0:Int)).toNat+1+(b.lines.length-n.toNat)=(((b.lines.drop (((0:Int)).toNat)).take ((n).toNat-((0:Int)).toNat))++ [x]++((b.lines.drop ((n).toNat)).take (b.lines.length-(n).toNat))).length:=by
  have i0:((0:Int)).toNat=0:=rfl
  rw[i0];simp;omega
 rw[this];exact VLe.refl _
theorem c47(b:Book)(x:Line)(n:Int)(h0:0≤n)(h1:n≤(b.lines.length:Int))(h2:b.lines.length≤1000):PC 47 [.agg (tBook.cells b),.agg (tLine.cells x),iI n] (·=.agg (tBook.cells (putR b x n))):=by
 refine w47 b x n (WP.step ?_)
 simp only[T47,Go,Ends',v47,Tr.sure,SS]
 repeat' with_reducible first|intro _|apply And.intro
 all_goals first|exact(ov47_1 b x n h0 h1 h2)|(simp[Go,Ends',v47,-List.getD_eq_getElem?_getD, *];done)|skip
 all_goals first
  |exact put_rows b x n h0 h1 (by assumption) (by assumption)
  |exact put_at b x n h0 h1 _
  |(rw[put_lines];rfl)
end
noncomputable section
theorem which_in{w:Int}{n:Nat}(hw:0≤w)(hn:0<n):0≤w.tmod (n:Int)∧w.tmod (n:Int)<(n:Int):=by
 rw[Int.tmod_eq_emod_of_nonneg hw]
 exact⟨Int.emod_nonneg _ (by omega),Int.emod_lt_of_pos _ (by omega)⟩
theorem day_in{w:Int}(hw:0≤w):0≤dayR w∧dayR w≤364:=by
 have:=which_in (n:=365) hw (by decide)
 unfold dayR
 have e:((365:Nat):Int)=365:=rfl
 rw[e]at this
 omega
theorem where_bad{b:Book}{n d:Int}(h:(toldR b [n] d).2≠0):whereR b n d=([],(toldR b [n] d).2):=by unfold whereR;rw[if_pos h]
theorem many_bad{b:Book}{d:Int}(h:(toldR b [] d).2≠0):manyR b d=(0,(toldR b [] d).2):=by unfold manyR;rw[if_pos h]
theorem ever_bad{b:Book}{n:Int}(h:(toldR b [n] 0).2≠0):everR b n=([],[],(toldR b [n] 0).2):=by unfold everR;rw[if_pos h]
end
noncomputable section
def isSome2(x:Line):Bool:=decide (x.kind=2)
structure OkLs(n:Nat)(l:List Line):Prop where
 len:l.length≤8
 ok:∀x∈l,OkLine n x
 srt:Sorted l
 some:l.countP isSome2≤2
theorem someTo_count(l:List Line):∀n,n≤l.length→someTo l n=((l.take n).countP isSome2:Int)
 |0,_=>by simp[someTo,natF]
 |n+1,hn=>by
  have e:someTo l (n+1)=if(l.getD n zLine).kind=2 then someTo l n+1 else someTo l n:=rfl
  rw[e,someTo_count l n (by omega),take_snoc zLine l n hn,List.countP_append,List.countP_singleton]
  unfold isSome2
  by_cases q:(l.getD n zLine).kind=2
  ·rw[if_pos q,if_pos (decide_eq_true q)];omega
  ·rw[if_neg q,if_neg (by simpa using q)];omega
theorem okLs{b:Book}(h:OkBook b):OkLs b.bodies.length b.lines:=by
 refine⟨h.nl,fun x hx=> ?_,h.sorted,?_⟩
 ·obtain⟨i,hi,rfl⟩:=mem_getD zLine hx;exact h.line hi
 ·have key:∀n,n≤b.lines.length→someTo b.lines n≤2:=by
   intro n
   induction n with
   |zero=>intro _;show(0:Int)≤2;decide
   |succ n ih=>
    intro hn
    have e:someTo b.lines (n+1)=if(b.lines.getD n zLine).kind=2 then someTo b.lines n+1 else someTo b.lines n:=rfl
    by_cases q:(b.lines.getD n zLine).kind=2
    ·exact(line_iff.1 (h.lineE n (by omega))).2.2 q
    ·rw[e,if_neg q];exact ih (by omega)
  have:=key _ (Nat.le_refl _)
  rw[someTo_count _ _ (Nat.le_refl _),List.take_length]at this
  omega
theorem okBook_of{b b':Book}(h:OkBook b)(hb:b'.bodies=b.bodies)(hh:b'.heads=b.heads)(hl:OkLs b.bodies.length b'.lines):OkBook b':=by
 refine⟨by rw[hb];exact h.nb,by rw[hb,hh];exact h.nh,hl.len,?_,?_,fun i hi=> ?_⟩
 ·rw[hb];exact h.body
 ·rw[hh];exact h.head
 ·refine line_iff.2 ⟨by rw[hb];exact hl.ok _ (getD_mem zLine _ i hi),fun h0=> ?_,fun _=> ?_⟩
  ·rw[List.getD_eq_getElem?_getD,List.getD_eq_getElem?_getD,List.getElem?_eq_getElem hi,List.getElem?_eq_getElem (by omega)]
   exact List.pairwise_iff_getElem.1 hl.srt (i-1) i (by omega) hi (by omega)
  ·rw[someTo_count _ _ (by omega)]
   have h1:=List.Sublist.countP_le (p:=isSome2) (List.take_sublist (i+1) b'.lines)
   have h2:=hl.some
   omega
theorem sorted_ins{A B:List Line}{x:Line}(h:Sorted (A++B))(hA:∀a∈A,a.day≤x.day)(hB:∀y∈B,x.day≤y.day):Sorted (A++x::B):=by
 obtain⟨h1,h2,h3⟩:=List.pairwise_append.1 h
 refine List.pairwise_append.2 ⟨h1,List.pairwise_cons.2 ⟨hB,h2⟩,fun a ha y hy=> ?_⟩
 rcases List.mem_cons.1 hy with rfl|q
 ·exact hA a ha
 ·exact h3 a ha y q
theorem OkLs.ins{n:Nat}{A B:List Line}{x:Line}(h:OkLs n (A++B))(hx:OkLine n x)(hk:x.kind≠2)(hl:(A++B).length+1≤8)(hA:∀a∈A,a.day≤x.day)(hB:∀y∈B,x.day≤y.day):OkLs n (A++x::B):=by
 refine⟨by simp at hl⊢;omega,fun y hy=> ?_,sorted_ins h.srt hA hB,?_⟩
 ·rcases List.mem_append.1 hy with q|q
  ·exact h.ok y (List.mem_append_left _ q)
  ·rcases List.mem_cons.1 q with rfl|q
   ·exact hx
   ·exact h.ok y (List.mem_append_right _ q)
 ·have:=h.some
  rw[List.countP_append]at this⊢
  have e:(x::B).countP isSome2=B.countP isSome2:=List.countP_cons_of_neg (by unfold isSome2;simpa using hk)
  rw[e];exact this
theorem same_law{b b':Book}(h:OkBook b)(h':OkBook b')(hb:b'.bodies=b.bodies)(s:Sim b b' fun _=>True)(s':Sim b' b fun _=>True){H d:Int}(hh:0≤H∧H<b.bodies.length)(hd:0≤d∧d≤364):whereR b' H d=whereR b H d∧manyR b' d=manyR b d∧everR b' H=everR b H:=by
 have hh':0≤H∧H<b'.bodies.length:=by rw[hb];exact hh
 have hd0:(0:Int)≤0∧(0:Int)≤364:=by decide
 by_cases ht:(truthsR b []).length=0
 ·have ht':(truthsR b' []).length=0:=by
   by_cases q:(truthsR b' []).length=0
   ·exact q
   ·have:=s.pos (by omega);omega
  have e1:=told_eight h (one_in hh) hd ht
  have e1':=told_eight h' (one_in hh') hd ht'
  have e2:=told_eight h (ns:=[]) (by simp) hd ht
  have e2':=told_eight h' (ns:=[]) (by simp) hd ht'
  have e3:=told_eight h (one_in hh) hd0 ht
  have e3':=told_eight h' (one_in hh') hd0 ht'
  have w1:=where_bad (b:=b) (n:=H) (d:=d) (by rw[e1];decide)
  have w1':=where_bad (b:=b') (n:=H) (d:=d) (by rw[e1'];decide)
  have w2:=many_bad (b:=b) (d:=d) (by rw[e2];decide)
  have w2':=many_bad (b:=b') (d:=d) (by rw[e2'];decide)
  have w3:=ever_bad (b:=b) (n:=H) (by rw[e3];decide)
  have w3':=ever_bad (b:=b') (n:=H) (by rw[e3'];decide)
  exact⟨by rw[w1,w1',e1,e1'],by rw[w2,w2',e2,e2'],by rw[w3,w3',e3,e3']⟩
 ·have ht':=s'.pos (by omega:0<(truthsR b []).length)
  have z1:=told_zero h (one_in hh) hd (by omega)
  have z1':=told_zero h' (one_in hh') hd ht'
  have z2:=told_zero h (ns:=[]) (by simp) hd (by omega)
  have z2':=told_zero h' (ns:=[]) (by simp) hd ht'
  have z3:=told_zero h (one_in hh) hd0 (by omega)
  have z3':=told_zero h' (one_in hh') hd0 ht'
  exact⟨s.where_eq s' hb trivial z1 z1',s.many_eq s' trivial z2 z2',s.ever_eq s' (fun _ _=>trivial) h h' hb z3 z3' hh⟩
def pB(b:Book)(x:Nat→Int):Int:=(x 0).tmod (b.bodies.length:Int)
def qB(b:Book)(x:Nat→Int):Int:=((pB b x+1)+((x 1).tmod ((b.bodies.length:Int)-1))).tmod (b.bodies.length:Int)
def aB(b:Book)(x:Nat→Int):Int:=(x 2).tmod ((b.lines.length:Int)+1)
def wB(b:Book)(x:Nat→Int):Int:=(b.lines.getD (aB b x-1).toNat zLine).day
def lB(b:Book)(x:Nat→Int)(w:Int):Line:=⟨w,0,pB b x,qB b x,0,0,0⟩
def nB(b:Book)(x:Nat→Int)(w:Int):Book:=putR b (lB b x w) (aB b x)
def mB(b:Book)(x:Nat→Int)(w:Int):Book:=putR (nB b x w) (lB b x w) (aB b x)
def hB(b:Book)(y:Nat→Int):Int:=(y 0).tmod (b.heads.length:Int)
def dB(y:Nat→Int):Int:=dayR (y 1)
inductive P14
 |e
inductive R14
 |r0 (r0:Bool)
noncomputable def T14(b:Book)(x:Nat→Int)(y:Nat→Int):P14→Tr P14 R14
 |.e=>let c2:=((decide (0≤(0:Int))&&decide ((0:Int)<(2:Int)))&&((decide (((0:Int)).toNat<2)&&decide (0<1))&&((inR .i64 (y (((0:Int)).toNat)))&&((decide ((b.heads.length:Int)≠0))&&((decide (0≤(1:Int))&&decide ((1:Int)<(2:Int)))&&((decide (((1:Int)).toNat<2)&&decide (0<1))&&true))))))&&true;let c3:=mB b x (wB b x);let c4:=everR b (hB b y);let c5:=whereR b (hB b y) (dB y);let c6:=everR (mB b x 0) (hB b y);let c7:Tr P14 R14:=.call 21 [] (.bool true) true true (.out (.r0 true));let c8:=whereR (mB b x 0) (hB b y) (dB y);let c9:=everR c3 (hB b y);let c10:=whereR c3 (hB b y) (dB y);let c11:=(b.bodies.length:Int);let c12:=tBook.cells b;let c13:=manyR b (dB y);let c14:Tr P14 R14:=.lit false (.out (.r0 false));let c1:Tr P14 R14:=.lit false (.lit false c14);let c15:=(b.lines.length:Int);let c16:Tr P14 R14:=.lit false (.lit false c1);let c17:=manyR (mB b x 0) (dB y);let c18:=tBook.cells (mB b x 0);let c19:V:=.tuple [tstr.lst (c4.1),tstr.lst (c4.2.1),iI (c4.2.2)];let c20:=((1:Int)).toNat;let c21:=manyR c3 (dB y);let c22:=tBook.cells c3;let c23:=(aB b x)-(1:Int);let c24:V:=.tuple [tint.lst (c5.1),iI (c5.2)];let c25:List V:=[.agg c12,iI (hB b y),iI (dB y)];let c26:V:=.tuple [iI (c13.1),iI (c13.2)];let c27:=tLine.cells (lB b x (wB b x));let c28:=tBook.cells (nB b x (wB b x));let c29:=c11-(1:Int);(.call 39 [.agg c12] (.bool (validR b)) true true (.br (!(validR b)) (.lit true (.lit true c7)) (.br (decide (c11<(2:Int))) (.lit true c7) (.need (inR .i64 (c15+(2:Int))) (.br (decide ((c15+(2:Int))>(8:Int))) c7 (.need (decide (0≤(0:Int))&&decide ((0:Int)<(3:Int))) (.need (decide (((0:Int)).toNat<3)&&decide (0<1)) (.need (inR .i64 (x (((0:Int)).toNat))) (.need (decide (c11≠0)) (.front [] [] (((inR .i64 ((pB b x)+(1:Int)))&&((decide (0≤(1:Int))&&decide ((1:Int)<(3:Int)))&&((decide (((1:Int)).toNat<3)&&decide (0<1))&&((inR .i64 (x c20))&&((inR .i64 c29)&&((decide (c29≠0))&&((inR .i64 (((pB b x)+(1:Int))+((x c20).tmod c29)))&&((decide (c11≠0))&&true))))))))&&true) true (.need (decide (0≤(2:Int))&&decide ((2:Int)<(3:Int))) (.need (decide (((2:Int)).toNat<3)&&decide (0<1)) (.need (inR .i64 (x (((2:Int)).toNat))) (.need (inR .i64 (c15+(1:Int))) (.need (decide ((c15+(1:Int))≠0)) (.br (decide ((aB b x)>(0:Int))) (.need (inR .i64 c23) (.need (decide (0≤c23)&&decide (c23<c15)) (.front [(3,47,[.agg c12,.agg c27,iI (aB b x)],.agg c28),(6,47,[.agg c28,.agg c27,iI (aB b x)],.agg c22)] [] true true (.front [(9,41,[.int .u16 (y c20)],iI (dB y))] [] c2 true (.call 22 c25 c24 true true (.call 22 [.agg c22,iI (hB b y),iI (dB y)] (.tuple [tint.lst (c10.1),iI (c10.2)]) true true (.call 27 [.agg c12,iI (dB y)] c26 true true (.call 27 [.agg c22,iI (dB y)] (.tuple [iI (c21.1),iI (c21.2)]) true true (.call 32 [.agg c12,iI (hB b y)] c19 true true (.call 32 [.agg c22,iI (hB b y)] (.tuple [tstr.lst (c9.1),tstr.lst (c9.2.1),iI (c9.2.2)]) true true (.call 24 [tint.lst (c5.1),tint.lst (c10.1)] (.bool (sameI (c5.1) (c10.1))) true true (.br (sameI (c5.1) (c10.1)) (.br (c5.2==c10.2) (.br (c13.1==c21.1) (.br (c13.2==c21.2) (.call 31 [tstr.lst (c4.1),tstr.lst (c9.1)] (.bool (sameS (c4.1) (c9.1))) true true (.br (sameS (c4.1) (c9.1)) (.call 31 [tstr.lst (c4.2.1),tstr.lst (c9.2.1)] (.bool (sameS (c4.2.1) (c9.2.1))) true true (.br (sameS (c4.2.1) (c9.2.1)) (.br (c4.2.2==c9.2.2) c7 (.out (.r0 false))) c14)) (.lit false c14))) c1) (.lit false c1)) c16) (.lit false c16))))))))))))) (.front [(3,47,[.agg c12,.agg (tLine.cells (lB b x 0)),iI (aB b x)],.agg (tBook.cells (nB b x 0))),(6,47,[.agg (tBook.cells (nB b x 0)),.agg (tLine.cells (lB b x 0)),iI (aB b x)],.agg c18)] [] true true (.front [(9,41,[.int .u16 (y c20)],iI (dB y))] [] c2 true (.call 22 c25 c24 true true (.call 22 [.agg c18,iI (hB b y),iI (dB y)] (.tuple [tint.lst (c8.1),iI (c8.2)]) true true (.call 27 [.agg c12,iI (dB y)] c26 true true (.call 27 [.agg c18,iI (dB y)] (.tuple [iI (c17.1),iI (c17.2)]) true true (.call 32 [.agg c12,iI (hB b y)] c19 true true (.call 32 [.agg c18,iI (hB b y)] (.tuple [tstr.lst (c6.1),tstr.lst (c6.2.1),iI (c6.2.2)]) true true (.call 24 [tint.lst (c5.1),tint.lst (c8.1)] (.bool (sameI (c5.1) (c8.1))) true true (.br (sameI (c5.1) (c8.1)) (.br (c5.2==c8.2) (.br (c13.1==c17.1) (.br (c13.2==c17.2) (.call 31 [tstr.lst (c4.1),tstr.lst (c6.1)] (.bool (sameS (c4.1) (c6.1))) true true (.br (sameS (c4.1) (c6.1)) (.call 31 [tstr.lst (c4.2.1),tstr.lst (c6.2.1)] (.bool (sameS (c4.2.1) (c6.2.1))) true true (.br (sameS (c4.2.1) (c6.2.1)) (.br (c4.2.2==c6.2.2) c7 (.out (.r0 false))) c14)) (.lit false c14))) c1) (.lit false c1)) c16) (.lit false c16)))))))))))))))))))))))))))
noncomputable def g14(b:Book)(x:Nat→Int)(y:Nat→Int):P14→List Item × St
 |.e=>bd Tryz.f14 [.agg (tBook.cells b),.arr 1 3 (rowsFn tu8 x),.arr 1 2 (rowsFn tu16 y)] 179
noncomputable def n14:R14→Exit × St
 |.r0 r0=>(.ret,⟨mk 182 [(6,.bool r0)],[],[]⟩)
noncomputable def v14:R14→V
 |.r0 r0=>.bool r0
theorem s14(b:Book)(x:Nat→Int)(y:Nat→Int):Sm 0 (g14 b x y) (T14 b x y) (n14)
 |.e=>⟨400,by kernel_rfl⟩
theorem q14:∀r,bodyQ Tryz.prog Tryz.f14 (·=v14 r) (n14 r).1 (n14 r).2
 |.r0 r0=>bq (.bool r0) (by kernel_rfl)
theorem w14(b:Book)(x:Nat→Int)(y:Nat→Int){post:V→Prop}(h:WQ (T14 b x y) v14 post .e):PC 14 [.agg (tBook.cells b),.arr 1 3 (rowsFn tu8 x),.arr 1 2 (rowsFn tu16 y)] post:=
 PCalls.wq Tryz.func14 (s14 b x y) q14 h
structure Two(b:Book)(x:Nat→Int)(w:Int):Prop where
 p:0≤pB b x∧pB b x<b.bodies.length
 q:0≤qB b x∧qB b x<b.bodies.length
 ne:pB b x≠qB b x
 a:0≤aB b x∧aB b x≤b.lines.length
 lo:∀y∈b.lines.take (aB b x).toNat,y.day≤w
 hi:∀y∈b.lines.drop (aB b x).toNat,w≤y.day
 w:0≤w∧w≤364
theorem mod_ne{p r n:Int}(hp:0≤p∧p<n)(hr:0≤r∧r<n-1):p≠(p+1+r).tmod n:=by
 rw[Int.tmod_eq_emod_of_nonneg (by omega)]
 by_cases h:p+1+r<n
 ·rw[Int.emod_eq_of_lt (by omega) h];omega
 ·have:(p+1+r)%n=p+1+r-n:=by
   have e:p+1+r=(p+1+r-n)+n*1:=by omega
   rw[e,Int.add_mul_emod_self_left,Int.emod_eq_of_lt (by omega) (by omega)];omega
  omega
theorem two_base{b:Book}{x:Nat→Int}(hx:∀i,i<3→0≤x i∧x i≤255)(h2:2≤b.bodies.length):(0≤pB b x∧pB b x<b.bodies.length)∧(0≤qB b x∧qB b x<b.bodies.length)∧pB b x≠qB b x∧(0≤aB b x∧aB b x≤b.lines.length)∧0≤(x 1).tmod ((b.bodies.length:Int)-1)∧(x 1).tmod ((b.bodies.length:Int)-1)<(b.bodies.length:Int)-1:=by
 have x0:=hx 0 (by omega)
 have x1:=hx 1 (by omega)
 have x2:=hx 2 (by omega)
 have hp:=which_in (n:=b.bodies.length) x0.1 (by omega)
 have hr:=which_in (w:=x 1) (n:=b.bodies.length-1) x1.1 (by omega)
 have ha:=which_in (w:=x 2) (n:=b.lines.length+1) x2.1 (by omega)
 have e1:((b.bodies.length-1:Nat):Int)=(b.bodies.length:Int)-1:=by omega
 have e2:((b.lines.length+1:Nat):Int)=(b.lines.length:Int)+1:=by omega
 rw[e1]at hr
 rw[e2]at ha
 unfold pB aB qB
 refine⟨hp,which_in (by unfold pB;omega) (by omega),mod_ne hp hr,by omega,hr⟩
theorem two_later{b:Book}(h:OkBook b){x:Nat→Int}(hx:∀i,i<3→0≤x i∧x i≤255)(h2:2≤b.bodies.length)(ha:0<aB b x):Two b x (wB b x):=by
 obtain⟨p1,p2,p3,p4,-,-⟩:=two_base hx h2
 have hlt:(aB b x-1).toNat<b.lines.length:=by omega
 have hd:=(h.line hlt).day
 refine⟨p1,p2,p3,p4,fun y hy=> ?_,fun y hy=> ?_,hd⟩
 ·obtain⟨i,hi,rfl⟩:=List.getElem_of_mem hy
  rw[List.length_take]at hi
  rw[List.getElem_take]
  have:=days_mono h ((aB b x-1).toNat-i) i (by omega)
  rw[show i+((aB b x-1).toNat-i)=(aB b x-1).toNat by omega]at this
  rw[List.getD_eq_getElem?_getD,List.getElem?_eq_getElem (by omega)]at this
  exact this
 ·obtain⟨i,hi,rfl⟩:=List.getElem_of_mem hy
  rw[List.length_drop]at hi
  rw[List.getElem_drop]
  have:=days_mono h ((aB b x).toNat+i-(aB b x-1).toNat) (aB b x-1).toNat (by omega)
  rw[show(aB b x-1).toNat+((aB b x).toNat+i-(aB b x-1).toNat)=(aB b x).toNat+i by omega]at this
  rw[List.getD_eq_getElem?_getD (i:=(aB b x).toNat+i),List.getElem?_eq_getElem (by omega)]at this
  exact this
theorem two_first{b:Book}(h:OkBook b){x:Nat→Int}(hx:∀i,i<3→0≤x i∧x i≤255)(h2:2≤b.bodies.length)(ha:¬0<aB b x):Two b x 0:=by
 obtain⟨p1,p2,p3,p4,-,-⟩:=two_base hx h2
 have e:(aB b x).toNat=0:=by omega
 refine⟨p1,p2,p3,p4,fun y hy=> ?_,fun y hy=> ?_,by decide⟩
 ·rw[e]at hy;simp at hy
 ·obtain⟨i,hi,rfl⟩:=mem_getD zLine (List.mem_of_mem_drop hy)
  exact(h.line hi).day.1
theorem back_law{b:Book}(h:OkBook b){x:Nat→Int}{w:Int}(hl:b.lines.length+2≤8)(t:Two b x w){H d:Int}(hh:0≤H∧H<b.bodies.length)(hd:0≤d∧d≤364):whereR (mB b x w) H d=whereR b H d∧manyR (mB b x w) d=manyR b d∧everR (mB b x w) H=everR b H:=by
 obtain⟨t1,t2,t3,t4,t5,t6,t7⟩:=t
 have e:b.lines=b.lines.take (aB b x).toNat++b.lines.drop (aB b x).toNat:=(List.take_append_drop _ _).symm
 have hlen:(b.lines.take (aB b x).toNat).length=(aB b x).toNat:=by rw[List.length_take];omega
 have en:(nB b x w).lines=b.lines.take (aB b x).toNat++ [lB b x w]++b.lines.drop (aB b x).toNat:=rfl
 have e':(mB b x w).lines=b.lines.take (aB b x).toNat++lB b x w::lB b x w::b.lines.drop (aB b x).toNat:=by
  have:(mB b x w).lines=(nB b x w).lines.take (aB b x).toNat++ [lB b x w]++(nB b x w).lines.drop (aB b x).toNat:=rfl
  rw[this,en,List.append_assoc,List.append_assoc,List.take_append_of_le_length (by omega),List.drop_append_of_le_length (by omega),List.take_of_length_le (by omega),List.drop_of_length_le (by omega)]
  simp
 have hx:OkLine b.bodies.length (lB b x w):=by
  refine⟨t7,by unfold lB;simp,fun _=>⟨t1,t2⟩,fun q=>absurd q (show¬(0:Int)=1 by decide),fun _=>t3,fun q=>absurd q (show¬(0:Int)=2 by decide),fun _=>rfl,fun _ _=>⟨rfl,rfl⟩⟩
 have hls:=okLs h
 rw[e]at hls
 have hle:(b.lines.take (aB b x).toNat++b.lines.drop (aB b x).toNat).length=b.lines.length:=by rw[←e]
 have l1:=hls.ins (x:=lB b x w) hx (by unfold lB;simp) (by omega) t5 t6
 have l2:=l1.ins (x:=lB b x w) hx (by unfold lB;simp) (by rw[List.length_append,List.length_cons];rw[List.length_append]at hle;omega) t5 (fun y hy=>by
  rcases List.mem_cons.1 hy with rfl|q
  ·exact Int.le_refl _
  ·exact t6 y q)
 have h':OkBook (mB b x w):=okBook_of (b:=b) h rfl rfl (by rw[e'];exact l2)
 obtain⟨s,s'⟩:=sim_back (b:=b) (b':=mB b x w) h h' rfl e e' (by rfl)
 exact same_law h h' rfl s s' hh hd
set_option maxHeartbeats 4000000 in
theorem c14(b:Book)(x y:Nat→Int)(hx:∀i,i<3→0≤x i∧x i≤255)(hy:∀i,i<2→0≤y i∧y i≤65535):PC 14 [.agg (tBook.cells b),.arr 1 3 (rowsFn tu8 x),.arr 1 2 (rowsFn tu16 y)] (·=.bool true):=by
 have x0:=hx 0 (by omega)
 have x1:=hx 1 (by omega)
 have x2:=hx 2 (by omega)
 have y0:=hy 0 (by omega)
 have y1:=hy 1 (by omega)
 have r0:inR .i64 (x 0)=true:=inR64 (by omega) (by omega)
 have r1:inR .i64 (x 1)=true:=inR64 (by omega) (by omega)
 have r2:inR .i64 (x 2)=true:=inR64 (by omega) (by omega)
 have q0:inR .i64 (y 0)=true:=inR64 (by omega) (by omega)
 have q1:inR .i64 (y 1)=true:=inR64 (by omega) (by omega)
 have k41:PC 41 [.int .u16 (y 1)] (·=iI (dB y)):=c41 (y 1) q1
 have k39:=c39 b
 by_cases hv:validR b=true
 ·have hok:=valid_ok hv
  rw[hv]at k39
  have hnb:=hok.nb
  have hnh:=hok.nh
  have hnl:=hok.nl
  have r3:inR .i64 ((b.lines.length:Int)+2)=true:=inR64 (by omega) (by omega)
  by_cases hz:b.bodies.length<2
  ·have hz':((b.bodies.length:Int)<2):=by omega
   refine w14 b x y (WP.step ?_)
   simp only[T14,Go,Ends',v14,Tr.sure,SS,hv,hz']
   repeat' with_reducible first|intro _|apply And.intro
   all_goals first|exact k39|exact c21
  ·have hz':¬((b.bodies.length:Int)<2):=by omega
   by_cases hl:b.lines.length+2≤8
   ·have hl':¬((b.lines.length:Int)+2>8):=by omega
    have z1:¬(b.bodies.length:Int)=0:=by omega
    have z2:¬(b.bodies.length:Int)-1=0:=by omega
    have z3:¬(b.lines.length:Int)+1=0:=by omega
    have z4:¬(b.heads.length:Int)=0:=by omega
    obtain⟨p1,p2,p3,p4,p5,p6⟩:=two_base hx (by omega:2≤b.bodies.length)
    have r4:inR .i64 (pB b x+1)=true:=inR64 (by omega) (by omega)
    have r5:inR .i64 ((b.bodies.length:Int)-1)=true:=inR64 (by omega) (by omega)
    have r6:inR .i64 (pB b x+1+(x 1).tmod ((b.bodies.length:Int)-1))=true:=inR64 (by omega) (by omega)
    have r7:inR .i64 ((b.lines.length:Int)+1)=true:=inR64 (by omega) (by omega)
    have r8:inR .i64 (aB b x-1)=true:=inR64 (by omega) (by omega)
    have hH:0≤hB b y∧hB b y<b.bodies.length:=by have:=which_in (n:=b.heads.length) y0.1 (by omega);rw[hnh]at this;unfold hB;rw[hnh];exact this
    have hD:0≤dB y∧dB y≤364:=day_in y1.1
    have k22:=c22 b (hB b y) (dB y)
    have k27:=c27 b (dB y)
    have k32:=c32 b (hB b y)
    by_cases ha:0<aB b x
    ·have ha':aB b x>0:=ha
     have g1:0≤aB b x-1:=by omega
     have g2:aB b x-1<b.lines.length:=by omega
     have t:=two_later hok hx (by omega) ha
     obtain⟨w1,w2,w3⟩:=back_law hok hl t hH hD
     have k47:PC 47 [.agg (tBook.cells b),.agg (tLine.cells (lB b x (wB b x))),iI (aB b x)] (·=.agg (tBook.cells (nB b x (wB b x)))):=c47 b _ _ p4.1 p4.2 (by omega)
     have k47b:PC 47 [.agg (tBook.cells (nB b x (wB b x))),.agg (tLine.cells (lB b x (wB b x))),iI (aB b x)] (·=.agg (tBook.cells (mB b x (wB b x)))):=c47 (nB b x (wB b x)) _ _ p4.1 (by unfold nB putR;simp;omega) (by unfold nB putR;simp;omega)
     have k22m:=c22 (mB b x (wB b x)) (hB b y) (dB y)
     have k27m:=c27 (mB b x (wB b x)) (dB y)
     have k32m:=c32 (mB b x (wB b x)) (hB b y)
     rw[w1]at k22m
     rw[w2]at k27m
     rw[w3]at k32m
     clear t
     refine w14 b x y (WP.step ?_)
     simp only[T14,Go,Ends',v14,Tr.sure,SS,hv,hz',hl',ha',i0,i1,i2,w1,w2,w3]
     repeat' with_reducible first|intro _|apply And.intro
     all_goals first|exact k39|exact k22|exact k27|exact k32|exact k41|exact k47|exact k47b|exact k22m|exact k27m|exact k32m|exact(c24 _ _)|exact(c31 _ _)|exact c21|(simp[r0,r1,r2,r3,r4,r5,r6,r7,r8,q0,q1,z1,z2,z3,z4,g1,g2,sameI_self,sameS_self,Go,Ends',v14,-List.getD_eq_getElem?_getD, *];done)|(simp_all [r0,r1,r2,r3,r4,r5,r6,r7,r8,q0,q1,z1,z2,z3,z4,g1,g2,sameI_self,sameS_self,Go,Ends',v14,-List.getD_eq_getElem?_getD];done)
    ·have ha':¬aB b x>0:=ha
     have t:=two_first hok hx (by omega) ha
     obtain⟨w1,w2,w3⟩:=back_law hok hl t hH hD
     have k47:PC 47 [.agg (tBook.cells b),.agg (tLine.cells (lB b x 0)),iI (aB b x)] (·=.agg (tBook.cells (nB b x 0))):=c47 b _ _ p4.1 p4.2 (by omega)
     have k47b:PC 47 [.agg (tBook.cells (nB b x 0)),.agg (tLine.cells (lB b x 0)),iI (aB b x)] (·=.agg (tBook.cells (mB b x 0))):=c47 (nB b x 0) _ _ p4.1 (by unfold nB putR;simp;omega) (by unfold nB putR;simp;omega)
     have k22m:=c22 (mB b x 0) (hB b y) (dB y)
     have k27m:=c27 (mB b x 0) (dB y)
     have k32m:=c32 (mB b x 0) (hB b y)
     rw[w1]at k22m
     rw[w2]at k27m
     rw[w3]at k32m
     clear t
     refine w14 b x y (WP.step ?_)
     simp only[T14,Go,Ends',v14,Tr.sure,SS,hv,hz',hl',ha',i0,i1,i2,w1,w2,w3]
     repeat' with_reducible first|intro _|apply And.intro
     all_goals first|exact k39|exact k22|exact k27|exact k32|exact k41|exact k47|exact k47b|exact k22m|exact k27m|exact k32m|exact(c24 _ _)|exact(c31 _ _)|exact c21|(simp[r0,r1,r2,r3,r4,r5,r6,r7,r8,q0,q1,z1,z2,z3,z4,sameI_self,sameS_self,Go,Ends',v14,-List.getD_eq_getElem?_getD, *];done)|(simp_all [r0,r1,r2,r3,r4,r5,r6,r7,r8,q0,q1,z1,z2,z3,z4,sameI_self,sameS_self,Go,Ends',v14,-List.getD_eq_getElem?_getD];done)
   ·have hl':(b.lines.length:Int)+2>8:=by omega
    refine w14 b x y (WP.step ?_)
    simp only[T14,Go,Ends',v14,Tr.sure,SS,hv,hz',hl']
    repeat' with_reducible first|intro _|apply And.intro
    all_goals first|exact k39|exact c21|(simp[r3,Go,Ends',v14,-List.getD_eq_getElem?_getD, *];done)
 ·have hv':validR b=false:=by simpa using hv
  rw[hv']at k39
  refine w14 b x y (WP.step ?_)
  simp only[T14,Go,Ends',v14,Tr.sure,SS,hv']
  repeat' with_reducible first|intro _|apply And.intro
  all_goals first|exact k39|exact c21
end
end Go.Proofs.YtemgodefhcbleaaGreat
