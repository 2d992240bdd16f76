/-
  Part of the proof of HeadNoMore. Conditions: those that stand in each theorem.
-/
import Derived.Laws.Strings
import Derived.KernelRfl
import Derived.Test.YtemgodefhcbleaaGreatB16
set_option linter.unusedSimpArgs false
set_option linter.unusedVariables false
set_option maxRecDepth 100000
namespace Ab
theorem any_of_firstI{τ:Type}{p:τ->Bool}{l:List τ}{i:Nat}:firstI p 0 l=some i->l.any p=true:=fun h=>by
 rw[<-firstI_any p l 0,h];rfl
theorem any_of_none{τ:Type}{p:τ->Bool}{l:List τ}:firstI p 0 l=none->l.any p=false:=fun h=>by
 rw[<-firstI_any p l 0,h];rfl
end Ab
namespace Go.Proofs.YtemgodefhcbleaaGreat
open Ab Go
theorem Up.ext:∀ {a b:List ByteArray},Up a->Up b->(∀t,t∈a↔t∈b)->a=b
 |[],[],_,_,_=>rfl
 |[],y::b,_,_,h=>by have:=(h y).2 (by simp);simp at this
 |x::a,[],_,_,h=>by have:=(h x).1 (by simp);simp at this
 |x::a,y::b,ha,hb,h=>by
  obtain⟨a1,a2⟩:=List.pairwise_cons.1 ha;obtain⟨b1,b2⟩:=List.pairwise_cons.1 hb
  have e:x=y:=by
   rcases List.mem_cons.1 ((h x).1 (by simp))with q|q
   ·exact q
   ·rcases List.mem_cons.1 ((h y).2 (by simp))with z|z
    ·exact z.symm
    ·have:=blt_trans (b1 x q) (a1 y z);rw[blt_irr]at this;cases this
  subst e;congr 1
  refine Up.ext a2 b2 fun t=> ?_;have ht:=h t;rw[List.mem_cons,List.mem_cons]at ht;constructor
  ·intro hm;rcases ht.1 (.inr hm)with q|q
   ·subst q;have:=a1 t hm;rw[blt_irr]at this;cases this
   ·exact q
  ·intro hm;rcases ht.2 (.inr hm)with q|q
   ·subst q;have:=b1 t hm;rw[blt_irr]at this;cases this
   ·exact q
end Go.Proofs.YtemgodefhcbleaaGreat
namespace Ab
open Go
section
variable {P:Program} {ro:Env} {ops:Array Oper} {S:St} {i:Nat} {o:Oper}
theorem AStep.app0(hi:ops[i]? =some o)(hw:wantedV ops S o=some true){s x:Operand}{t e:TypeId}{wd k q:Nat}{c:Nat->Nat->V}{zs:List V}
  (hop:o.op=.call {callee:=.builtin .append,args:= #[s,x],argTypes:= #[t,t]}) (hsv:S.eval s=.nils) (hxv:S.eval x=.list wd k c) (hu:P.underlying t=some (.slice e)) (hz:zeroCs P e=some zs)
  (hc:decide (hasT P e=true/\szOf P e=wd/\0<wd/\zs.length=wd/\P.bytesOf e<=32768)=true) (hvd:S.h[q]? =some .void)
  (hk:k<=4294967296) (hsc:∀r,r<k->∀j,j<wd->(c r j).scalar=true):
  AStep P ro ops i S ({S with h:=S.h.set q (.rows e wd k c)}.put o.dst (.row q k)):=by
 obtain⟨hT,hsz,h0,hzl,hby⟩:=of_decide_eq_true hc;refine AStep.of_val hi hw (fun c hcc=>by rw[hop]at hcc;cases hcc) fun β G K a w r=> ?_;have hs:=r.eval s;rw[hsv]at hs;have hx:=r.eval x;rw[hxv]at hx;have hlt:q<β.length:=by rw[r.h.len];exact(List.getElem?_eq_some_iff.1 hvd).1
 generalize hsx:a.eval s=sv at hs
 cases hs with
 |nils=>
  rename_i a0;obtain⟨v',w',r1,r2,r3,r5,r4⟩:=run_fresh (ty:=o.type) hu hT hsz h0 hz hzl hby r.h (a0:=a0) hx hk hsc
  have hrun:(execOp a.eval o).run P w=.ok (.value v') w':=by
   simp only[execOp,hop,resolve,Sem.run_bind,Sem.run_pure,Result.andThen_ok,invoke,builtin,List.map_toArray,List.map_cons,List.map_nil,hsx,r1]
  rcases r4 with⟨rfl,rfl,rfl⟩|⟨hpos,g,cap',cur,rfl,hge,hcur,hnc,hcm,hcsz,hrel⟩
  ·have hle:=le_set_void (x:=.nil) (r.h.void_home hvd);have q1:=r.refill hvd hle (r.h.fillNil hvd e c h0);exact⟨_,_,_,G,K,hrun,hle.low _,G.ext_refl K,K.le_refl,q1,.row0 (List.getElem?_set_self hlt)⟩
  ·have hle:=le_set_void (x:=.lie ⟨g,wd,cap'⟩) (r.h.void_home hvd);have hmn:k<=maxn:=by unfold maxn;omega
   have hg':g<w'.heap.size:=(Array.getElem?_eq_some_iff.1 hcur).1;have q1:=r.refill hvd hle (r.h.fillG r2 r3 (k:=.rows e wd k c) (x:=⟨g,wd,cap'⟩) hvd hge hg' ⟨rfl,h0,hcm,cur,hcur,hcsz,hnc,hmn,hrel⟩ r5);exact⟨_,_,_,G,K,hrun,hle.low _,G.ext_refl K,K.le_refl,q1,.row (List.getElem?_set_self hlt) hnc (Nat.le_refl _) hmn⟩
end
end Ab
namespace Ab
open Go
end Ab
namespace Ab
open Go
section
variable {P:Program} {ro:Env} {ops:Array Oper} {i:Nat} {S S2:St}
theorem AStep.ap0(s x:Operand)(t e q wd k:Nat)(c:Nat->Nat->V)(zs:List V)(hk:k<=4294967296)(hsc:∀r,r<k->∀j,j<wd->(c r j).scalar=true)(hi:ops[i]? =some (ops.getD i default):=by kernel_rfl)(hw:wantedV ops S (ops.getD i default)=some true:=by kernel_rfl)
  (hop:(ops.getD i default).op=.call {callee:=.builtin .append,args:= #[s,x],argTypes:= #[t,t]}:=by kernel_rfl) (hsv:S.eval s=.nils:=by kernel_rfl) (hxv:S.eval x=.list wd k c:=by kernel_rfl) (hu:P.underlying t=some (.slice e):=by kernel_rfl) (hz:zeroCs P e=some zs:=by kernel_rfl)
  (hc:decide (hasT P e=true/\szOf P e=wd/\0<wd/\zs.length=wd/\P.bytesOf e<=32768)=true:=by kernel_rfl) (hvd:S.h[q]? =some .void:=by kernel_rfl)
  (h2:({S with h:=S.h.set q (.rows e wd k c)}.put (ops.getD i default).dst (.row q k))=S2:=by kernel_rfl):AStep P ro ops i S S2:=AStep.to (AStep.app0 hi hw hop hsv hxv hu hz hc hvd hk hsc) h2
end
end Ab
namespace Go.Proofs.YtemgodefhcbleaaGreat
open Ab Go
noncomputable section
inductive P44
 |e
 |l0 (x0_5:Int)
inductive R44
 |r0 (r0:Bool)
def T44(p0:List Int)(p1:Int):P44->Tr P44 R44
 |.e=>(.go (.l0 0))
 |.l0 x0_5=>let c1:=x0_5<(p0.length:Int);(.br (decide c1) (.need (decide (0<=x0_5)&&decide c1) (.br ((p0.getD (x0_5).toNat tint.zero)==p1) (.out (.r0 true)) (.need (inR .i64 (x0_5+(1:Int))) (.go (.l0 (x0_5+(1:Int))))))) (.out (.r0 false)))
noncomputable def g44(p0:List Int)(p1:Int):P44->List Item × St
 |.e=>bd Tryz.f44 [tint.lst p0,iI p1] 16
 |.l0 x0_5=>(cutOf Tryz.f44 0,⟨mk 18 [(0,tint.lst p0),(1,iI p1),(4,.bool false),(5,iI x0_5)],[],[]⟩)
def n44:R44->Exit × St
 |.r0 r0=>(.ret,⟨mk 18 [(4,.bool r0)],[],[]⟩)
def v44:R44->V
 |.r0 r0=>.bool r0
theorem s44(p0:List Int)(p1:Int):Sm 0 (g44 p0 p1) (T44 p0 p1) (n44)
 |.e=>⟨400,by kernel_rfl⟩
 |.l0 _=>⟨400,by kernel_rfl⟩
theorem q44:∀r,bodyQ Tryz.prog Tryz.f44 (·=v44 r) (n44 r).1 (n44 r).2
 |.r0 r0=>bq (.bool r0) (by kernel_rfl)
theorem w44(p0:List Int)(p1:Int){post:V->Prop}(h:WQ (T44 p0 p1) v44 post .e):PC 44 [tint.lst p0,iI p1] post:=
 PCalls.wq Tryz.func44 (s44 p0 p1) q44 h
theorem e44:∀xs w,(callFunc 44 xs).run Tryz.prog w=.ok (.enter 44 xs) w:=PCalls.enters Tryz.func44 (c:=Tryz.f44.body.getD .skip) (by kernel_rfl) (by kernel_rfl)
theorem c44(l:List Int)(n:Int):PC 44 [tint.lst l,iI n] (·=.bool (hasN l n)):=by
 refine PCalls.assume e44 0 (by simp) .list fun hl=> ?_;refine w44 _ _ (WP.step ?_);simp only[T44,Go,Ends',v44,Tr.sure,SS];repeat' with_reducible first|intro _|apply aI
 refine WP.findI (fun i=>.l0 i) rfl l 0 (·==n) (fun i hi=> ?_) fun hI=> ?_
 ·have hr:=inRi hi hl;have ha:firstI (·==n) 0 l=some i->l.any (·==n)=true:=any_of_firstI;refine WP.once ?_;simp only[T44,Tr.sure,SS,hi,z1];repeat' with_reducible first|intro _|apply aI
  all_goals first|(simp[hr,hasN,Go,Ends',v44,-List.getD_eq_getElem?_getD, *];done)|(simp_all [hr,hasN,Go,Ends',v44,-List.getD_eq_getElem?_getD];done)
 ·have ha:=any_of_none hI;refine WP.step ?_;simp only[T44,Go,Ends',v44,Tr.sure,SS,Int.lt_irrefl];repeat' with_reducible first|intro _|apply aI
  all_goals simp[hasN,ha,Go,Ends',v44,-List.getD_eq_getElem?_getD, *]
end
theorem firstE_all{τ:Type}{of:Nat->τ->Int}(d:τ):∀ {l:List τ} {i:Nat},(∀j,j<l.length->of (i+j) (l.getD j d)=0)->firstE of i l=none
 |[],_,_=>rfl
 |x::l,i,h=>by
  have h0:=h 0 (by simp);simp only[Nat.add_zero,List.getD_cons_zero]at h0;simp only[firstE,h0,if_true];refine firstE_all d fun j hj=> ?_;have:=h (j+1) (by simpa using hj);rw[show i+(j+1)=i+1+j by omega]at this;simpa using this
theorem bookCheck_of{b:Book}(h:OkBook b):bookCheck b=(0,0,0):=by
 have e1:firstE (bodyAt b.bodies) 0 b.bodies=none:=firstE_all zBody fun j hj=>by rw[Nat.zero_add];exact h.body j hj
 have e2:firstE (headAt b.heads) 0 b.heads=none:=firstE_all ByteArray.empty fun j hj=>by rw[Nat.zero_add];exact h.head j hj
 have e3:firstE (lineErr b) 0 b.lines=none:=firstE_all zLine fun j hj=>by rw[Nat.zero_add];exact h.lineE j hj
 unfold bookCheck;have h1:=h.nb;have h2:=h.nh;have h3:=h.nl;rw[if_neg (by omega),e1];simp only;rw[if_neg (by omega),e2];simp only;rw[if_neg (by omega),e3]
def Step1(x:Line)(h h':List Int):Prop:=∃p∈pairsR x,doneR h x p=(h',true)
def Step2(f:Bool)(x:Line)(h h':List Int):Prop:=if f=true then h'=h else Step1 x h h'
inductive Run:List Int->List (Line × Bool)->List (List Int)->Prop
 |nil (h:List Int):Run h [] []
 |cons {h h':List Int} {x:Line} {f:Bool} {L:List (Line × Bool)} {hs:List (List Int)}:Step2 f x h h'->Run h' L hs->Run h ((x,f)::L) (h'::hs)
def lastH(h:List Int)(hs:List (List Int)):List Int:=(h::hs).getD hs.length []
theorem lastH_cons(h h':List Int)(hs:List (List Int)):lastH h (h'::hs)=lastH h' hs:=by simp[lastH]
theorem Run.len{h:List Int}{L:List (Line × Bool)}{hs:List (List Int)}(r:Run h L hs):hs.length=L.length:=by
 induction r with
 |nil=>rfl
 |cons _ _ ih=>simp[ih]
theorem run_nil{h:List Int}{hs:List (List Int)}:Run h [] hs↔hs=[]:=⟨fun r=>by cases r;rfl,fun e=>e▸Run.nil h⟩
theorem run_cons{h:List Int}{x:Line}{f:Bool}{L:List (Line × Bool)}{hs:List (List Int)}:Run h ((x,f)::L) hs↔∃h' r,hs=h'::r/\Step2 f x h h'/\Run h' L r:=by
 constructor
 ·intro r;cases r with
  |cons s r=>exact⟨_,_,rfl,s,r⟩
 ·rintro⟨h',r,rfl,s,q⟩;exact .cons s q
theorem run_append{L2:List (Line × Bool)}:∀(L1:List (Line × Bool)) (h:List Int) (hs:List (List Int)),Run h (L1++L2) hs↔∃h1 h2,hs=h1++h2/\Run h L1 h1/\Run (lastH h h1) L2 h2
 |[],h,hs=>by
  constructor
  ·intro r;exact⟨[],hs,rfl,.nil h,r⟩
  ·rintro⟨h1,h2,rfl,r1,r2⟩;rw[run_nil]at r1;subst r1;exact r2
 |(x,f)::L1,h,hs=>by
  rw[List.cons_append,run_cons];constructor
  ·rintro⟨h',r,rfl,s,q⟩
   obtain⟨h1,h2,rfl,r1,r2⟩:=(run_append L1 h' r).1 q;exact⟨h'::h1,h2,rfl,.cons s r1,by rw[lastH_cons];exact r2⟩
  ·rintro⟨h1,h2,rfl,r1,r2⟩
   obtain⟨h',r,rfl,s,q⟩:=run_cons.1 r1;rw[lastH_cons]at r2;exact⟨h',r++h2,rfl,s,(run_append L1 h' _).2 ⟨r,h2,rfl,q,r2⟩⟩
def flags(b:Book)(but:List Int)(i:Nat):List (Line × Bool):=(List.range i).map fun k=>(b.lines.getD k zLine,hasN but (k:Int))
theorem flags_succ(b:Book)(but:List Int)(i:Nat):flags b but (i+1)=flags b but i++ [(b.lines.getD i zLine,hasN but (i:Int))]:=by unfold flags;rw[List.range_succ,List.map_append];rfl
theorem mem_step{b:Book}{but:List Int}{i:Nat}{t:Truth}(hp:0<(pairsR (b.lines.getD i zLine)).length)(hv:List (List Int)):(∃u∈stepT b but i t,u.haves=hv)↔∃h',hv=t.haves++ [h']/\Step2 (hasN but (i:Int)) (b.lines.getD i zLine) (t.haves.getD i []) h':=by
 unfold stepT Step2 Step1 waysR;generalize b.lines.getD i zLine=x at*
 constructor
 ·rintro⟨u,hu,rfl⟩
  obtain⟨k,hk,hu⟩:=List.mem_flatMap.1 hu;rw[List.mem_range]at hk;by_cases hb:hasN but (i:Int)=true
  ·rw[if_pos hb]at hu;split at hu
   ·rw[List.mem_singleton.1 hu];exact⟨_,rfl,by rw[if_pos hb]⟩
   ·exact absurd hu List.not_mem_nil
  ·rw[if_neg hb]at hu;split at hu
   ·rename_i hd;rw[List.mem_singleton.1 hu];exact⟨_,rfl,by rw[if_neg hb];exact⟨_,getD_mem zPair _ k hk,Prod.ext rfl hd⟩⟩
   ·exact absurd hu List.not_mem_nil
 ·rintro⟨h',rfl,hs⟩
  by_cases hb:hasN but (i:Int)=true
  ·rw[if_pos hb]at hs;subst hs;exact⟨_,List.mem_flatMap.2 ⟨0,List.mem_range.2 hp,by rw[if_pos hb,if_pos rfl];exact List.mem_singleton.2 rfl⟩,rfl⟩
  ·rw[if_neg hb]at hs;obtain⟨p,hp2,e⟩:=hs;obtain⟨k,hk,rfl⟩:=mem_getD zPair hp2;exact⟨_,List.mem_flatMap.2 ⟨k,List.mem_range.2 hk,by rw[if_neg hb,if_pos (by rw[e])];exact List.mem_singleton.2 rfl⟩,by simp only[e]⟩
theorem truth_run{b:Book}(h:OkBook b)(but:List Int):∀i,i<=b.lines.length->∀hv,(∃t∈truthsTo b but i,t.haves=hv)↔∃hs,hv=firstH b::hs/\Run (firstH b) (flags b but i) hs
 |0,_,hv=>by
  constructor
  ·rintro⟨t,ht,rfl⟩
   rw[truthsTo,List.mem_singleton]at ht;subst ht;exact⟨[],rfl,.nil _⟩
  ·rintro⟨hs,rfl,r⟩
   have:flags b but 0=[]:=rfl;rw[this,run_nil]at r;subst r;exact⟨_,List.mem_singleton.2 rfl,rfl⟩
 |i+1,hi,hv=>by
  have hp:=pairs_pos (h.line (i:=i) (by omega));rw[flags_succ];have ih:=truth_run h but i (by omega);constructor
  ·rintro⟨t,ht,rfl⟩
   rw[truthsTo,List.mem_flatMap]at ht;obtain⟨u,hu,ht⟩:=ht;obtain⟨h',e,s⟩:=(mem_step hp t.haves).1 ⟨t,ht,rfl⟩;obtain⟨hs,e2,r⟩:=(ih u.haves).1 ⟨u,hu,rfl⟩;have hl:=r.len;rw[flags,List.length_map,List.length_range]at hl;refine⟨hs++ [h'],by rw[e,e2];rfl,(run_append _ _ _).2 ⟨hs,[h'],rfl,r,.cons ?_ (.nil _)⟩⟩;rw[e2]at s;unfold lastH;rw[hl];exact s
  ·rintro⟨hs,rfl,r⟩
   obtain⟨h1,h2,rfl,r1,r2⟩:=(run_append _ _ _).1 r;obtain⟨h',r3,rfl,s,q⟩:=run_cons.1 r2;rw[run_nil]at q;subst q;obtain⟨u,hu,e⟩:=(ih (firstH b::h1)).2 ⟨h1,rfl,r1⟩;have hl:=r1.len;rw[flags,List.length_map,List.length_range]at hl;unfold lastH at s;rw[hl,<-e]at s;obtain⟨t,ht,e3⟩:=(mem_step (b:=b) hp (u.haves++ [h'])).2 ⟨h',rfl,s⟩;exact⟨t,by rw[truthsTo,List.mem_flatMap];exact⟨u,hu,ht⟩,by rw[e3,e];rfl⟩
def all0(l:List Line):List (Line × Bool):=l.map fun x=>(x,false)
theorem flags_all(b:Book):flags b [] b.lines.length=all0 b.lines:=by
 apply List.ext_getElem
 ·simp[flags,all0]
 ·intro i h1 h2;have:i<b.lines.length:=by simpa[all0]using h2
  simp[flags,all0,hasN,gE,this]
theorem truths_run{b:Book}(h:OkBook b)(hv:List (List Int)):(∃t∈truthsR b [],t.haves=hv)↔∃hs,hv=firstH b::hs/\Run (firstH b) (all0 b.lines) hs:=by
 rw[<-flags_all];exact truth_run h [] _ (Nat.le_refl _) hv
theorem truth_hs{b:Book}(h:OkBook b){t:Truth}(ht:t∈truthsR b []):∃hs,t.haves=firstH b::hs/\Run (firstH b) (all0 b.lines) hs:=(truths_run h _).1 ⟨t,ht,rfl⟩
theorem hs_truth{b:Book}(h:OkBook b){hs:List (List Int)}(r:Run (firstH b) (all0 b.lines) hs):∃t∈truthsR b [],t.haves=firstH b::hs:=(truths_run h _).2 ⟨hs,rfl,r⟩
theorem run0_len{h:List Int}{L:List Line}{hs:List (List Int)}(r:Run h (all0 L) hs):hs.length=L.length:=by rw[r.len];simp[all0]
def atL(d:Int):List Int->List Line->List (List Int)->List Int
 |h,x::L,h'::hs=>if x.day<=d then atL d h' L hs else h
 |h,_,_=>h
theorem atL_split{d:Int}{B:List Line}(hB:∀x∈B,d<x.day):∀(A:List Line) (h:List Int) (hs:List (List Int)),(∀x∈A,x.day<=d)->A.length<=hs.length->atL d h (A++B) hs=(h::hs).getD A.length []
 |[],h,hs,_,_=>by
  cases B with
  |nil=>cases hs<;>rfl
  |cons x B=>
   cases hs with
   |nil=>rfl
   |cons h' hs=>
    have:=hB x (by simp);simp only[List.nil_append,atL];rw[if_neg (by omega)];rfl
 |x::A,h,[],_,hl=>by simp at hl
 |x::A,h,h'::hs,hA,hl=>by
  simp only[List.cons_append,atL];rw[if_pos (hA x (by simp)),atL_split hB A h' hs (fun y hy=>hA y (by simp[hy])) (by simpa using hl)];simp
def Sorted(l:List Line):Prop:=l.Pairwise fun x y=>x.day<=y.day
theorem sorted_split(d:Int):∀l:List Line,Sorted l->∃A B,l=A++B/\(∀x∈A,x.day<=d)/\∀x∈B,d<x.day
 |[],_=>⟨[],[],rfl,by simp,by simp⟩
 |x::l,h=>by
  obtain⟨h1,h2⟩:=List.pairwise_cons.1 h;by_cases hx:x.day<=d
  ·obtain⟨A,B,e,hA,hB⟩:=sorted_split d l h2;refine⟨x::A,B,by rw[e];rfl,fun y hy=> ?_,hB⟩;rcases List.mem_cons.1 hy with rfl|q
   ·exact hx
   ·exact hA y q
  ·refine⟨[],x::l,rfl,by simp,fun y hy=> ?_⟩;rcases List.mem_cons.1 hy with rfl|q
   ·omega
   ·have:=h1 y q;omega
theorem OkBook.sorted{b:Book}(h:OkBook b):Sorted b.lines:=by
 refine List.pairwise_iff_getElem.2 fun i j hi hj hij=> ?_;have:=days_mono h (j-i) i (by omega);rw[show i+(j-i)=j by omega,gE,gE,List.getElem?_eq_getElem hi,List.getElem?_eq_getElem hj]at this;exact this
theorem at_atL{b:Book}(h:OkBook b){t:Truth}{hs:List (List Int)}(ht:t.haves=firstH b::hs)(hl:hs.length=b.lines.length)(d:Int):atR b t d=atL d (firstH b) b.lines hs:=by
 obtain⟨A,B,e,hA,hB⟩:=sorted_split d b.lines h.sorted
 have hn:lineN b d=(A.length:Int):=by
  refine lineN_eq h (by rw[e];simp) (fun i hi=> ?_) (fun hn=> ?_)
  ·rw[e,gE,aL hi,List.getElem?_eq_getElem hi];exact hA _ (List.getElem_mem hi)
  ·rw[e,List.length_append]at hn;rw[e,gE,List.getElem?_append_right (Nat.le_refl _),Nat.sub_self,List.getElem?_eq_getElem (by omega)];exact hB _ (List.getElem_mem (by omega))
 unfold atR;rw[hn,ht,Int.toNat_natCast,e,atL_split hB A _ _ hA (by rw[hl,e,List.length_append];omega)]
def Sim(b b':Book)(D:Int->Prop):Prop:=∀t'∈truthsR b' [],∃t∈truthsR b [],∀d,D d->atR b' t' d=atR b t d
theorem sim_of{b b':Book}{D:Int->Prop}(h:OkBook b)(h':OkBook b')(hf:firstH b'=firstH b)(hr:∀hs',Run (firstH b) (all0 b'.lines) hs'->∃hs,Run (firstH b) (all0 b.lines) hs/\∀d,D d->atL d (firstH b) b'.lines hs'=atL d (firstH b) b.lines hs):Sim b b' D:=fun t' ht'=>by
 obtain⟨hs',e',r'⟩:=truth_hs h' ht';rw[hf]at r';obtain⟨hs,r,ha⟩:=hr hs' r';obtain⟨t,ht,e⟩:=hs_truth h r;exact⟨t,ht,fun d hd=>by rw[at_atL h' e' (run0_len r') d,at_atL h e (run0_len r) d,hf];exact ha d hd⟩
theorem all0_append(l m:List Line):all0 (l++m)=all0 l++all0 m:=List.map_append
theorem atL_pre{d:Int}{B B':List Line}{hB hB':List (List Int)}:∀(A:List Line) (h:List Int) (hA:List (List Int)),hA.length=A.length->atL d (lastH h hA) B hB=atL d (lastH h hA) B' hB'->atL d h (A++B) (hA++hB)=atL d h (A++B') (hA++hB')
 |[],h,[],_,e=>e
 |[],h,_::_,hl,_=>by simp at hl
 |x::A,h,[],hl,_=>by simp at hl
 |x::A,h,h'::hA,hl,e=>by
  simp only[List.cons_append,atL];rw[lastH_cons]at e;rw[atL_pre A h' hA (by simpa using hl) e]
theorem atL_stop{d:Int}{B:List Line}(hB:∀x∈B,d<x.day)(h:List Int)(hs:List (List Int)):atL d h B hs=h:=by
 cases B with
 |nil=>cases hs<;>rfl
 |cons x B=>
  cases hs with
  |nil=>rfl
  |cons h' hs=>
   have:=hB x (by simp);simp only[atL];rw[if_neg (by omega)]
theorem step_one{x:Line}{h h':List Int}:Step2 false x h h'↔Step1 x h h':=by unfold Step2;rw[if_neg (by decide)]
theorem sorted_mid{A B:List Line}{x:Line}(h:Sorted (A++x::B)):∀y∈B,x.day<=y.day:=(List.pairwise_cons.1 (List.pairwise_append.1 h).2.1).1
theorem step_seen{x:Line}(hk:x.kind=3\/x.kind=4){h h':List Int}(s:Step1 x h h'):h'=h:=by
 obtain⟨p,_,e⟩:=s;unfold doneR at e;rcases hk with q|q
 ·rw[if_pos q]at e;exact(Prod.ext_iff.1 e).1.symm
 ·rw[if_neg (by omega),if_pos q]at e;exact(Prod.ext_iff.1 e).1.symm
theorem atL_same{d:Int}{x:Line}{B:List Line}(hx:∀y∈B,x.day<=y.day)(h:List Int)(hB:List (List Int)):atL d h (x::B) (h::hB)=atL d h B hB:=by
 simp only[atL];by_cases q:x.day<=d
 ·rw[if_pos q]
 ·rw[if_neg q,atL_stop (fun y hy=>by have:=hx y hy;omega)]
theorem sim_seen{b b':Book}(h:OkBook b)(h':OkBook b')(hb:b'.bodies=b.bodies){A B:List Line}{x:Line}(e:b.lines=A++B)(e':b'.lines=A++x::B)(hk:x.kind=3\/x.kind=4):Sim b b' fun _=>True:=by
 refine sim_of h h' (by unfold firstH;rw[hb]) fun hs' r=> ?_;have hs:=h'.sorted;rw[e']at r hs;rw[all0_append]at r;obtain⟨hA,hB,rfl,r1,r2⟩:=(run_append _ _ _).1 r;obtain⟨h1,hB,rfl,s,r3⟩:=run_cons.1 r2;have:=step_seen hk (step_one.1 s);subst this;refine⟨hA++hB,by rw[e,all0_append];exact(run_append _ _ _).2 ⟨hA,hB,rfl,r1,r3⟩,fun d _=> ?_⟩;rw[e,e'];exact atL_pre A _ hA (run0_len r1) (atL_same (sorted_mid hs) _ _)
theorem step_swap{x:Line}(hk:x.kind<=2){h h':List Int}:Step1 x h h'↔∃p∈pairsR x,h'=swapR h p:=by
 unfold Step1 doneR;have h3:¬x.kind=3:=by omega
 have h4:¬x.kind=4:=by omega
 simp only[h3,h4,if_false];constructor
 ·rintro⟨p,hp,e⟩;exact⟨p,hp,(Prod.ext_iff.1 e).1.symm⟩
 ·rintro⟨p,hp,rfl⟩;exact⟨p,hp,rfl⟩
theorem sim_end{b b':Book}(h:OkBook b)(h':OkBook b')(hb:b'.bodies=b.bodies){x:Line}(e':b'.lines=b.lines++ [x])(hk:x.kind<=2):Sim b b' (fun d=>d<x.day)/\Sim b' b (fun d=>d<x.day):=by
 have hf:firstH b'=firstH b:=by unfold firstH;rw[hb]
 have hx:OkLine b'.bodies.length x:=by
  have:=h'.line (i:=b.lines.length) (by rw[e'];simp);rw[e',gE,List.getElem?_append_right (Nat.le_refl _),Nat.sub_self]at this;exact this
 have hat:∀d,d<x.day->∀(hA hB:List (List Int)),hA.length=b.lines.length->atL d (firstH b) b'.lines (hA++hB)=atL d (firstH b) b.lines hA:=fun d hd hA hB hl=>by
  have:=atL_pre (d:=d) (B:=[x]) (B':=[]) (hB:=hB) (hB':=[]) b.lines (firstH b) hA hl (by
   rw[atL_stop (by simpa using hd)];cases hA<;>rfl)
  rw[List.append_nil,List.append_nil]at this;rw[e'];exact this
 refine⟨sim_of h h' hf fun hs' r=> ?_,sim_of h' h hf.symm fun hs r=> ?_⟩
 ·rw[e',all0_append]at r;obtain⟨hA,hB,rfl,r1,r2⟩:=(run_append _ _ _).1 r;exact⟨hA,r1,fun d hd=>hat d hd hA hB (run0_len r1)⟩
 ·rw[hf]at r⊢;have hp:=pairs_pos hx;obtain⟨p,hp⟩:=List.exists_mem_of_length_pos hp;refine⟨hs++ [swapR (lastH (firstH b) hs) p],?_,fun d hd=>(hat d hd hs _ (run0_len r)).symm⟩;rw[e',all0_append];exact(run_append _ _ _).2 ⟨hs,_,rfl,r,.cons (step_one.2 ((step_swap hk).2 ⟨p,hp,rfl⟩)) (.nil _)⟩
theorem outside_no{lo hi:Int}{l:List Int}(h:∀n∈l,lo<=n/\n<=hi):outside lo hi l=false:=by
 unfold outside
 cases e:l.any fun n=> !within n lo hi with
 |false=>rfl
 |true=>
  obtain⟨n,hn,q⟩:=List.any_eq_true.1 e;rw[not_iff_false]at q;have:=within_iff.2 (h n hn);rw[q]at this;cases this
theorem told_val{b:Book}(h:OkBook b){ns:List Int}(hn:∀n∈ns,0<=n/\n<b.bodies.length){d:Int}(hd:0<=d/\d<=364):toldR b ns d=if(truthsR b []).length=0 then([],8)else(truthsR b [],0):=by
 have e:toldE b ns d=0:=by
  unfold toldE;rw[bookCheck_of h,if_neg (by decide),outside_no (fun n hm=>by have:=hn n hm;omega),if_neg (by decide),within_iff.2 hd,if_pos rfl]
 unfold toldR;rw[e,if_neg (by decide)]
theorem told_zero{b:Book}(h:OkBook b){ns:List Int}(hn:∀n∈ns,0<=n/\n<b.bodies.length){d:Int}(hd:0<=d/\d<=364)(ht:0<(truthsR b []).length):(toldR b ns d).2=0:=by
 rw[told_val h hn hd,if_neg (by omega)]
theorem one_in{n m:Int}(h:0<=n/\n<m):∀k∈ [n],0<=k/\k<m:=fun k hk=>by rw[List.mem_singleton.1 hk];exact h
section
variable {b b':Book} {D:Int->Prop}
theorem Sim.pos(s:Sim b b' D)(h:0<(truthsR b' []).length):0<(truthsR b []).length:=by
 obtain⟨t,ht⟩:=List.exists_mem_of_length_pos h;obtain⟨u,hu,_⟩:=s t ht;exact List.length_pos_of_mem hu
theorem anyT_iff{d:Int}{i:Nat}{n:Int}{L:List Truth}:anyT b d L i n=true↔∃t∈L,(atR b t d).getD i 0=n:=by
 unfold anyT;rw[List.any_eq_true];simp only[beq_iff_eq]
theorem Sim.anyT(s:Sim b b' D){d:Int}(hd:D d){i:Nat}{n:Int}(h:anyT b' d (truthsR b' []) i n=true):anyT b d (truthsR b []) i n=true:=by
 obtain⟨t,ht,e⟩:=anyT_iff.1 h;obtain⟨u,hu,eu⟩:=s t ht;exact anyT_iff.2 ⟨u,hu,by rw[<-eu d hd];exact e⟩
theorem where_is{head d:Int}(h0:(toldR b [head] d).2=0):whereR b head d=(((List.range b.bodies.length).filter fun i=>anyT b d (truthsR b []) i head).map fun(i:Nat)=>(i:Int),0):=by unfold whereR;rw[if_neg (fun q=>q h0)]
theorem on_is{o d:Int}(h0:(toldR b [o] d).2=0):onR b o d=(((List.range b.heads.length).filter fun(h:Nat)=>anyT b d (truthsR b []) o.toNat (h:Int)).map fun(i:Nat)=>(i:Int),0):=by unfold onR;rw[if_neg (fun q=>q h0)]
theorem as_is{head d:Int}(h0:(toldR b [head] d).2=0):asR b head d=((personsR b).filter fun s=>(truthsR b []).any fun t=>same (seenR b t head d) s,0):=by unfold asR;rw[if_neg (fun q=>q h0)]
theorem ever_is{head:Int}(h0:(toldR b [head] 0).2=0):everR b head=((personsR b).filter fun s=>manyS b (truthsR b []) head s==(truthsR b []).length,(personsR b).filter fun s=>decide (0<manyS b (truthsR b []) head s),0):=by unfold everR;rw[if_neg (fun q=>q h0)]
theorem mem_filtR{n:Nat}{p:Nat->Bool}{c:Int}:c∈((List.range n).filter p).map (fun(i:Nat)=>(i:Int))↔∃i,i<n/\p i=true/\(i:Int)=c:=by
 rw[List.mem_map];constructor
 ·rintro⟨i,hi,e⟩
  obtain⟨h1,h2⟩:=List.mem_filter.1 hi;exact⟨i,List.mem_range.1 h1,h2,e⟩
 ·rintro⟨i,h1,h2,e⟩;exact⟨i,List.mem_filter.2 ⟨List.mem_range.2 h1,h2⟩,e⟩
theorem Sim.where_(s:Sim b b' D)(hb:b'.bodies=b.bodies){d head:Int}(hd:D d)(h0:(toldR b [head] d).2=0)(h0':(toldR b' [head] d).2=0){c:Int}(h:c∈(whereR b' head d).1):c∈(whereR b head d).1:=by
 rw[where_is h0',mem_filtR]at h;rw[where_is h0,mem_filtR];obtain⟨i,h1,h2,e⟩:=h;rw[hb]at h1;exact⟨i,h1,s.anyT hd h2,e⟩
theorem Sim.on_(s:Sim b b' D)(hb:b'.heads=b.heads){d o:Int}(hd:D d)(h0:(toldR b [o] d).2=0)(h0':(toldR b' [o] d).2=0){c:Int}(h:c∈(onR b' o d).1):c∈(onR b o d).1:=by
 rw[on_is h0',mem_filtR]at h;rw[on_is h0,mem_filtR];obtain⟨i,h1,h2,e⟩:=h;rw[hb]at h1;exact⟨i,h1,s.anyT hd h2,e⟩
theorem Sim.anyT_eq(s:Sim b b' D)(s':Sim b' b D){d:Int}(hd:D d)(i:Nat)(n:Int):Go.Proofs.YtemgodefhcbleaaGreat.anyT b' d (truthsR b' []) i n=Go.Proofs.YtemgodefhcbleaaGreat.anyT b d (truthsR b []) i n:=by
 rw[Bool.eq_iff_iff];exact⟨s.anyT hd,s'.anyT hd⟩
theorem Sim.where_eq(s:Sim b b' D)(s':Sim b' b D)(hb:b'.bodies=b.bodies){d head:Int}(hd:D d)(h0:(toldR b [head] d).2=0)(h0':(toldR b' [head] d).2=0):whereR b' head d=whereR b head d:=by
 rw[where_is h0,where_is h0',hb];simp only[s.anyT_eq s' hd]
theorem Sim.on_eq(s:Sim b b' D)(s':Sim b' b D)(hb:b'.heads=b.heads){d o:Int}(hd:D d)(h0:(toldR b [o] d).2=0)(h0':(toldR b' [o] d).2=0):onR b' o d=onR b o d:=by
 rw[on_is h0,on_is h0',hb];simp only[s.anyT_eq s' hd]
theorem seen_at(hb:b'.bodies=b.bodies){t t':Truth}{d:Int}(e:atR b' t' d=atR b t d)(head:Int):seenR b' t' head d=seenR b t head d:=by
 unfold seenR;rw[e,hb]
theorem persons_eq(hb:b'.bodies=b.bodies):personsR b'=personsR b:=by unfold personsR allNames;rw[hb]
theorem mem_as{head d:Int}(h0:(toldR b [head] d).2=0){x:ByteArray}:x∈(asR b head d).1↔x∈personsR b/\∃t∈truthsR b [],seenR b t head d=x:=by
 rw[as_is h0,List.mem_filter,List.any_eq_true];simp only[same_iff]
theorem Sim.as_(s:Sim b b' D)(hb:b'.bodies=b.bodies){d head:Int}(hd:D d)(h0:(toldR b [head] d).2=0)(h0':(toldR b' [head] d).2=0){x:ByteArray}(h:x∈(asR b' head d).1):x∈(asR b head d).1:=by
 rw[mem_as h0',persons_eq hb]at h;rw[mem_as h0];obtain⟨h1,t,ht,e⟩:=h;obtain⟨u,hu,eu⟩:=s t ht;exact⟨h1,u,hu,by rw[<-seen_at hb (eu d hd)];exact e⟩
theorem Sim.as_eq(s:Sim b b' D)(s':Sim b' b D)(hb:b'.bodies=b.bodies){d head:Int}(hd:D d)(h0:(toldR b [head] d).2=0)(h0':(toldR b' [head] d).2=0):asR b' head d=asR b head d:=by
 refine Prod.ext (Up.ext ?_ ?_ fun x=>⟨s.as_ hb hd h0 h0',s'.as_ hb.symm hd h0' h0⟩) ?_
 ·rw[as_is h0'];exact(sortU_up _).filter _
 ·rw[as_is h0];exact(sortU_up _).filter _
 ·rw[as_is h0,as_is h0']
def Sees(b:Book)(t:Truth)(head:Int)(s:ByteArray):Prop:=∃d:Int,(0<=d/\d<=364)/\seenR b t head d=s
theorem shown_sees(h:OkBook b){t:Truth}(ht:t∈truthsR b []){head:Int}(hh:0<=head/\head<b.bodies.length){s:ByteArray}:shownR b t head s (daysR b)=true↔Sees b t head s:=by
 unfold shownR Sees;rw[List.any_eq_true];constructor
 ·rintro⟨d,hd,e⟩;exact⟨d,days_in hd,same_iff.1 e⟩
 ·rintro⟨d,hd,e⟩
  have hn:((d.toNat:Nat):Int)=d:=Int.toNat_of_nonneg hd.1;obtain⟨d',h1,h2⟩:=seen_days h ht hh (s:=s) d.toNat (by omega) (by rw[hn];exact e);exact⟨d',h1,same_iff.2 h2⟩
theorem many_all(h:OkBook b){head:Int}(hh:0<=head/\head<b.bodies.length){s:ByteArray}:manyS b (truthsR b []) head s=(truthsR b []).length↔∀t∈truthsR b [],Sees b t head s:=by
 unfold manyS;rw[List.length_filter_eq_length_iff];constructor
 ·exact fun q t ht=>(shown_sees h ht hh).1 (q t ht)
 ·exact fun q t ht=>(shown_sees h ht hh).2 (q t ht)
theorem many_some(h:OkBook b){head:Int}(hh:0<=head/\head<b.bodies.length){s:ByteArray}:0<manyS b (truthsR b []) head s↔∃t∈truthsR b [],Sees b t head s:=by
 unfold manyS;constructor
 ·intro q;obtain⟨t,ht⟩:=List.exists_mem_of_length_pos q;obtain⟨h1,h2⟩:=List.mem_filter.1 ht;exact⟨t,h1,(shown_sees h h1 hh).1 h2⟩
 ·rintro⟨t,ht,q⟩
  exact List.length_pos_of_mem (List.mem_filter.2 ⟨ht,(shown_sees h ht hh).2 q⟩)
theorem mem_sure(h:OkBook b){head:Int}(h0:(toldR b [head] 0).2=0)(hh:0<=head/\head<b.bodies.length){s:ByteArray}:s∈(everR b head).1↔s∈personsR b/\∀t∈truthsR b [],Sees b t head s:=by
 rw[ever_is h0,List.mem_filter,beq_iff_eq,many_all h hh]
theorem mem_may(h:OkBook b){head:Int}(h0:(toldR b [head] 0).2=0)(hh:0<=head/\head<b.bodies.length){s:ByteArray}:s∈(everR b head).2.1↔s∈personsR b/\∃t∈truthsR b [],Sees b t head s:=by
 rw[ever_is h0,List.mem_filter,decide_eq_true_eq,many_some h hh]
theorem Sim.sees(s:Sim b b' D)(hD:∀d,0<=d/\d<=364->D d)(hb:b'.bodies=b.bodies){t':Truth}(ht:t'∈truthsR b' []):∃t∈truthsR b [],∀head x,Sees b' t' head x↔Sees b t head x:=by
 obtain⟨t,ht2,e⟩:=s t' ht;refine⟨t,ht2,fun head x=> ?_⟩;unfold Sees;constructor
 ·rintro⟨d,hd,q⟩;exact⟨d,hd,by rw[<-seen_at hb (e d (hD d hd))];exact q⟩
 ·rintro⟨d,hd,q⟩;exact⟨d,hd,by rw[seen_at hb (e d (hD d hd))];exact q⟩
theorem Sim.may(s:Sim b b' D)(hD:∀d,0<=d/\d<=364->D d)(h:OkBook b)(h':OkBook b')(hb:b'.bodies=b.bodies){head:Int}(h0:(toldR b [head] 0).2=0)(h0':(toldR b' [head] 0).2=0)(hh:0<=head/\head<b.bodies.length){x:ByteArray}(hx:x∈(everR b' head).2.1):x∈(everR b head).2.1:=by
 rw[mem_may h' h0' (by rw[hb];exact hh),persons_eq hb]at hx;rw[mem_may h h0 hh];obtain⟨h1,t',ht,q⟩:=hx;obtain⟨t,ht2,e⟩:=s.sees hD hb ht;exact⟨h1,t,ht2,(e _ _).1 q⟩
theorem Sim.sure(s:Sim b b' D)(hD:∀d,0<=d/\d<=364->D d)(h:OkBook b)(h':OkBook b')(hb:b'.bodies=b.bodies){head:Int}(h0:(toldR b [head] 0).2=0)(h0':(toldR b' [head] 0).2=0)(hh:0<=head/\head<b.bodies.length){x:ByteArray}(hx:x∈(everR b head).1):x∈(everR b' head).1:=by
 rw[mem_sure h h0 hh]at hx;rw[mem_sure h' h0' (by rw[hb];exact hh),persons_eq hb];refine⟨hx.1,fun t' ht=> ?_⟩;obtain⟨t,ht2,e⟩:=s.sees hD hb ht;exact(e _ _).2 (hx.2 t ht2)
theorem anyS_iff{head:Int}{s:ByteArray}{d:Int}{L:List Truth}:anyS b L head s d=true↔∃t∈L,seenR b t head d=s:=by
 unfold anyS;rw[List.any_eq_true];simp only[same_iff]
theorem between_how(h:OkBook b){head:Int}(hh:0<=head/\head<b.bodies.length){s:ByteArray}(hs:s≠ByteArray.empty):
  ((spanOf b (truthsR b []) head s).lo<0/\∀d,0<=d/\d<=364->anyS b (truthsR b []) head s d=false)\/
  (0<=(spanOf b (truthsR b []) head s).lo/\(spanOf b (truthsR b []) head s).lo<=(spanOf b (truthsR b []) head s).hi/\(spanOf b (truthsR b []) head s).hi<=364/\anyS b (truthsR b []) head s (spanOf b (truthsR b []) head s).lo=true/\anyS b (truthsR b []) head s (spanOf b (truthsR b []) head s).hi=true/\
   ∀d,0<=d/\d<=364->anyS b (truthsR b []) head s d=true->(spanOf b (truthsR b []) head s).lo<=d/\d<=(spanOf b (truthsR b []) head s).hi):=by
 have hA:=fun {d:Int} h0=>anyS_hits h hh hs (d:=d) h0
 have hin:∀x∈hitsX head (keptB b s) (truthsR b []),0<=x.span.lo/\x.span.lo<=x.span.hi/\x.span.hi<=364:=fun x hx=>by
  obtain⟨t,ht,hx2⟩:=List.mem_flatMap.1 hx;have hx5:=(mem_kept.1 (List.mem_filter.1 hx2).1).1;exact⟨(stretch_good hx5).lo,(stretch_good hx5).le,stretch_hi hx5⟩
 rcases between_law h hh hs with⟨q1,q2⟩|⟨q1,q2,q3⟩
 ·left
  refine⟨q2,fun d hd=> ?_⟩;rw[manyX_hits]at q1
  cases hz:anyS b (truthsR b []) head s d with
  |false=>rfl
  |true=>
   obtain⟨x,hx,_⟩:=(hA hd).1 hz;have:=(hits_span (Q:=hitsX head (keptB b s) (truthsR b [])) (fun e=>by rw[e]at hx;exact absurd hx List.not_mem_nil)).1;rw[this]at q1;cases q1
 ·right
  rw[manyX_hits]at q1 q3;have hne:hitsX head (keptB b s) (truthsR b [])≠ []:=fun e=>by rw[e]at q1;cases q1
  obtain⟨_,⟨x,hx,ex⟩,⟨y,hy,ey⟩,ha⟩:=hits_span hne;obtain⟨x1,x2,x3⟩:=hin x hx;obtain⟨y1,y2,y3⟩:=hin y hy;have hxy:=ha x hx;rw[q3];generalize(hitsX head (keptB b s) (truthsR b [])).foldl stepY (0,0,false)=r at*
  simp only;refine⟨by omega,by omega,by omega,(hA ⟨by omega,by omega⟩).2 ⟨x,hx,by omega,by omega⟩,(hA ⟨by omega,by omega⟩).2 ⟨y,hy,by omega,by omega⟩,fun d hd e=> ?_⟩;obtain⟨z,hz,z1,z2⟩:=(hA hd).1 e;have:=ha z hz;omega
theorem between_is{head:Int}(h0:(toldR b [head] 0).2=0){s:ByteArray}(hs:nameOk s=true):betweenR b head s=if(spanOf b (truthsR b []) head s).lo<0 then(zSpan,4)else(spanOf b (truthsR b []) head s,0):=by
 unfold betweenR;rw[if_neg (fun q=>q h0),if_neg (by rw[hs];decide)]
theorem name_ne{s:ByteArray}(h:nameOk s=true):s≠ByteArray.empty:=fun e=>by rw[e]at h;revert h;decide
theorem between_may(h:OkBook b){head:Int}(hh:0<=head/\head<b.bodies.length)(h0:(toldR b [head] 0).2=0){s:ByteArray}(hn:nameOk s=true){t:Truth}(ht:t∈truthsR b [])(hs:Sees b t head s):(betweenR b head s).2=0/\(betweenR b head s).1=spanOf b (truthsR b []) head s/\
  (0<=(spanOf b (truthsR b []) head s).lo/\(spanOf b (truthsR b []) head s).lo<=(spanOf b (truthsR b []) head s).hi/\(spanOf b (truthsR b []) head s).hi<=364/\anyS b (truthsR b []) head s (spanOf b (truthsR b []) head s).lo=true/\anyS b (truthsR b []) head s (spanOf b (truthsR b []) head s).hi=true/\
   ∀d,0<=d/\d<=364->anyS b (truthsR b []) head s d=true->(spanOf b (truthsR b []) head s).lo<=d/\d<=(spanOf b (truthsR b []) head s).hi):=by
 rw[between_is h0 hn];obtain⟨d,hd,e⟩:=hs;rcases between_how h hh (name_ne hn)with⟨q1,q2⟩|q
 ·have:=q2 d hd;rw[anyS_iff.2 ⟨t,ht,e⟩]at this;cases this
 ·rw[if_neg (by omega)];exact⟨rfl,rfl,q⟩
theorem Sim.anyS(s:Sim b b' D)(hb:b'.bodies=b.bodies){head:Int}{x:ByteArray}{d:Int}(hd:D d)(h:anyS b' (truthsR b' []) head x d=true):Go.Proofs.YtemgodefhcbleaaGreat.anyS b (truthsR b []) head x d=true:=by
 obtain⟨t,ht,e⟩:=anyS_iff.1 h;obtain⟨u,hu,eu⟩:=s t ht;exact anyS_iff.2 ⟨u,hu,by rw[<-seen_at hb (eu d hd)];exact e⟩
theorem Sim.between(s:Sim b b' D)(hD:∀d,0<=d/\d<=364->D d)(h:OkBook b)(h':OkBook b')(hb:b'.bodies=b.bodies){head:Int}(h0:(toldR b [head] 0).2=0)(h0':(toldR b' [head] 0).2=0)(hh:0<=head/\head<b.bodies.length){x:ByteArray}(hn:nameOk x=true)(hx:x∈(everR b' head).2.1):
  (betweenR b head x).2=0/\(betweenR b' head x).2=0/\(betweenR b head x).1.lo<=(betweenR b' head x).1.lo/\(betweenR b' head x).1.hi<=(betweenR b head x).1.hi:=by
 have hh':0<=head/\head<b'.bodies.length:=by rw[hb];exact hh
 obtain⟨_,t',ht',hs'⟩:=(mem_may h' h0' hh').1 hx;obtain⟨t,ht,e⟩:=s.sees hD hb ht';obtain⟨a1,a2,a3,a4,a5,a6,a7,a8⟩:=between_may h hh h0 hn ht ((e _ _).1 hs');obtain⟨c1,c2,c3,c4,c5,c6,c7,c8⟩:=between_may h' hh' h0' hn ht' hs';rw[a1,a2,c1,c2];have d1:=a8 _ ⟨c3,by omega⟩ (s.anyS hb (hD _ ⟨c3,by omega⟩) c6);have d2:=a8 _ ⟨by omega,c5⟩ (s.anyS hb (hD _ ⟨by omega,c5⟩) c7);exact⟨rfl,rfl,d1.1,d2.2⟩
end
noncomputable section
theorem sameI_self(l:List Int):sameI l l=true:=by simp[sameI]
theorem sameS_self(l:List ByteArray):sameS l l=true:=by simp[sameS]
end
noncomputable section
def dayR(n:Int):Int:=n.tmod 365
def partR(l m:List ByteArray):Bool:=l.all fun s=>decide (0<=indexS m s)
def putR(b:Book)(x:Line)(n:Int):Book:=⟨b.bodies,b.heads,b.lines.take n.toNat++ [x]++b.lines.drop n.toNat⟩
theorem valid_ok{b:Book}(h:validR b=true):OkBook b:=okBook (by simpa[validR]using h)
theorem valid_of{b:Book}(h:OkBook b):validR b=true:=by unfold validR;rw[bookCheck_of h];rfl
inductive P41
 |e
inductive R41
 |r0 (r0:Int)
def T41(n:Int):P41->Tr P41 R41
 |.e=>(.need (inR .i64 n) (.need (decide ((365:Int)≠0)) (.out (.r0 (n.tmod (365:Int))))))
noncomputable def g41(n:Int):P41->List Item × St
 |.e=>bd Tryz.f41 [.int .u16 n] 5
def n41:R41->Exit × St
 |.r0 r0=>(.ret,⟨mk 6 [(2,iI r0)],[],[]⟩)
def v41:R41->V
 |.r0 r0=>iI r0
theorem s41(n:Int):Sm 0 (g41 n) (T41 n) (n41)
 |.e=>⟨400,by kernel_rfl⟩
theorem q41:∀r,bodyQ Tryz.prog Tryz.f41 (·=v41 r) (n41 r).1 (n41 r).2
 |.r0 r0=>bq (iI r0) (by kernel_rfl)
theorem w41(n:Int){post:V->Prop}(h:WQ (T41 n) v41 post .e):PC 41 [.int .u16 n] post:=
 PCalls.wq Tryz.func41 (s41 n) q41 h
theorem c41(n:Int)(h:inR .i64 n=true):PC 41 [.int .u16 n] (·=iI (dayR n)):=by
 refine w41 n (WP.step ?_);simp only[T41,Go,Ends',v41,Tr.sure,SS];repeat' with_reducible first|intro _|apply aI
 all_goals simp[h,dayR,Go,Ends',v41,-List.getD_eq_getElem?_getD, *]
inductive P48
 |e
 |l0 (x0_5:Int)
inductive R48
 |r0 (r0:Bool)
def T48(l:List ByteArray)(m:List ByteArray):P48->Tr P48 R48
 |.e=>(.go (.l0 0))
 |.l0 x0_5=>let c1:=l.getD (x0_5).toNat tstr.zero;(.br (decide (x0_5<(l.length:Int))) (.need (decide (0<=x0_5)&&decide (x0_5<(l.length:Int))) (.call 46 [tstr.lst m,.str c1] (iI (indexS m c1)) true true (.br (decide ((indexS m c1)<(0:Int))) (.out (.r0 false)) (.need (inR .i64 (x0_5+(1:Int))) (.go (.l0 (x0_5+(1:Int)))))))) (.out (.r0 true)))
noncomputable def g48(l:List ByteArray)(m:List ByteArray):P48->List Item × St
 |.e=>bd Tryz.f48 [tstr.lst l,tstr.lst m] 17
 |.l0 x0_5=>(cutOf Tryz.f48 0,⟨mk 19 [(0,tstr.lst l),(1,tstr.lst m),(5,iI x0_5)],[],[]⟩)
def n48:R48->Exit × St
 |.r0 r0=>(.ret,⟨mk 19 [(4,.bool r0)],[],[]⟩)
def v48:R48->V
 |.r0 r0=>.bool r0
theorem s48(l:List ByteArray)(m:List ByteArray):Sm 0 (g48 l m) (T48 l m) (n48)
 |.e=>⟨400,by kernel_rfl⟩
 |.l0 _=>⟨400,by kernel_rfl⟩
theorem q48:∀r,bodyQ Tryz.prog Tryz.f48 (·=v48 r) (n48 r).1 (n48 r).2
 |.r0 r0=>bq (.bool r0) (by kernel_rfl)
theorem w48(l:List ByteArray)(m:List ByteArray){post:V->Prop}(h:WQ (T48 l m) v48 post .e):PC 48 [tstr.lst l,tstr.lst m] post:=
 PCalls.wq Tryz.func48 (s48 l m) q48 h
theorem c48(l m:List ByteArray)(hl:l.length<=1000)(hm:m.length<=1000):PC 48 [tstr.lst l,tstr.lst m] (·=.bool (partR l m)):=by
 have hmain:∀k i,i+k=l.length->WP Tryz.prog ⟨none,0⟩ (T48 l m) (Ends' fun r=>v48 r=.bool (partR (l.drop i) m)) (.l0 (i:Int)):=by
  intro k
  induction k with
  |zero=>
   intro i hi;have e:l.drop i=[]:=List.drop_of_length_le (by omega);have hi':¬(i:Int)<l.length:=by omega
   rw[e];refine WP.step ?_;simp only[T48,Go,Ends',v48,Tr.sure,SS,hi'];repeat' with_reducible first|intro _|apply aI
   all_goals simp[partR,Go,Ends',v48,-List.getD_eq_getElem?_getD, *]
  |succ k ih=>
   intro i hi;have hi':(i:Int)<l.length:=by omega
   have hr:inR .i64 ((i:Int)+1)=true:=inR64 (by omega) (by omega);have hn:=ih (i+1) (by omega)
   have e:partR (l.drop i) m=(decide (0<=indexS m (l.getD i ByteArray.empty))&&partR (l.drop (i+1)) m):=by
    rw[drop_cons ByteArray.empty l i (by omega)];rfl
   have k46:=c46 m (l.getD i ByteArray.empty) hm;rw[e];have ec:((i+1:Nat):Int)=(i:Int)+1:=rfl;rw[ec]at hn;by_cases hx:indexS m (l.getD i ByteArray.empty)<0
   ·have hx2:decide (0<=indexS m (l.getD i ByteArray.empty))=false:=by simpa using hx
    rw[hx2,Bool.false_and];refine WP.step ?_;simp only[T48,Go,Ends',v48,Tr.sure,SS,hi',z12,Int.toNat_natCast];repeat' with_reducible first|intro _|apply aI
    all_goals first|exact k46|(simp[hr,hx,Go,Ends',v48,-List.getD_eq_getElem?_getD, *];done)|(simp_all [hr,hx,Go,Ends',v48,-List.getD_eq_getElem?_getD];done)
   ·have hx2:decide (0<=indexS m (l.getD i ByteArray.empty))=true:=by simpa using hx
    have hx3:decide (indexS m (l.getD i ByteArray.empty)<0)=false:=by simpa using hx
    rw[hx2,Bool.true_and];refine WP.step ?_;simp only[T48,Go,Ends',v48,Tr.sure,SS,hi',z12,hx3,Int.toNat_natCast];repeat' with_reducible first|intro _|apply aI
    all_goals first|exact k46|exact hn|(simp[hr,Go,Ends',v48,-List.getD_eq_getElem?_getD, *];done)
    all_goals exact absurd (of_decide_eq_true (by assumption)) hx
 have h0:=hmain l.length 0 (by omega);rw[List.drop_zero]at h0;refine w48 l m (WP.step ?_);simp only[T48,Go,Ends',v48,Tr.sure,SS];repeat' with_reducible first|intro _|apply aI
 all_goals exact h0
def o47_1:Array Oper:=(regOf 1 (Tryz.f47.body.getD .skip)).getD #[]
@[reducible] def st47_1 (b:Book) (x:Line) (n:Int) (c:Nat->Bool):St:=⟨[.agg (cC b),.agg [iI x.day,iI x.kind,iI x.a,iI x.b,iI x.c,iI x.d,iI x.set],iI n,.ref 0 0 0,.ref 1 0 0,uU,.ref 2 0 0,(bif c 0 then .nils else(uU)),(bif c 1 then .ref 0 0 2 else(uU)),(bif c 2 then tLine.lst b.lines else(uU)),(bif c 3 then iI n else(uU)),(bif c 4 then .list 7 ((n).toNat-((0:Int)).toNat) (fun i j=>rowsOf tLine b.lines (((0:Int)).toNat+i) j)else(uU)),(bif c 8 then uU else(bif c 5 then .row 3 ((n).toNat-((0:Int)).toNat)else(uU))),(bif c 6 then .agg [iI x.day,iI x.kind,iI x.a,iI x.b,iI x.c,iI x.d,iI x.set]else(uU)),(bif c 7 then .list 7 1 (litC 7 1 [iI x.day,iI x.kind,iI x.a,iI x.b,iI x.c,iI x.d,iI x.set])else(uU)),(bif c 8 then .row 3 (((n).toNat-((0:Int)).toNat)+1)else(uU)),(bif c 9 then .ref 0 0 2 else(uU)),(bif c 10 then tLine.lst b.lines else(uU)),(bif c 11 then iI n else(uU)),(bif c 12 then .list 7 (((b.lines.length:Int)).toNat-(n).toNat) (fun i j=>rowsOf tLine b.lines ((n).toNat+i) j)else(uU)),uU,uU,uU],[.cells (cC b),.cells [iI x.day,iI x.kind,iI x.a,iI x.b,iI x.c,iI x.d,iI x.set],.cells [.nils,.nils,.nils],(bif c 8 then .rows 66 7 (((n).toNat-((0:Int)).toNat)+1) (appC ((n).toNat-((0:Int)).toNat) (fun i j=>rowsOf tLine b.lines (((0:Int)).toNat+i) j) (litC 7 1 [iI x.day,iI x.kind,iI x.a,iI x.b,iI x.c,iI x.d,iI x.set]))else(bif c 5 then .rows 66 7 ((n).toNat-((0:Int)).toNat) (fun i j=>rowsOf tLine b.lines (((0:Int)).toNat+i) j)else(.void)))],[]⟩
def t47_1:Tab:=[([],[1,2,3,4,6,7,9,10,11,12]),([],[0,3,6,7,9,10,11,12]),([1],[0,3,6,7,9,10,11,12]),([],[0,1,2,6,7,9,10,11,12]),([1,2,3],[0,6,7,9,10,11,12]),([0,1,2,3,4],[6,7,9,10,11,12]),([],[0,1,2,3,4,5,9,10,11,12]),([6],[0,1,2,3,4,5,9,10,11,12]),([0,1,2,3,4,5,6,7],[9,10,11,12]),([],[0,1,2,3,4,5,6,7,8,11]),([9],[0,1,2,3,4,5,6,7,8,11]),([],[0,1,2,3,4,5,6,7,8,9,10]),([9,10,11],[0,1,2,3,4,5,6,7,8])]
theorem ov47_1(b:Book)(x:Line)(n:Int)(h0:0<=n)(h1:n<=(b.lines.length:Int))(h2:b.lines.length<=1000):AWP Tryz.prog ⟨none,0⟩ (regionOf Tryz.f47 1) ⟨[.agg (cC b),.agg [iI x.day,iI x.kind,iI x.a,iI x.b,iI x.c,iI x.d,iI x.set],iI n,.ref 0 0 0,.ref 1 0 0,uU,.ref 2 0 0,uU,uU,uU,uU,uU,uU,uU,uU,uU,uU,uU,uU,uU,uU,uU,uU],[.cells (cC b),.cells [iI x.day,iI x.kind,iI x.a,iI x.b,iI x.c,iI x.d,iI x.set],.cells [.nils,.nils,.nils]],[]⟩ (fun e T=>e=.normal/\T=⟨[.agg (cC b),.agg [iI x.day,iI x.kind,iI x.a,iI x.b,iI x.c,iI x.d,iI x.set],iI n,.ref 0 0 0,.ref 1 0 0,uU,.ref 2 0 0,.nils,.ref 0 0 2,tLine.lst b.lines,iI n,.list 7 ((n).toNat-((0:Int)).toNat) (fun i j=>rowsOf tLine b.lines (((0:Int)).toNat+i) j),uU,.agg [iI x.day,iI x.kind,iI x.a,iI x.b,iI x.c,iI x.d,iI x.set],.list 7 1 (litC 7 1 [iI x.day,iI x.kind,iI x.a,iI x.b,iI x.c,iI x.d,iI x.set]),uU,.ref 0 0 2,tLine.lst b.lines,iI n,.list 7 (((b.lines.length:Int)).toNat-(n).toNat) (fun i j=>rowsOf tLine b.lines ((n).toNat+i) j),.row 3 ((((n).toNat-((0:Int)).toNat)+1)+(((b.lines.length:Int)).toNat-(n).toNat)),.ref 0 0 2,uU],[.cells [tBody.lst b.bodies,tstr.lst b.heads,.row 3 ((((n).toNat-((0:Int)).toNat)+1)+(((b.lines.length:Int)).toNat-(n).toNat))],.cells [iI x.day,iI x.kind,iI x.a,iI x.b,iI x.c,iI x.d,iI x.set],.cells [.nils,.nils,.nils],.rows 66 7 ((((n).toNat-((0:Int)).toNat)+1)+(((b.lines.length:Int)).toNat-(n).toNat)) (appC (((n).toNat-((0:Int)).toNat)+1) (appC ((n).toNat-((0:Int)).toNat) (fun i j=>rowsOf tLine b.lines (((0:Int)).toNat+i) j) (litC 7 1 [iI x.day,iI x.kind,iI x.a,iI x.b,iI x.c,iI x.d,iI x.set])) (fun i j=>rowsOf tLine b.lines ((n).toNat+i) j))],[]⟩):=by
 refine AWP.region_bits (ops:=o47_1) 13 1 t47_1 mx (st47_1 b x n) (fun z_i z_h c=> ?_) ?_
 ·rcases show z_i=0\/z_i=1\/z_i=2\/z_i=3\/z_i=4\/z_i=5\/z_i=6\/z_i=7\/z_i=8\/z_i=9\/z_i=10\/z_i=11\/z_i=12 by omega with rfl|rfl|rfl|rfl|rfl|rfl|rfl|rfl|rfl|rfl|rfl|rfl|rfl
  ·exact AStep.lt 24 66 0 #[] [iI 0,iI 0,iI 0,iI 0,iI 0,iI 0,iI 0] []
  ·exact AStep.rd true (.ref 0 0 2) rfl
  ·exact AStep.rd true (tLine.lst b.lines) rfl
  ·exact AStep.rd true (iI n) rfl
  ·refine AStep.rd (((decide (0<=(0:Int))&&decide ((0:Int)<=n))&&decide (n<=(b.lines.length:Int)))) (.list 7 ((n).toNat-((0:Int)).toNat) (fun i j=>rowsOf tLine b.lines (((0:Int)).toNat+i) j)) ?_;first|assumption|rfl|(simp[*];done)|(simp;omega)|(simp only[Bool.and_eq_true,decide_eq_true_eq];omega)
  ·refine AStep.ap0 (.tmp 7) (.tmp 11) 24 66 3 7 ((n).toNat-((0:Int)).toNat) (fun i j=>rowsOf tLine b.lines (((0:Int)).toNat+i) j) [iI 0,iI 0,iI 0,iI 0,iI 0,iI 0,iI 0] ?_ ?_
   ·first|omega|(simp;done)|(simp;omega)
   ·intro r hr j hj;first|(have hj0:j=0:=by omega;subst hj0;rfl)|(rcases show j=0\/j=1\/j=2\/j=3\/j=4\/j=5\/j=6 by omega with rfl|rfl|rfl|rfl|rfl|rfl|rfl<;>rfl)
  ·exact AStep.rd true (.agg [iI x.day,iI x.kind,iI x.a,iI x.b,iI x.c,iI x.d,iI x.set]) rfl
  ·exact AStep.lt 24 66 1 #[(0,.tmp 13)] [iI 0,iI 0,iI 0,iI 0,iI 0,iI 0,iI 0] [iI x.day,iI x.kind,iI x.a,iI x.b,iI x.c,iI x.d,iI x.set]
  ·refine AStep.ap 24 (.tmp 12) (.tmp 14) 3 (.rows 66 7 (((n).toNat-((0:Int)).toNat)+1) (appC ((n).toNat-((0:Int)).toNat) (fun i j=>rowsOf tLine b.lines (((0:Int)).toNat+i) j) (litC 7 1 [iI x.day,iI x.kind,iI x.a,iI x.b,iI x.c,iI x.d,iI x.set]))) ((decide (((n).toNat-((0:Int)).toNat)=((n).toNat-((0:Int)).toNat))&&decide (((n).toNat-((0:Int)).toNat)+1<=4294967296))&&true) (fun _=>true) (.row 3 (((n).toNat-((0:Int)).toNat)+1)) ?_ ?_ ?_
   ·first|(simp;done)|(simp;omega)|(simp[*];done)|(simp[-List.getD_eq_getElem?_getD];omega)
   ·intro r;rfl
   ·simp only[killS,List.map_cons,List.map_nil,killV_bif,killB_bif];kernel_rfl
  ·exact AStep.rd true (.ref 0 0 2) rfl
  ·exact AStep.rd true (tLine.lst b.lines) rfl
  ·exact AStep.rd true (iI n) rfl
  ·refine AStep.rd (((decide (0<=n)&&decide (n<=(b.lines.length:Int)))&&decide ((b.lines.length:Int)<=(b.lines.length:Int)))) (.list 7 (((b.lines.length:Int)).toNat-(n).toNat) (fun i j=>rowsOf tLine b.lines ((n).toNat+i) j)) ?_;first|assumption|rfl|(simp[*];done)|(simp;omega)|(simp only[Bool.and_eq_true,decide_eq_true_eq];omega)
 ·refine AOps.tree (g:=(.need ((decide ((((n).toNat-((0:Int)).toNat)+1)=(((n).toNat-((0:Int)).toNat)+1))&&decide ((((n).toNat-((0:Int)).toNat)+1)+(((b.lines.length:Int)).toNat-(n).toNat)<=4294967296))&&true) (.scal (fun r=>(List.range 7).all fun j=>((fun i j=>rowsOf tLine b.lines ((n).toNat+i) j) r j).scalar) (.done .normal ⟨[.agg (cC b),.agg [iI x.day,iI x.kind,iI x.a,iI x.b,iI x.c,iI x.d,iI x.set],iI n,.ref 0 0 0,.ref 1 0 0,uU,.ref 2 0 0,.nils,.ref 0 0 2,tLine.lst b.lines,iI n,.list 7 ((n).toNat-((0:Int)).toNat) (fun i j=>rowsOf tLine b.lines (((0:Int)).toNat+i) j),uU,.agg [iI x.day,iI x.kind,iI x.a,iI x.b,iI x.c,iI x.d,iI x.set],.list 7 1 (litC 7 1 [iI x.day,iI x.kind,iI x.a,iI x.b,iI x.c,iI x.d,iI x.set]),uU,.ref 0 0 2,tLine.lst b.lines,iI n,.list 7 (((b.lines.length:Int)).toNat-(n).toNat) (fun i j=>rowsOf tLine b.lines ((n).toNat+i) j),.row 3 ((((n).toNat-((0:Int)).toNat)+1)+(((b.lines.length:Int)).toNat-(n).toNat)),.ref 0 0 2,uU],[.cells [tBody.lst b.bodies,tstr.lst b.heads,.row 3 ((((n).toNat-((0:Int)).toNat)+1)+(((b.lines.length:Int)).toNat-(n).toNat))],.cells [iI x.day,iI x.kind,iI x.a,iI x.b,iI x.c,iI x.d,iI x.set],.cells [.nils,.nils,.nils],.rows 66 7 ((((n).toNat-((0:Int)).toNat)+1)+(((b.lines.length:Int)).toNat-(n).toNat)) (appC (((n).toNat-((0:Int)).toNat)+1) (appC ((n).toNat-((0:Int)).toNat) (fun i j=>rowsOf tLine b.lines (((0:Int)).toNat+i) j) (litC 7 1 [iI x.day,iI x.kind,iI x.a,iI x.b,iI x.c,iI x.d,iI x.set])) (fun i j=>rowsOf tLine b.lines ((n).toNat+i) j))],[]⟩)))) (by kernel_rfl) ?_
  simp only[DT.holds];repeat' (first|exact rfl|refine And.intro ?_ ?_)
  all_goals first|(simp;done)|(simp;omega)|(intro r;rfl)
inductive P47
 |e
inductive R47
 |r0 (r0_0:List Body) (r0_1:List ByteArray) (r0_2:List Line)
def T47(b:Book)(x:Line)(n:Int):P47->Tr P47 R47
 |.e=>let c3:List V:=[iI x.day,iI x.kind,iI x.a,iI x.b,iI x.c,iI x.d,iI x.set];let c4:=(n).toNat-((0:Int)).toNat;let c1:=(c4+1)+(((b.lines.length:Int)).toNat-(n).toNat);let c2:=(((b.lines.drop (((0:Int)).toNat)).take c4)++ [x])++((b.lines.drop ((n).toNat)).take (((b.lines.length:Int)).toNat-(n).toNat));(.wait 3 (.over (regionOf Tryz.f47 1) ⟨[.agg (cC b),.agg c3,iI n,.ref 0 0 0,.ref 1 0 0,uU,.ref 2 0 0,uU,uU,uU,uU,uU,uU,uU,uU,uU,uU,uU,uU,uU,uU,uU,uU],[.cells (cC b),.cells c3,.cells [.nils,.nils,.nils]],[]⟩ .normal ⟨[.agg (cC b),.agg c3,iI n,.ref 0 0 0,.ref 1 0 0,uU,.ref 2 0 0,.nils,.ref 0 0 2,tLine.lst b.lines,iI n,.list 7 c4 (fun i j=>rowsOf tLine b.lines (((0:Int)).toNat+i) j),uU,.agg c3,.list 7 1 (litC 7 1 c3),uU,.ref 0 0 2,tLine.lst b.lines,iI n,.list 7 (((b.lines.length:Int)).toNat-(n).toNat) (fun i j=>rowsOf tLine b.lines ((n).toNat+i) j),.row 3 c1,.ref 0 0 2,uU],[.cells [tBody.lst b.bodies,tstr.lst b.heads,.row 3 c1],.cells c3,.cells [.nils,.nils,.nils],.rows 66 7 c1 (appC (c4+1) (appC c4 (fun i j=>rowsOf tLine b.lines (((0:Int)).toNat+i) j) (litC 7 1 c3)) (fun i j=>rowsOf tLine b.lines ((n).toNat+i) j))],[]⟩ true (.telb 3 7 c1 (appC (c4+1) (appC c4 (fun i j=>rowsOf tLine b.lines (((0:Int)).toNat+i) j) (litC 7 1 c3)) (fun i j=>rowsOf tLine b.lines ((n).toNat+i) j)) (rowsOf tLine c2) (.wait 1 (.drop ⟨[uU,uU,uU,.nil,uU,uU,.nil,uU,uU,uU,uU,uU,uU,uU,uU,uU,uU,uU,uU,uU,uU,uU,uU],[.void,.void,.void,.void],[]⟩ (.frz 3 (true&&(((decide (c1<=c1))&&true)&&true)) (.telc 0 [tBody.lst b.bodies,tstr.lst b.heads,.list 7 c1 (rowsOf tLine c2)] [tBody.lst b.bodies,tstr.lst b.heads,tLine.lst c2] (.out (.r0 b.bodies b.heads c2)))))))))
noncomputable def g47(b:Book)(x:Line)(n:Int):P47->List Item × St
 |.e=>bd Tryz.f47 [.agg (cC b),.agg [iI x.day,iI x.kind,iI x.a,iI x.b,iI x.c,iI x.d,iI x.set],iI n] 20
def n47:R47->Exit × St
 |.r0 r0_0 r0_1 r0_2=>(.ret,⟨mk 23 [(6,.ref 2 0 0)],[.gone,.gone,.cells [tBody.lst r0_0,tstr.lst r0_1,tLine.lst r0_2]],[]⟩)
def v47:R47->V
 |.r0 r0_0 r0_1 r0_2=>.agg [tBody.lst r0_0,tstr.lst r0_1,tLine.lst r0_2]
theorem s47(b:Book)(x:Line)(n:Int):Sm 0 (g47 b x n) (T47 b x n) (n47)
 |.e=>⟨400,by kernel_rfl⟩
theorem q47:∀r,bodyQ Tryz.prog Tryz.f47 (·=v47 r) (n47 r).1 (n47 r).2
 |.r0 r0_0 r0_1 r0_2=>bq (.agg [tBody.lst r0_0,tstr.lst r0_1,tLine.lst r0_2]) (by kernel_rfl)
theorem w47(b:Book)(x:Line)(n:Int){post:V->Prop}(h:WQ (T47 b x n) v47 post .e):PC 47 [.agg (cC b),.agg [iI x.day,iI x.kind,iI x.a,iI x.b,iI x.c,iI x.d,iI x.set],iI n] post:=
 PCalls.wq Tryz.func47 (s47 b x n) q47 h
theorem put_lines(b:Book)(n:Int)(x:Line):((b.lines.drop (((0:Int)).toNat)).take ((n).toNat-((0:Int)).toNat))++ [x]++((b.lines.drop ((n).toNat)).take (b.lines.length-(n).toNat))=(putR b x n).lines:=by
 unfold putR;have e:(b.lines.drop n.toNat).take (b.lines.length-n.toNat)=b.lines.drop n.toNat:=List.take_of_length_le (by simp);rw[e];rfl
theorem app_any{τ:Type}(E:Ty τ)(A B:List τ){n w:Nat}(hn:n=A.length){c c2:Nat->Nat->V}(h1:∀i j,i<A.length->j<w->VLe (c i j) (rowsOf E A i j))(h2:∀i j,i<B.length->j<w->VLe (c2 i j) (rowsOf E B i j)){r j:Nat}(hr:r<A.length+B.length)(hj:j<w):VLe (appC n c c2 r j) (rowsOf E (A++B) r j):=by
 subst hn;unfold appC;by_cases g:r<A.length
 ·rw[if_pos g];have e0:(A++B).getD r E.zero=A.getD r E.zero:=by rw[gE,aL g,<-List.getD_eq_getElem?_getD]
  have e:rowsOf E (A++B) r j=rowsOf E A r j:=by unfold rowsOf;rw[e0]
  rw[e];exact h1 r j g hj
 ·rw[if_neg g];have e0:(A++B).getD r E.zero=B.getD (r-A.length) E.zero:=by rw[gE,List.getElem?_append_right (by omega),<-List.getD_eq_getElem?_getD]
  have e:rowsOf E (A++B) r j=rowsOf E B (r-A.length) j:=by unfold rowsOf;rw[e0]
  rw[e];exact h2 _ j (by omega) hj
theorem put_rows(b:Book)(x:Line)(n:Int)(h0:0<=n)(h1:n<=(b.lines.length:Int)){r j:Nat}(hr:r<n.toNat-((0:Int)).toNat+1+(b.lines.length-n.toNat))(hj:j<7):
  VLe (appC (n.toNat-((0:Int)).toNat+1) (appC (n.toNat-((0:Int)).toNat) (fun i j=>rowsOf tLine b.lines (((0:Int)).toNat+i) j) (litC 7 1 [iI x.day,iI x.kind,iI x.a,iI x.b,iI x.c,iI x.d,iI x.set])) (fun i j=>rowsOf tLine b.lines (n.toNat+i) j) r j)
   (rowsOf tLine (((b.lines.drop (((0:Int)).toNat)).take ((n).toNat-((0:Int)).toNat))++ [x]++((b.lines.drop ((n).toNat)).take (b.lines.length-(n).toNat))) r j):=by
 have h2:n.toNat<=b.lines.length:=by omega
 rw[put_lines];have e:(putR b x n).lines=b.lines.take n.toNat++ [x]++b.lines.drop n.toNat:=rfl;rw[e];have i0:((0:Int)).toNat=0:=rfl;rw[i0,Nat.sub_zero]at*;generalize n.toNat=m at*
 have hlen:(b.lines.take m).length=m:=by simp;omega
 have hl2:(b.lines.take m++ [x]).length=m+1:=by simp;omega
 have hl3:(b.lines.drop m).length=b.lines.length-m:=by simp
 refine app_any tLine _ _ (w:=7) hl2.symm (fun i j hi hj=> ?_) (fun i j hi hj=> ?_) (by omega) hj
 ·refine app_any tLine _ _ (w:=7) hlen.symm (fun i j hi hj=> ?_) (fun i j hi hj=>lit_rows tLine [x] rfl rfl (fun _=>rfl) rfl i j hi hj) (by rw[hl2]at hi;rw[hlen];exact hi) hj
  have e:rowsOf tLine (b.lines.take m) i j=rowsOf tLine b.lines (0+i) j:=by
   have e0:(b.lines.take m).getD i tLine.zero=b.lines.getD (0+i) tLine.zero:=by rw[gE,List.getElem?_take_of_lt (by omega),<-List.getD_eq_getElem?_getD,Nat.zero_add]
   unfold rowsOf;rw[e0]
  rw[e];exact VLe.refl _
 ·have e:rowsOf tLine (b.lines.drop m) i j=rowsOf tLine b.lines (m+i) j:=by
   have e0:(b.lines.drop m).getD i tLine.zero=b.lines.getD (m+i) tLine.zero:=by rw[gE,List.getElem?_drop,<-List.getD_eq_getElem?_getD]
   unfold rowsOf;rw[e0]
  rw[e];exact VLe.refl _
theorem put_at(b:Book)(x:Line)(n:Int)(h0:0<=n)(h1:n<=(b.lines.length:Int))(j:Nat):VLe (([tBody.lst b.bodies,tstr.lst b.heads,.list 7 (n.toNat-((0:Int)).toNat+1+(b.lines.length-n.toNat)) (rowsOf tLine (((b.lines.drop (((0:Int)).toNat)).take ((n).toNat-((0:Int)).toNat))++ [x]++((b.lines.drop ((n).toNat)).take (b.lines.length-(n).toNat))))]:List V).getD j uU)
  (([tBody.lst b.bodies,tstr.lst b.heads,tLine.lst (((b.lines.drop (((0:Int)).toNat)).take ((n).toNat-((0:Int)).toNat))++ [x]++((b.lines.drop ((n).toNat)).take (b.lines.length-(n).toNat)))]:List V).getD j uU):=by
 refine VLe.at ?_ [tBody.lst b.bodies,tstr.lst b.heads] [] j
 have:n.toNat-((0:Int)).toNat+1+(b.lines.length-n.toNat)=(((b.lines.drop (((0:Int)).toNat)).take ((n).toNat-((0:Int)).toNat))++ [x]++((b.lines.drop ((n).toNat)).take (b.lines.length-(n).toNat))).length:=by
  have i0:((0:Int)).toNat=0:=rfl;rw[i0];simp;omega
 rw[this];exact VLe.refl _
theorem c47(b:Book)(x:Line)(n:Int)(h0:0<=n)(h1:n<=(b.lines.length:Int))(h2:b.lines.length<=1000):PC 47 [.agg (tBook.cells b),.agg (tLine.cells x),iI n] (·=.agg (tBook.cells (putR b x n))):=by
 refine w47 b x n (WP.step ?_);simp only[T47,Go,Ends',v47,Tr.sure,SS];repeat' with_reducible first|intro _|apply aI
 all_goals first|exact(ov47_1 b x n h0 h1 h2)|(simp[Go,Ends',v47,-List.getD_eq_getElem?_getD, *];done)|skip
 all_goals first
  |exact put_rows b x n h0 h1 (by assumption) (by assumption)
  |exact put_at b x n h0 h1 _
  |(rw[put_lines];rfl)
end
noncomputable section
theorem which_in{w:Int}{n:Nat}(hw:0<=w)(hn:0<n):0<=w.tmod (n:Int)/\w.tmod (n:Int)<(n:Int):=by
 rw[Int.tmod_eq_emod_of_nonneg hw];exact⟨Int.emod_nonneg _ (by omega),Int.emod_lt_of_pos _ (by omega)⟩
theorem day_in{w:Int}(hw:0<=w):0<=dayR w/\dayR w<=364:=by
 have:=which_in (n:=365) hw (by decide);unfold dayR;have e:((365:Nat):Int)=365:=rfl;rw[e]at this;omega
end
noncomputable section
theorem index_mem{l:List ByteArray}{s:ByteArray}:0<=indexS l s↔s∈l:=by
 unfold indexS
 cases h:firstI (fun o=>same o s) 0 l with
 |some i=>
  have:=any_of_firstI h;obtain⟨x,hx,e⟩:=List.any_eq_true.1 this;rw[same_iff]at e;subst e;exact⟨fun _=>hx,fun _=>by simp⟩
 |none=>
  have:=any_of_none h;constructor
  ·intro q;simp at q
  ·intro q;have h2:l.any (fun o=>same o s)=true:=List.any_eq_true.2 ⟨s,q,same_iff.2 rfl⟩;rw[this]at h2;cases h2
theorem part_of{l m:List ByteArray}(h:∀s∈l,s∈m):partR l m=true:=by
 unfold partR;rw[List.all_eq_true];exact fun s hs=>decide_eq_true (index_mem.2 (h s hs))
theorem names_len{b:Book}(h:OkBook b)(p:ByteArray->Bool):((personsR b).filter p).length<=15:=Nat.le_trans (List.length_filter_le _ _) (persons_len h)
end
noncomputable section
theorem person_name{b:Book}(h:OkBook b){s:ByteArray}(hs:s∈personsR b):nameOk s=true:=by
 unfold personsR at hs;rw[mem_sortU]at hs;unfold allNames at hs;rw[List.mem_flatMap]at hs;obtain⟨x,hx,hs⟩:=hs;rw[List.mem_map]at hs;obtain⟨z,hz,e⟩:=hs;obtain⟨i,hi,rfl⟩:=mem_getD zBody hx;have:=(shown_iff.1 (h.shown hi)).2;obtain⟨q,hq,rfl⟩:=mem_getD zShown hz;have h2:=this q hq;unfold shownAt at h2;rw[e]at h2;split at h2
 ·cases h2
 split at h2
 ·cases h2
 split at h2
 ·cases h2
 ·rename_i g;simpa using g
end
noncomputable section
def hB(b:Book)(y:Nat->Int):Int:=(y 0).tmod (b.heads.length:Int)
end
noncomputable section
theorem first_of{b:Book}(h:OkBook b):(firstP b).2=if(truthsR b []).length=0 then 8 else 0:=by
 unfold firstP;rw[told_val h (by simp) (by decide)];split<;>simp
end
end Go.Proofs.YtemgodefhcbleaaGreat
