/-
  Part of the proof of HeadFewest. Conditions: those that stand in each theorem.
-/
import Derived.KernelRfl
import Derived.Test.YtemgodefhcbleaaGreatB16
set_option linter.unusedSimpArgs false
set_option linter.unusedVariables false
set_option maxRecDepth 100000
namespace Ab
theorem any_of_firstI{τ:Type}{p:τ→Bool}{l:List τ}{i:Nat}:firstI p 0 l=some i→l.any p=true:=fun h=>by
 rw[←firstI_any p l 0,h];rfl
theorem any_of_none{τ:Type}{p:τ→Bool}{l:List τ}:firstI p 0 l=none→l.any p=false:=fun h=>by
 rw[←firstI_any p l 0,h];rfl
end Ab
namespace Ab
open Go
section
variable {P:Program} {ro:Env} {ops:Array Oper} {S:St} {i:Nat} {o:Oper}
theorem AStep.app0(hi:ops[i]? =some o)(hw:wantedV ops S o=some true){s x:Operand}{t e:TypeId}{wd k q:Nat}{c:Nat→Nat→V}{zs:List V}
  (hop:o.op=.call {callee:=.builtin .append,args:= #[s,x],argTypes:= #[t,t]}) (hsv:S.eval s=.nils) (hxv:S.eval x=.list wd k c) (hu:P.underlying t=some (.slice e)) (hz:zeroCs P e=some zs)
  (hc:decide (hasT P e=true∧szOf P e=wd∧0<wd∧zs.length=wd∧P.bytesOf e≤32768)=true) (hvd:S.h[q]? =some .void)
  (hk:k≤4294967296) (hsc:∀r,r<k→∀j,j<wd→(c r j).scalar=true):
  AStep P ro ops i S ({S with h:=S.h.set q (.rows e wd k c)}.put o.dst (.row q k)):=by
 obtain⟨hT,hsz,h0,hzl,hby⟩:=of_decide_eq_true hc
 refine AStep.of_val hi hw (fun c hcc=>by rw[hop]at hcc;cases hcc) fun β G K a w r=> ?_
 have hs:=r.eval s
 rw[hsv]at hs
 have hx:=r.eval x
 rw[hxv]at hx
 have hlt:q<β.length:=by rw[r.h.len];exact(List.getElem?_eq_some_iff.1 hvd).1
 generalize hsx:a.eval s=sv at hs
 cases hs with
 |nils=>
  rename_i a0
  obtain⟨v',w',r1,r2,r3,r5,r4⟩:=run_fresh (ty:=o.type) hu hT hsz h0 hz hzl hby r.h (a0:=a0) hx hk hsc
  have hrun:(execOp a.eval o).run P w=.ok (.value v') w':=by
   simp only[execOp,hop,resolve,Sem.run_bind,Sem.run_pure,Result.andThen_ok,invoke,builtin,List.map_toArray,List.map_cons,List.map_nil,hsx,r1]
  rcases r4 with⟨rfl,rfl,rfl⟩|⟨hpos,g,cap',cur,rfl,hge,hcur,hnc,hcm,hcsz,hrel⟩
  ·have hle:=le_set_void (x:=.nil) (r.h.void_home hvd)
   have q1:=r.refill hvd hle (r.h.fillNil hvd e c h0)
   exact⟨_,_,_,G,K,hrun,hle.low _,G.ext_refl K,K.le_refl,q1,.row0 (List.getElem?_set_self hlt)⟩
  ·have hle:=le_set_void (x:=.lie ⟨g,wd,cap'⟩) (r.h.void_home hvd)
   have hmn:k≤maxn:=by unfold maxn;omega
   have hg':g<w'.heap.size:=(Array.getElem?_eq_some_iff.1 hcur).1
   have q1:=r.refill hvd hle (r.h.fillG r2 r3 (k:=.rows e wd k c) (x:=⟨g,wd,cap'⟩) hvd hge hg' ⟨rfl,h0,hcm,cur,hcur,hcsz,hnc,hmn,hrel⟩ r5)
   exact⟨_,_,_,G,K,hrun,hle.low _,G.ext_refl K,K.le_refl,q1,.row (List.getElem?_set_self hlt) hnc (Nat.le_refl _) hmn⟩
end
end Ab
namespace Ab
open Go
end Ab
namespace Ab
open Go
section
variable {P:Program} {ro:Env} {ops:Array Oper} {i:Nat} {S S2:St}
theorem AStep.ap0(s x:Operand)(t e q wd k:Nat)(c:Nat→Nat→V)(zs:List V)(hk:k≤4294967296)(hsc:∀r,r<k→∀j,j<wd→(c r j).scalar=true)(hi:ops[i]? =some (ops.getD i default):=by kernel_rfl)(hw:wantedV ops S (ops.getD i default)=some true:=by kernel_rfl)
  (hop:(ops.getD i default).op=.call {callee:=.builtin .append,args:= #[s,x],argTypes:= #[t,t]}:=by kernel_rfl) (hsv:S.eval s=.nils:=by kernel_rfl) (hxv:S.eval x=.list wd k c:=by kernel_rfl) (hu:P.underlying t=some (.slice e):=by kernel_rfl) (hz:zeroCs P e=some zs:=by kernel_rfl)
  (hc:decide (hasT P e=true∧szOf P e=wd∧0<wd∧zs.length=wd∧P.bytesOf e≤32768)=true:=by kernel_rfl) (hvd:S.h[q]? =some .void:=by kernel_rfl)
  (h2:({S with h:=S.h.set q (.rows e wd k c)}.put (ops.getD i default).dst (.row q k))=S2:=by kernel_rfl):AStep P ro ops i S S2:=AStep.to (AStep.app0 hi hw hop hsv hxv hu hz hc hvd hk hsc) h2
end
end Ab
namespace Go.Proofs.YtemgodefhcbleaaGreat
open Ab Go
noncomputable section
def less:List Int→List Int→Bool
 |[],[]=>false
 |[],_::_=>true
 |_::_,[]=>false
 |x::a,y::b=>if x=y then less a b else decide (x<y)
theorem less_end(a b:List Int)(h:a.length=0∨b.length=0):less a b=decide (a.length<b.length):=by
 cases a<;>cases b<;>simp_all [less]
theorem less_drop(a b:List Int){i:Nat}(ha:i<a.length)(hb:i<b.length):less (a.drop i) (b.drop i)=if a.getD i 0=b.getD i 0 then less (a.drop (i+1)) (b.drop (i+1))else decide (a.getD i 0<b.getD i 0):=by
 rw[drop_cons 0 a i ha,drop_cons 0 b i hb];rfl
inductive P97
 |e
 |l0 (x0_6:Int)
inductive R97
 |r0 (r0:Bool)
noncomputable def T97(p0:List Int)(p1:List Int):P97→Tr P97 R97
 |.e=>(.go (.l0 0))
 |.l0 x0_6=>let c1:=((decide (0≤x0_6)&&decide (x0_6<(p0.length:Int)))&&((decide (0≤x0_6)&&decide (x0_6<(p1.length:Int)))&&true))&&true;let c2:=p1.getD (x0_6).toNat tint.zero;let c3:=p0.getD (x0_6).toNat tint.zero;(.br (decide (x0_6<(min (p0.length:Int) (p1.length:Int)))) (.front [] [] c1 true (.br (c3 !=c2) (.front [] [] c1 true (.out (.r0 (decide (c3<c2))))) (.need (inR .i64 (x0_6+(1:Int))) (.go (.l0 (x0_6+(1:Int))))))) (.out (.r0 (decide ((p0.length:Int)<(p1.length:Int))))))
noncomputable def g97(p0:List Int)(p1:List Int):P97→List Item × St
 |.e=>bd Tryz.f97 [tint.lst p0,tint.lst p1] 38
 |.l0 x0_6=>(cutOf Tryz.f97 0,⟨mk 40 [(0,tint.lst p0),(1,tint.lst p1),(5,iI (min (p0.length:Int) (p1.length:Int))),(6,iI x0_6)],[],[]⟩)
noncomputable def n97:R97→Exit × St
 |.r0 r0=>(.ret,⟨mk 40 [(4,.bool r0)],[],[]⟩)
noncomputable def v97:R97→V
 |.r0 r0=>.bool r0
theorem s97(p0:List Int)(p1:List Int):Sm 0 (g97 p0 p1) (T97 p0 p1) (n97)
 |.e=>⟨400,by kernel_rfl⟩
 |.l0 _=>⟨400,by kernel_rfl⟩
theorem q97:∀r,bodyQ Tryz.prog Tryz.f97 (·=v97 r) (n97 r).1 (n97 r).2
 |.r0 r0=>bq (.bool r0) (by kernel_rfl)
theorem w97(p0:List Int)(p1:List Int){post:V→Prop}(h:WQ (T97 p0 p1) v97 post .e):PC 97 [tint.lst p0,tint.lst p1] post:=
 PCalls.wq Tryz.func97 (s97 p0 p1) q97 h
theorem e97:∀xs w,(callFunc 97 xs).run Tryz.prog w=.ok (.enter 97 xs) w:=PCalls.enters Tryz.func97 (c:=Tryz.f97.body.getD .skip) (by kernel_rfl) (by kernel_rfl)
theorem c97(a b:List Int):PC 97 [tint.lst a,tint.lst b] (·=.bool (less a b)):=by
 refine PCalls.assume e97 0 (by simp) .list fun hl=> ?_
 refine w97 _ _ (WP.step ?_)
 simp only[T97,Go,Ends',v97,Tr.sure,SS]
 repeat' with_reducible first|intro _|apply And.intro
 refine WP.count (fun i=>.l0 i) rfl (min a.length b.length) (fun i=>less a b=less (a.drop i) (b.drop i)) rfl (fun i hi hI=> ?_) fun hI=> ?_
 ·have hia:i<a.length:=by omega
  have hib:i<b.length:=by omega
  have hr:=inRi hia hl
  have hd:=less_drop a b hia hib
  have hi':((i:Nat):Int)<min (a.length:Int) (b.length:Int):=by omega
  have hd1:a.getD i 0=b.getD i 0→less a b=less (a.drop (i+1)) (b.drop (i+1)):=fun h=>by rw[hI,hd,if_pos h]
  have hd2:¬a.getD i 0=b.getD i 0→less a b=decide (a.getD i 0<b.getD i 0):=fun h=>by rw[hI,hd,if_neg h]
  clear hI hd
  refine WP.once ?_
  simp only[T97,Tr.sure,SS,hi',hia,hib,z1]
  repeat' with_reducible first|intro _|apply And.intro
  all_goals simp[hr,Go,Ends',v97,-List.getD_eq_getElem?_getD, *]
  all_goals(right;simp only[Go,Ends',v97];rw[hd2 (by assumption)];rfl)
 ·have hge:¬((min a.length b.length:Nat):Int)<min (a.length:Int) (b.length:Int):=by omega
  have he:less a b=decide ((a.length:Int)<(b.length:Int)):=by
   rw[hI,less_end _ _ (by simp only[List.length_drop];omega)]
   simp only[List.length_drop]
   congr 1
   simp only[eq_iff_iff];omega
  refine WP.step ?_
  simp only[T97,Go,Ends',v97,Tr.sure,SS,hge]
  repeat' with_reducible first|intro _|apply And.intro
  all_goals simp[he,Go,Ends',v97,-List.getD_eq_getElem?_getD, *]
inductive P44
 |e
 |l0 (x0_5:Int)
inductive R44
 |r0 (r0:Bool)
noncomputable def T44(p0:List Int)(p1:Int):P44→Tr P44 R44
 |.e=>(.go (.l0 0))
 |.l0 x0_5=>let c1:=x0_5<(p0.length:Int);(.br (decide c1) (.need (decide (0≤x0_5)&&decide c1) (.br ((p0.getD (x0_5).toNat tint.zero)==p1) (.out (.r0 true)) (.need (inR .i64 (x0_5+(1:Int))) (.go (.l0 (x0_5+(1:Int))))))) (.out (.r0 false)))
noncomputable def g44(p0:List Int)(p1:Int):P44→List Item × St
 |.e=>bd Tryz.f44 [tint.lst p0,iI p1] 16
 |.l0 x0_5=>(cutOf Tryz.f44 0,⟨mk 18 [(0,tint.lst p0),(1,iI p1),(4,.bool false),(5,iI x0_5)],[],[]⟩)
noncomputable def n44:R44→Exit × St
 |.r0 r0=>(.ret,⟨mk 18 [(4,.bool r0)],[],[]⟩)
noncomputable def v44:R44→V
 |.r0 r0=>.bool r0
theorem s44(p0:List Int)(p1:Int):Sm 0 (g44 p0 p1) (T44 p0 p1) (n44)
 |.e=>⟨400,by kernel_rfl⟩
 |.l0 _=>⟨400,by kernel_rfl⟩
theorem q44:∀r,bodyQ Tryz.prog Tryz.f44 (·=v44 r) (n44 r).1 (n44 r).2
 |.r0 r0=>bq (.bool r0) (by kernel_rfl)
theorem w44(p0:List Int)(p1:Int){post:V→Prop}(h:WQ (T44 p0 p1) v44 post .e):PC 44 [tint.lst p0,iI p1] post:=
 PCalls.wq Tryz.func44 (s44 p0 p1) q44 h
theorem e44:∀xs w,(callFunc 44 xs).run Tryz.prog w=.ok (.enter 44 xs) w:=PCalls.enters Tryz.func44 (c:=Tryz.f44.body.getD .skip) (by kernel_rfl) (by kernel_rfl)
theorem c44(l:List Int)(n:Int):PC 44 [tint.lst l,iI n] (·=.bool (hasN l n)):=by
 refine PCalls.assume e44 0 (by simp) .list fun hl=> ?_
 refine w44 _ _ (WP.step ?_)
 simp only[T44,Go,Ends',v44,Tr.sure,SS]
 repeat' with_reducible first|intro _|apply And.intro
 refine WP.findI (fun i=>.l0 i) rfl l 0 (·==n) (fun i hi=> ?_) fun hI=> ?_
 ·have hr:=inRi hi hl
  have ha:firstI (·==n) 0 l=some i→l.any (·==n)=true:=any_of_firstI
  refine WP.once ?_
  simp only[T44,Tr.sure,SS,hi,z1]
  repeat' with_reducible first|intro _|apply And.intro
  all_goals first|(simp[hr,hasN,Go,Ends',v44,-List.getD_eq_getElem?_getD, *];done)|(simp_all [hr,hasN,Go,Ends',v44,-List.getD_eq_getElem?_getD];done)
 ·have ha:=any_of_none hI
  refine WP.step ?_
  simp only[T44,Go,Ends',v44,Tr.sure,SS,Int.lt_irrefl]
  repeat' with_reducible first|intro _|apply And.intro
  all_goals simp[hasN,ha,Go,Ends',v44,-List.getD_eq_getElem?_getD, *]
inductive P50
 |e
inductive R50
 |r0 (r0:Bool)
noncomputable def T50(p0:List Int)(p1:List Int):P50→Tr P50 R50
 |.e=>(.br ((p0.length:Int) !=(p1.length:Int)) (.out (.r0 (decide ((p0.length:Int)<(p1.length:Int))))) (.call 97 [tint.lst p0,tint.lst p1] (.bool (less p0 p1)) true true (.out (.r0 (less p0 p1)))))
noncomputable def g50(p0:List Int)(p1:List Int):P50→List Item × St
 |.e=>bd Tryz.f50 [tint.lst p0,tint.lst p1] 16
noncomputable def n50:R50→Exit × St
 |.r0 r0=>(.ret,⟨mk 18 [(4,.bool r0)],[],[]⟩)
noncomputable def v50:R50→V
 |.r0 r0=>.bool r0
theorem s50(p0:List Int)(p1:List Int):Sm 0 (g50 p0 p1) (T50 p0 p1) (n50)
 |.e=>⟨400,by kernel_rfl⟩
theorem q50:∀r,bodyQ Tryz.prog Tryz.f50 (·=v50 r) (n50 r).1 (n50 r).2
 |.r0 r0=>bq (.bool r0) (by kernel_rfl)
theorem w50(p0:List Int)(p1:List Int){post:V→Prop}(h:WQ (T50 p0 p1) v50 post .e):PC 50 [tint.lst p0,tint.lst p1] post:=
 PCalls.wq Tryz.func50 (s50 p0 p1) q50 h
def fewer(a b:List Int):Bool:=if a.length≠b.length then decide (a.length<b.length)else less a b
theorem c50(a b:List Int):PC 50 [tint.lst a,tint.lst b] (·=.bool (fewer a b)):=by
 have hfe:fewer a b=if(a.length:Int)=b.length then less a b else decide (a.length<b.length):=by
  unfold fewer;simp only[ne_eq,ite_not,Int.natCast_inj]
 refine w50 _ _ (WP.step ?_)
 simp only[T50,Go,Ends',v50,Tr.sure,SS]
 repeat' with_reducible first|intro _|apply And.intro
 all_goals first|exact(c97 _ _)|(simp[hfe,Go,Ends',v50,-List.getD_eq_getElem?_getD, *];done)
end
noncomputable section
def filtTo(p:Nat→Bool)(i:Nat):List Int:=((List.range i).filter p).map fun(i:Nat)=>(i:Int)
theorem filtTo_next(p:Nat→Bool)(i:Nat):(filtTo p (i+1)).reverse=if p i=true then(i:Int)::(filtTo p i).reverse else(filtTo p i).reverse:=by
 unfold filtTo
 rw[List.range_succ,List.filter_append,List.map_append,List.reverse_append]
 by_cases h:p i=true
 ·simp[h]
 ·simp[h]
theorem filtTo_len(p:Nat→Bool)(i:Nat):(filtTo p i).length≤i:=by
 unfold filtTo
 have:=List.length_filter_le p (List.range i)
 simp only[List.length_map,List.length_range]at*;omega
end
theorem firstE_all{τ:Type}{of:Nat→τ→Int}(d:τ):∀ {l:List τ} {i:Nat},(∀j,j<l.length→of (i+j) (l.getD j d)=0)→firstE of i l=none
 |[],_,_=>rfl
 |x::l,i,h=>by
  have h0:=h 0 (by simp)
  simp only[Nat.add_zero,List.getD_cons_zero]at h0
  simp only[firstE,h0,if_true]
  refine firstE_all d fun j hj=> ?_
  have:=h (j+1) (by simpa using hj)
  rw[show i+(j+1)=i+1+j by omega]at this
  simpa using this
theorem bookCheck_of{b:Book}(h:OkBook b):bookCheck b=(0,0,0):=by
 have e1:firstE (bodyAt b.bodies) 0 b.bodies=none:=firstE_all zBody fun j hj=>by rw[Nat.zero_add];exact h.body j hj
 have e2:firstE (headAt b.heads) 0 b.heads=none:=firstE_all ByteArray.empty fun j hj=>by rw[Nat.zero_add];exact h.head j hj
 have e3:firstE (lineErr b) 0 b.lines=none:=firstE_all zLine fun j hj=>by rw[Nat.zero_add];exact h.lineE j hj
 unfold bookCheck
 have h1:=h.nb
 have h2:=h.nh
 have h3:=h.nl
 rw[if_neg (by omega),e1]
 simp only
 rw[if_neg (by omega),e2]
 simp only
 rw[if_neg (by omega),e3]
def Step1(x:Line)(h h':List Int):Prop:=∃p∈pairsR x,doneR h x p=(h',true)
def Step2(f:Bool)(x:Line)(h h':List Int):Prop:=if f=true then h'=h else Step1 x h h'
inductive Run:List Int→List (Line × Bool)→List (List Int)→Prop
 |nil (h:List Int):Run h [] []
 |cons {h h':List Int} {x:Line} {f:Bool} {L:List (Line × Bool)} {hs:List (List Int)}:Step2 f x h h'→Run h' L hs→Run h ((x,f)::L) (h'::hs)
def lastH(h:List Int)(hs:List (List Int)):List Int:=(h::hs).getD hs.length []
theorem lastH_cons(h h':List Int)(hs:List (List Int)):lastH h (h'::hs)=lastH h' hs:=by simp[lastH]
theorem Run.len{h:List Int}{L:List (Line × Bool)}{hs:List (List Int)}(r:Run h L hs):hs.length=L.length:=by
 induction r with
 |nil=>rfl
 |cons _ _ ih=>simp[ih]
theorem run_nil{h:List Int}{hs:List (List Int)}:Run h [] hs↔hs=[]:=⟨fun r=>by cases r;rfl,fun e=>e▸Run.nil h⟩
theorem run_cons{h:List Int}{x:Line}{f:Bool}{L:List (Line × Bool)}{hs:List (List Int)}:Run h ((x,f)::L) hs↔∃h' r,hs=h'::r∧Step2 f x h h'∧Run h' L r:=by
 constructor
 ·intro r;cases r with
  |cons s r=>exact⟨_,_,rfl,s,r⟩
 ·rintro⟨h',r,rfl,s,q⟩;exact .cons s q
theorem run_append{L2:List (Line × Bool)}:∀(L1:List (Line × Bool)) (h:List Int) (hs:List (List Int)),Run h (L1++L2) hs↔∃h1 h2,hs=h1++h2∧Run h L1 h1∧Run (lastH h h1) L2 h2
 |[],h,hs=>by
  constructor
  ·intro r;exact⟨[],hs,rfl,.nil h,r⟩
  ·rintro⟨h1,h2,rfl,r1,r2⟩;rw[run_nil]at r1;subst r1;exact r2
 |(x,f)::L1,h,hs=>by
  rw[List.cons_append,run_cons]
  constructor
  ·rintro⟨h',r,rfl,s,q⟩
   obtain⟨h1,h2,rfl,r1,r2⟩:=(run_append L1 h' r).1 q
   exact⟨h'::h1,h2,rfl,.cons s r1,by rw[lastH_cons];exact r2⟩
  ·rintro⟨h1,h2,rfl,r1,r2⟩
   obtain⟨h',r,rfl,s,q⟩:=run_cons.1 r1
   rw[lastH_cons]at r2
   exact⟨h',r++h2,rfl,s,(run_append L1 h' _).2 ⟨r,h2,rfl,q,r2⟩⟩
def flags(b:Book)(but:List Int)(i:Nat):List (Line × Bool):=(List.range i).map fun k=>(b.lines.getD k zLine,hasN but (k:Int))
theorem flags_succ(b:Book)(but:List Int)(i:Nat):flags b but (i+1)=flags b but i++ [(b.lines.getD i zLine,hasN but (i:Int))]:=by unfold flags;rw[List.range_succ,List.map_append];rfl
theorem mem_step{b:Book}{but:List Int}{i:Nat}{t:Truth}(hp:0<(pairsR (b.lines.getD i zLine)).length)(hv:List (List Int)):(∃u∈stepT b but i t,u.haves=hv)↔∃h',hv=t.haves++ [h']∧Step2 (hasN but (i:Int)) (b.lines.getD i zLine) (t.haves.getD i []) h':=by
 unfold stepT Step2 Step1 waysR
 generalize b.lines.getD i zLine=x at*
 constructor
 ·rintro⟨u,hu,rfl⟩
  obtain⟨k,hk,hu⟩:=List.mem_flatMap.1 hu
  rw[List.mem_range]at hk
  by_cases hb:hasN but (i:Int)=true
  ·rw[if_pos hb]at hu
   split at hu
   ·rw[List.mem_singleton.1 hu];exact⟨_,rfl,by rw[if_pos hb]⟩
   ·exact absurd hu List.not_mem_nil
  ·rw[if_neg hb]at hu
   split at hu
   ·rename_i hd
    rw[List.mem_singleton.1 hu]
    exact⟨_,rfl,by rw[if_neg hb];exact⟨_,getD_mem zPair _ k hk,Prod.ext rfl hd⟩⟩
   ·exact absurd hu List.not_mem_nil
 ·rintro⟨h',rfl,hs⟩
  by_cases hb:hasN but (i:Int)=true
  ·rw[if_pos hb]at hs
   subst hs
   exact⟨_,List.mem_flatMap.2 ⟨0,List.mem_range.2 hp,by rw[if_pos hb,if_pos rfl];exact List.mem_singleton.2 rfl⟩,rfl⟩
  ·rw[if_neg hb]at hs
   obtain⟨p,hp2,e⟩:=hs
   obtain⟨k,hk,rfl⟩:=mem_getD zPair hp2
   exact⟨_,List.mem_flatMap.2 ⟨k,List.mem_range.2 hk,by rw[if_neg hb,if_pos (by rw[e])];exact List.mem_singleton.2 rfl⟩,by simp only[e]⟩
theorem truth_run{b:Book}(h:OkBook b)(but:List Int):∀i,i≤b.lines.length→∀hv,(∃t∈truthsTo b but i,t.haves=hv)↔∃hs,hv=firstH b::hs∧Run (firstH b) (flags b but i) hs
 |0,_,hv=>by
  constructor
  ·rintro⟨t,ht,rfl⟩
   rw[truthsTo,List.mem_singleton]at ht
   subst ht
   exact⟨[],rfl,.nil _⟩
  ·rintro⟨hs,rfl,r⟩
   have:flags b but 0=[]:=rfl
   rw[this,run_nil]at r
   subst r
   exact⟨_,List.mem_singleton.2 rfl,rfl⟩
 |i+1,hi,hv=>by
  have hp:=pairs_pos (h.line (i:=i) (by omega))
  rw[flags_succ]
  have ih:=truth_run h but i (by omega)
  constructor
  ·rintro⟨t,ht,rfl⟩
   rw[truthsTo,List.mem_flatMap]at ht
   obtain⟨u,hu,ht⟩:=ht
   obtain⟨h',e,s⟩:=(mem_step hp t.haves).1 ⟨t,ht,rfl⟩
   obtain⟨hs,e2,r⟩:=(ih u.haves).1 ⟨u,hu,rfl⟩
   have hl:=r.len
   rw[flags,List.length_map,List.length_range]at hl
   refine⟨hs++ [h'],by rw[e,e2];rfl,(run_append _ _ _).2 ⟨hs,[h'],rfl,r,.cons ?_ (.nil _)⟩⟩
   rw[e2]at s
   unfold lastH;rw[hl];exact s
  ·rintro⟨hs,rfl,r⟩
   obtain⟨h1,h2,rfl,r1,r2⟩:=(run_append _ _ _).1 r
   obtain⟨h',r3,rfl,s,q⟩:=run_cons.1 r2
   rw[run_nil]at q
   subst q
   obtain⟨u,hu,e⟩:=(ih (firstH b::h1)).2 ⟨h1,rfl,r1⟩
   have hl:=r1.len
   rw[flags,List.length_map,List.length_range]at hl
   unfold lastH at s
   rw[hl,←e]at s
   obtain⟨t,ht,e3⟩:=(mem_step (b:=b) hp (u.haves++ [h'])).2 ⟨h',rfl,s⟩
   exact⟨t,by rw[truthsTo,List.mem_flatMap];exact⟨u,hu,ht⟩,by rw[e3,e];rfl⟩
def all0(l:List Line):List (Line × Bool):=l.map fun x=>(x,false)
theorem flags_all(b:Book):flags b [] b.lines.length=all0 b.lines:=by
 apply List.ext_getElem
 ·simp[flags,all0]
 ·intro i h1 h2
  have:i<b.lines.length:=by simpa[all0]using h2
  simp[flags,all0,hasN,List.getD_eq_getElem?_getD,this]
theorem truths_run{b:Book}(h:OkBook b)(hv:List (List Int)):(∃t∈truthsR b [],t.haves=hv)↔∃hs,hv=firstH b::hs∧Run (firstH b) (all0 b.lines) hs:=by
 rw[←flags_all];exact truth_run h [] _ (Nat.le_refl _) hv
theorem truth_hs{b:Book}(h:OkBook b){t:Truth}(ht:t∈truthsR b []):∃hs,t.haves=firstH b::hs∧Run (firstH b) (all0 b.lines) hs:=(truths_run h _).1 ⟨t,ht,rfl⟩
theorem hs_truth{b:Book}(h:OkBook b){hs:List (List Int)}(r:Run (firstH b) (all0 b.lines) hs):∃t∈truthsR b [],t.haves=firstH b::hs:=(truths_run h _).2 ⟨hs,rfl,r⟩
def Sorted(l:List Line):Prop:=l.Pairwise fun x y=>x.day≤y.day
theorem OkBook.sorted{b:Book}(h:OkBook b):Sorted b.lines:=by
 refine List.pairwise_iff_getElem.2 fun i j hi hj hij=> ?_
 have:=days_mono h (j-i) i (by omega)
 rw[show i+(j-i)=j by omega,List.getD_eq_getElem?_getD,List.getD_eq_getElem?_getD,List.getElem?_eq_getElem hi,List.getElem?_eq_getElem hj]at this
 exact this
theorem run_less:∀(L:List (Line × Bool)) (h:List Int),(∃hs,Run h L hs)↔∃hs,Run h (all0 ((L.filter fun x=> !x.2).map (·.1))) hs
 |[],h=>⟨fun _=>⟨[],.nil h⟩,fun _=>⟨[],.nil h⟩⟩
 |(x,true)::L,h=>by
  rw[List.filter_cons,if_neg (by simp),←run_less L h]
  constructor
  ·rintro⟨hs,r⟩
   obtain⟨h',hs,rfl,s,r⟩:=run_cons.1 r
   have:h'=h:=by unfold Step2 at s;rwa[if_pos rfl]at s
   exact⟨hs,this▸r⟩
  ·rintro⟨hs,r⟩
   exact⟨h::hs,.cons (by unfold Step2;rw[if_pos rfl]) r⟩
 |(x,false)::L,h=>by
  rw[List.filter_cons,if_pos (by simp),List.map_cons,all0,List.map_cons]
  constructor
  ·rintro⟨hs,r⟩
   obtain⟨h',hs,rfl,s,r⟩:=run_cons.1 r
   obtain⟨hs',r'⟩:=(run_less L h').1 ⟨hs,r⟩
   exact⟨h'::hs',.cons s r'⟩
  ·rintro⟨hs,r⟩
   obtain⟨h',hs,rfl,s,r⟩:=run_cons.1 r
   obtain⟨hs',r'⟩:=(run_less L h').2 ⟨hs,r⟩
   exact⟨h'::hs',.cons s r'⟩
def lessL(b:Book)(but:List Int):List Line:=(((List.range b.lines.length).filter fun(k:Nat)=> !hasN but (k:Int)).map fun k=>b.lines.getD k zLine)
theorem flags_less(b:Book)(but:List Int):((flags b but b.lines.length).filter fun x=> !x.2).map (·.1)=lessL b but:=by
 unfold flags lessL
 rw[List.filter_map,List.map_map];rfl
theorem can_less{b b':Book}{but:List Int}(h:OkBook b)(h':OkBook b')(hb:b'.bodies=b.bodies)(e:b'.lines=lessL b but):canR b but=true↔0<(truthsR b' []).length:=by
 have hf:firstH b'=firstH b:=by unfold firstH;rw[hb]
 unfold canR
 rw[decide_eq_true_eq]
 have k:(∃hs,Run (firstH b) (flags b but b.lines.length) hs)↔∃hs,Run (firstH b') (all0 b'.lines) hs:=by
  rw[run_less,flags_less,hf,e]
 constructor
 ·intro q
  obtain⟨t,ht⟩:=List.exists_mem_of_length_pos q
  obtain⟨hs,_,r⟩:=(truth_run h but _ (Nat.le_refl _) t.haves).1 ⟨t,ht,rfl⟩
  obtain⟨hs',r'⟩:=k.1 ⟨hs,r⟩
  obtain⟨t',ht',_⟩:=hs_truth h' r'
  exact List.length_pos_of_mem ht'
 ·intro q
  obtain⟨t,ht⟩:=List.exists_mem_of_length_pos q
  obtain⟨hs,_,r⟩:=truth_hs h' ht
  obtain⟨hs',r'⟩:=k.2 ⟨hs,r⟩
  obtain⟨t',ht',_⟩:=(truth_run h but _ (Nat.le_refl _) _).2 ⟨hs',rfl,r'⟩
  exact List.length_pos_of_mem ht'
theorem outside_no{lo hi:Int}{l:List Int}(h:∀n∈l,lo≤n∧n≤hi):outside lo hi l=false:=by
 unfold outside
 cases e:l.any fun n=> !within n lo hi with
 |false=>rfl
 |true=>
  obtain⟨n,hn,q⟩:=List.any_eq_true.1 e
  rw[not_iff_false]at q
  have:=within_iff.2 (h n hn)
  rw[q]at this;cases this
theorem told_val{b:Book}(h:OkBook b){ns:List Int}(hn:∀n∈ns,0≤n∧n<b.bodies.length){d:Int}(hd:0≤d∧d≤364):toldR b ns d=if(truthsR b []).length=0 then([],8)else(truthsR b [],0):=by
 have e:toldE b ns d=0:=by
  unfold toldE
  rw[bookCheck_of h,if_neg (by decide),outside_no (fun n hm=>by have:=hn n hm;omega),if_neg (by decide),within_iff.2 hd,if_pos rfl]
 unfold toldR
 rw[e,if_neg (by decide)]
section
variable {b b':Book} {D:Int→Prop}
theorem mem_filtR{n:Nat}{p:Nat→Bool}{c:Int}:c∈((List.range n).filter p).map (fun(i:Nat)=>(i:Int))↔∃i,i<n∧p i=true∧(i:Int)=c:=by
 rw[List.mem_map]
 constructor
 ·rintro⟨i,hi,e⟩
  obtain⟨h1,h2⟩:=List.mem_filter.1 hi
  exact⟨i,List.mem_range.1 h1,h2,e⟩
 ·rintro⟨i,h1,h2,e⟩;exact⟨i,List.mem_filter.2 ⟨List.mem_range.2 h1,h2⟩,e⟩
end
noncomputable section
def ascAt(l:List Int)(n:Int)(i:Nat):Bool:=decide (l.getD i 0<0)||(decide (n≤l.getD i 0)||(decide (0<i)&&decide (l.getD i 0≤l.getD (i-1) 0)))
def ascR(l:List Int)(n:Int):Bool:=(List.range l.length).all fun i=> !ascAt l n i
theorem valid_ok{b:Book}(h:validR b=true):OkBook b:=okBook (by simpa[validR]using h)
inductive P49
 |e
 |l0 (x0_5:Int)
inductive R49
 |r0 (r0:Bool)
noncomputable def T49(l:List Int)(n:Int):P49→Tr P49 R49
 |.e=>(.go (.l0 0))
 |.l0 x0_5=>let c1:=decide (0≤x0_5)&&decide (x0_5<(l.length:Int));let c2:=l.getD (x0_5).toNat tint.zero;let c3:=decide (c2<(0:Int));let c4:Tr P49 R49:=.need (inR .i64 (x0_5+(1:Int))) (.go (.l0 (x0_5+(1:Int))));let c5:=decide (x0_5>(0:Int));let c6:=x0_5-(1:Int);let c7:=decide (c2≥n);let c8:Tr P49 R49:=.out (.r0 false);(.br (decide (x0_5<(l.length:Int))) (.br c3 (.front [] [(5,true)] ((c1&&((c3==true)&&true))&&true) true (.lit true c8)) (.br c7 (.front [] [(5,false),(13,true)] ((c1&&((c3==false)&&(c1&&((c7==true)&&true))))&&true) true (.lit true c8)) (.br c5 (.front [] [(5,false),(13,false),(16,true)] ((c1&&((c3==false)&&(c1&&((c7==false)&&((c5==true)&&(c1&&((inR .i64 c6)&&((decide (0≤c6)&&decide (c6<(l.length:Int)))&&true))))))))&&true) true (.br (decide (c2≤(l.getD (c6).toNat tint.zero))) c8 c4)) (.front [] [(5,false),(13,false),(16,false)] ((c1&&((c3==false)&&(c1&&((c7==false)&&((c5==false)&&true)))))&&true) true (.lit false c4))))) (.out (.r0 true)))
noncomputable def g49(l:List Int)(n:Int):P49→List Item × St
 |.e=>bd Tryz.f49 [tint.lst l,iI n] 39
 |.l0 x0_5=>(cutOf Tryz.f49 0,⟨mk 41 [(0,tint.lst l),(1,iI n),(5,iI x0_5)],[],[]⟩)
noncomputable def n49:R49→Exit × St
 |.r0 r0=>(.ret,⟨mk 41 [(4,.bool r0)],[],[]⟩)
noncomputable def v49:R49→V
 |.r0 r0=>.bool r0
theorem s49(l:List Int)(n:Int):Sm 0 (g49 l n) (T49 l n) (n49)
 |.e=>⟨400,by kernel_rfl⟩
 |.l0 _=>⟨400,by kernel_rfl⟩
theorem q49:∀r,bodyQ Tryz.prog Tryz.f49 (·=v49 r) (n49 r).1 (n49 r).2
 |.r0 r0=>bq (.bool r0) (by kernel_rfl)
theorem w49(l:List Int)(n:Int){post:V→Prop}(h:WQ (T49 l n) v49 post .e):PC 49 [tint.lst l,iI n] post:=
 PCalls.wq Tryz.func49 (s49 l n) q49 h
theorem c49(l:List Int)(n:Int)(hl:l.length≤1000)(hp:∀i,i<l.length→inR .i64 (l.getD i 0)=true):PC 49 [tint.lst l,iI n] (·=.bool (ascR l n)):=by
 have hmain:∀k i,i+k=l.length→WP Tryz.prog ⟨none,0⟩ (T49 l n) (Ends' fun r=>v49 r=.bool (((List.range l.length).drop i).all fun i=> !ascAt l n i)) (.l0 (i:Int)):=by
  intro k
  induction k with
  |zero=>
   intro i hi
   have e:(List.range l.length).drop i=[]:=List.drop_of_length_le (by simp;omega)
   have hi':¬(i:Int)<l.length:=by omega
   rw[e]
   refine WP.step ?_
   simp only[T49,Go,Ends',v49,Tr.sure,SS,hi']
   repeat' with_reducible first|intro _|apply And.intro
   all_goals simp[Go,Ends',v49,-List.getD_eq_getElem?_getD, *]
  |succ k ih=>
   intro i hi
   have hi':(i:Int)<l.length:=by omega
   have hr:inR .i64 ((i:Int)+1)=true:=inR64 (by omega) (by omega)
   have hr2:inR .i64 ((i:Int)-1)=true:=inR64 (by omega) (by omega)
   have hn:=ih (i+1) (by omega)
   have e:(List.range l.length).drop i=i::(List.range l.length).drop (i+1):=by
    have hlt:i<(List.range l.length).length:=by rw[List.length_range];omega
    rw[drop_cons 0 (List.range l.length) i hlt,List.getD_eq_getElem?_getD,List.getElem?_eq_getElem hlt,List.getElem_range];rfl
   rw[e,List.all_cons]
   have ec:((i+1:Nat):Int)=(i:Int)+1:=rfl
   rw[ec]at hn
   generalize((List.range l.length).drop (i+1)).all (fun i=> !ascAt l n i)=R at*
   clear ih e hp
   have e2:((i:Int)-1).toNat=i-1:=by omega
   unfold ascAt
   by_cases g1:l.getD i 0<0
   ·refine WP.step ?_
    simp only[T49,Go,Ends',v49,Tr.sure,SS,hi',g1,z1,Int.toNat_natCast]
    repeat' with_reducible first|intro _|apply And.intro
    all_goals simp[hr,g1,Go,Ends',v49,-List.getD_eq_getElem?_getD, *]
   ·by_cases g2:n≤l.getD i 0
    ·refine WP.step ?_
     simp only[T49,Go,Ends',v49,Tr.sure,SS,hi',g1,g2,z1,Int.toNat_natCast]
     repeat' with_reducible first|intro _|apply And.intro
     all_goals simp[hr,g1,g2,Go,Ends',v49,-List.getD_eq_getElem?_getD, *]
    ·by_cases g3:0<i
     ·have g3':(0:Int)<i:=by omega
      have g5:0≤(i:Int)-1:=by omega
      have g6:(i:Int)-1<l.length:=by omega
      by_cases g4:l.getD i 0≤l.getD (i-1) 0
      ·refine WP.step ?_
       simp only[T49,Go,Ends',v49,Tr.sure,SS,hi',g1,g2,g3',g4,z1,e2,Int.toNat_natCast]
       repeat' with_reducible first|intro _|apply And.intro
       all_goals first|(simp[hr,hr2,g1,g2,g3,g4,g5,g6,Go,Ends',v49,-List.getD_eq_getElem?_getD, *];done)|(simp_all [hr,hr2,g1,g2,g3,g4,g5,g6,Go,Ends',v49,-List.getD_eq_getElem?_getD];done)
      ·refine WP.step ?_
       simp only[T49,Go,Ends',v49,Tr.sure,SS,hi',g1,g2,g3',g4,z1,e2,Int.toNat_natCast]
       repeat' with_reducible first|intro _|apply And.intro
       all_goals first|(simp[hr,hr2,g1,g2,g3,g4,g5,g6,Go,Ends',v49,-List.getD_eq_getElem?_getD, *];done)|(simp_all [hr,hr2,g1,g2,g3,g4,g5,g6,Go,Ends',v49,-List.getD_eq_getElem?_getD];done)
     ·have g3':¬(0:Int)<i:=by omega
      refine WP.step ?_
      simp only[T49,Go,Ends',v49,Tr.sure,SS,hi',g1,g2,g3',z1,e2,Int.toNat_natCast]
      repeat' with_reducible first|intro _|apply And.intro
      all_goals first|(simp[hr,hr2,g1,g2,g3,Go,Ends',v49,-List.getD_eq_getElem?_getD, *];done)|(simp_all [hr,hr2,g1,g2,g3,Go,Ends',v49,-List.getD_eq_getElem?_getD];done)
 have h0:=hmain l.length 0 (by omega)
 rw[List.drop_zero]at h0
 refine w49 l n (WP.step ?_)
 simp only[T49,Go,Ends',v49,Tr.sure,SS]
 repeat' with_reducible first|intro _|apply And.intro
 all_goals exact h0
end
noncomputable section
theorem asc_of{l:List Int}{n:Int}(h:l.Pairwise (·<·))(hi:∀x∈l,0≤x∧x<n):ascR l n=true:=by
 unfold ascR
 rw[List.all_eq_true]
 intro i hi2
 rw[List.mem_range]at hi2
 have h1:=hi _ (getD_mem 0 l i hi2)
 unfold ascAt
 have g1:¬l.getD i 0<0:=by omega
 have g2:¬n≤l.getD i 0:=by omega
 by_cases g3:0<i
 ·have:l.getD (i-1) 0<l.getD i 0:=by
   rw[List.getD_eq_getElem?_getD,List.getD_eq_getElem?_getD,List.getElem?_eq_getElem hi2,List.getElem?_eq_getElem (by omega)]
   exact List.pairwise_iff_getElem.1 h (i-1) i (by omega) hi2 (by omega)
  have g4:¬l.getD i 0≤l.getD (i-1) 0:=by omega
  simp only[g1,g2,g4,decide_false,Bool.or_false,Bool.and_false,Bool.not_false]
 ·simp only[g1,g2,g3,decide_false,Bool.or_false,Bool.false_and,Bool.not_false]
theorem filt_up(n:Nat)(p:Nat→Bool):(((List.range n).filter p).map fun(i:Nat)=>(i:Int)).Pairwise (·<·):=by
 rw[List.pairwise_map]
 exact(List.pairwise_lt_range.filter _).imp fun h=>by omega
end
noncomputable section
def isSome2(x:Line):Bool:=decide (x.kind=2)
structure OkLs(n:Nat)(l:List Line):Prop where
 len:l.length≤8
 ok:∀x∈l,OkLine n x
 srt:Sorted l
 some:l.countP isSome2≤2
theorem someTo_count(l:List Line):∀n,n≤l.length→someTo l n=((l.take n).countP isSome2:Int)
 |0,_=>by simp[someTo,natF]
 |n+1,hn=>by
  have e:someTo l (n+1)=if(l.getD n zLine).kind=2 then someTo l n+1 else someTo l n:=rfl
  rw[e,someTo_count l n (by omega),take_snoc zLine l n hn,List.countP_append,List.countP_singleton]
  unfold isSome2
  by_cases q:(l.getD n zLine).kind=2
  ·rw[if_pos q,if_pos (decide_eq_true q)];omega
  ·rw[if_neg q,if_neg (by simpa using q)];omega
theorem okLs{b:Book}(h:OkBook b):OkLs b.bodies.length b.lines:=by
 refine⟨h.nl,fun x hx=> ?_,h.sorted,?_⟩
 ·obtain⟨i,hi,rfl⟩:=mem_getD zLine hx;exact h.line hi
 ·have key:∀n,n≤b.lines.length→someTo b.lines n≤2:=by
   intro n
   induction n with
   |zero=>intro _;show(0:Int)≤2;decide
   |succ n ih=>
    intro hn
    have e:someTo b.lines (n+1)=if(b.lines.getD n zLine).kind=2 then someTo b.lines n+1 else someTo b.lines n:=rfl
    by_cases q:(b.lines.getD n zLine).kind=2
    ·exact(line_iff.1 (h.lineE n (by omega))).2.2 q
    ·rw[e,if_neg q];exact ih (by omega)
  have:=key _ (Nat.le_refl _)
  rw[someTo_count _ _ (Nat.le_refl _),List.take_length]at this
  omega
theorem okBook_of{b b':Book}(h:OkBook b)(hb:b'.bodies=b.bodies)(hh:b'.heads=b.heads)(hl:OkLs b.bodies.length b'.lines):OkBook b':=by
 refine⟨by rw[hb];exact h.nb,by rw[hb,hh];exact h.nh,hl.len,?_,?_,fun i hi=> ?_⟩
 ·rw[hb];exact h.body
 ·rw[hh];exact h.head
 ·refine line_iff.2 ⟨by rw[hb];exact hl.ok _ (getD_mem zLine _ i hi),fun h0=> ?_,fun _=> ?_⟩
  ·rw[List.getD_eq_getElem?_getD,List.getD_eq_getElem?_getD,List.getElem?_eq_getElem hi,List.getElem?_eq_getElem (by omega)]
   exact List.pairwise_iff_getElem.1 hl.srt (i-1) i (by omega) hi (by omega)
  ·rw[someTo_count _ _ (by omega)]
   have h1:=List.Sublist.countP_le (p:=isSome2) (List.take_sublist (i+1) b'.lines)
   have h2:=hl.some
   omega
end
noncomputable section
noncomputable def o10_5:Array Oper:=(regOf 5 (Tryz.f10.body.getD .skip)).getD #[]
@[reducible] noncomputable def st10_5 (b:Book) (w:Int) (l:List Int) (er:Int) (O:List Int) (c:Nat→Bool):St:=⟨[uU,.int .u8 w,.ref 0 0 0,uU,uU,tint.lst l,iI er,.row 1 O.length,(bif c 2 then .ref 2 0 0 else(uU)),(bif c 3 then .ref 3 0 0 else(uU)),uU,uU,uU,uU,uU,uU,uU,uU,uU,uU,uU,uU,uU,uU,uU,uU,uU,uU,uU,uU,uU,uU,uU,(bif c 0 then .agg (cC b)else(uU)),(bif c 1 then .agg (cC b)else(uU)),uU,uU,uU,uU,uU,uU,uU,uU,uU,uU,uU,uU,uU,uU,uU,uU,uU,uU,uU,uU,uU,uU,uU,uU,uU,uU,uU,uU,uU,uU,uU,uU,uU,uU,uU,uU,uU,uU,uU,uU,uU,uU,uU,uU,uU,uU,uU,uU,uU,uU,uU,uU,uU,uU,uU,uU,uU,uU,uU,uU,uU,uU,uU,uU,uU,uU,uU,uU,uU,uU,uU,uU,uU,uU,uU,uU,uU,uU,uU,uU,uU,uU,uU,uU,uU,uU,uU],[.cells (cC b),.rows 3 1 O.length (rowsRev tint O),(bif c 4 then .cells (cC b)else(bif c 2 then .cells [.nils,.nils,.nils]else(.void))),(bif c 3 then .cells [.nils,.nils,.nils]else(.void))],[]⟩
def t10_5:Tab:=[([],[1,2,3]),([],[0,2,3,4]),([],[0,1,3]),([],[0,1,2]),([0,2,3],[1])]
theorem ov10_5(b:Book)(w:Int)(l:List Int)(er:Int)(O:List Int):AWP Tryz.prog ⟨none,0⟩ (regionOf Tryz.f10 5) ⟨[uU,.int .u8 w,.ref 0 0 0,uU,uU,tint.lst l,iI er,.row 1 O.length,uU,uU,uU,uU,uU,uU,uU,uU,uU,uU,uU,uU,uU,uU,uU,uU,uU,uU,uU,uU,uU,uU,uU,uU,uU,uU,uU,uU,uU,uU,uU,uU,uU,uU,uU,uU,uU,uU,uU,uU,uU,uU,uU,uU,uU,uU,uU,uU,uU,uU,uU,uU,uU,uU,uU,uU,uU,uU,uU,uU,uU,uU,uU,uU,uU,uU,uU,uU,uU,uU,uU,uU,uU,uU,uU,uU,uU,uU,uU,uU,uU,uU,uU,uU,uU,uU,uU,uU,uU,uU,uU,uU,uU,uU,uU,uU,uU,uU,uU,uU,uU,uU,uU,uU,uU,uU,uU,uU,uU,uU,uU,uU,uU,uU],[.cells (cC b),.rows 3 1 O.length (rowsRev tint O)],[]⟩ (fun e T=>e=.normal∧T=⟨[uU,.int .u8 w,.ref 0 0 0,uU,uU,tint.lst l,iI er,.row 1 O.length,.ref 2 0 0,.ref 3 0 0,uU,uU,uU,uU,uU,uU,uU,uU,uU,uU,uU,uU,uU,uU,uU,uU,uU,uU,uU,uU,uU,uU,uU,.agg (cC b),.agg (cC b),uU,uU,uU,uU,uU,uU,uU,uU,uU,uU,uU,uU,uU,uU,uU,uU,uU,uU,uU,uU,uU,uU,uU,uU,uU,uU,uU,uU,uU,uU,uU,uU,uU,uU,uU,uU,uU,uU,uU,uU,uU,uU,uU,uU,uU,uU,uU,uU,uU,uU,uU,uU,uU,uU,uU,uU,uU,uU,uU,uU,uU,uU,uU,uU,uU,uU,uU,uU,uU,uU,uU,uU,uU,uU,uU,uU,uU,uU,uU,uU,uU,uU,uU,uU,uU,uU,uU],[.cells (cC b),.rows 3 1 O.length (rowsRev tint O),.cells (cC b),.cells (cC b)],[]⟩):=by
 refine AWP.region_bits (ops:=o10_5) 5 2 t10_5 mx (st10_5 b w l er O) (fun z_i z_h c=> ?_) ?_
 ·rcases show z_i=0∨z_i=1∨z_i=2∨z_i=3∨z_i=4 by omega with rfl|rfl|rfl|rfl|rfl
  ·exact AStep.rd true (.agg (cC b)) rfl
  ·exact AStep.rd true (.agg (cC b)) rfl
  ·exact AStep.al 26 2 [.nils,.nils,.nils]
  ·exact AStep.al 26 3 [.nils,.nils,.nils]
  ·refine AStep.tree (g:=(.done .normal (st10_5 b w l er O (mkb t10_5 4 true c)))) (by kernel_rfl) ?_
   simp only[DT.holds]
   repeat' (first|assumption|exact rfl|(with_reducible refine And.intro ?_ ?_))
   all_goals simp[*]
 ·refine AOps.tree (g:=(.done .normal ⟨[uU,.int .u8 w,.ref 0 0 0,uU,uU,tint.lst l,iI er,.row 1 O.length,.ref 2 0 0,.ref 3 0 0,uU,uU,uU,uU,uU,uU,uU,uU,uU,uU,uU,uU,uU,uU,uU,uU,uU,uU,uU,uU,uU,uU,uU,.agg (cC b),.agg (cC b),uU,uU,uU,uU,uU,uU,uU,uU,uU,uU,uU,uU,uU,uU,uU,uU,uU,uU,uU,uU,uU,uU,uU,uU,uU,uU,uU,uU,uU,uU,uU,uU,uU,uU,uU,uU,uU,uU,uU,uU,uU,uU,uU,uU,uU,uU,uU,uU,uU,uU,uU,uU,uU,uU,uU,uU,uU,uU,uU,uU,uU,uU,uU,uU,uU,uU,uU,uU,uU,uU,uU,uU,uU,uU,uU,uU,uU,uU,uU,uU,uU,uU,uU,uU,uU,uU,uU],[.cells (cC b),.rows 3 1 O.length (rowsRev tint O),.cells (cC b),.cells (cC b)],[]⟩)) (by kernel_rfl) ?_
  simp only[DT.holds]
  repeat' (first|exact rfl|refine And.intro ?_ ?_)
  all_goals simp
noncomputable def o10_11:Array Oper:=(regOf 11 (Tryz.f10.body.getD .skip)).getD #[]
@[reducible] noncomputable def st10_11 (b:Book) (w:Int) (l:List Int) (er:Int) (O:List Int) (i:Int) (A:List Line) (B:List Line) (c:Nat→Bool):St:=⟨[uU,.int .u8 w,.ref 0 0 0,uU,uU,tint.lst l,iI er,.row 1 O.length,.ref 2 0 0,.ref 3 0 0,iI i,uU,uU,uU,uU,uU,uU,uU,uU,uU,uU,uU,uU,uU,uU,uU,uU,uU,uU,uU,uU,uU,uU,uU,uU,uU,uU,uU,uU,uU,uU,uU,uU,uU,uU,uU,uU,uU,(bif c 0 then .nils else(uU)),(bif c 1 then .ref 2 0 2 else(uU)),(bif c 2 then tLine.lst A else(uU)),(bif c 3 then .row 4 A.length else(uU)),(bif c 4 then .ref 0 0 2 else(uU)),(bif c 5 then tLine.lst b.lines else(uU)),(bif c 6 then iI i else(uU)),(bif c 7 then .cref 7 fun q=>([iI ((b.lines.getD (i).toNat tLine.zero).day),iI ((b.lines.getD (i).toNat tLine.zero).kind),iI ((b.lines.getD (i).toNat tLine.zero).a),iI ((b.lines.getD (i).toNat tLine.zero).b),iI ((b.lines.getD (i).toNat tLine.zero).c),iI ((b.lines.getD (i).toNat tLine.zero).d),iI ((b.lines.getD (i).toNat tLine.zero).set)]:List V).getD q uU else(uU)),(bif c 8 then .agg [iI ((b.lines.getD (i).toNat tLine.zero).day),iI ((b.lines.getD (i).toNat tLine.zero).kind),iI ((b.lines.getD (i).toNat tLine.zero).a),iI ((b.lines.getD (i).toNat tLine.zero).b),iI ((b.lines.getD (i).toNat tLine.zero).c),iI ((b.lines.getD (i).toNat tLine.zero).d),iI ((b.lines.getD (i).toNat tLine.zero).set)]else(uU)),(bif c 9 then .list 7 1 (litC 7 1 [iI ((b.lines.getD (i).toNat tLine.zero).day),iI ((b.lines.getD (i).toNat tLine.zero).kind),iI ((b.lines.getD (i).toNat tLine.zero).a),iI ((b.lines.getD (i).toNat tLine.zero).b),iI ((b.lines.getD (i).toNat tLine.zero).c),iI ((b.lines.getD (i).toNat tLine.zero).d),iI ((b.lines.getD (i).toNat tLine.zero).set)])else(uU)),uU,uU,uU,uU,uU,uU,uU,uU,uU,uU,uU,uU,uU,uU,uU,uU,uU,uU,uU,uU,uU,uU,uU,uU,uU,uU,uU,uU,uU,uU,uU,uU,uU,uU,uU,uU,uU,uU,uU,uU,uU,uU,uU,uU,uU,uU,uU,uU,uU,uU,uU,uU,uU,uU,uU,uU,uU,uU,uU,uU,uU,uU,uU,uU],[.cells (cC b),.rows 3 1 O.length (rowsRev tint O),.cells [tBody.lst b.bodies,tstr.lst b.heads,tLine.lst A],.cells [tBody.lst b.bodies,tstr.lst b.heads,tLine.lst B],(bif c 3 then .rows 66 7 A.length (rowsOf tLine A)else(.void))],[]⟩
def t10_11:Tab:=[([],[1,2,4,5,6,7,8,9]),([],[0,4,5,6,7,8,9]),([1],[0,4,5,6,7,8,9]),([0,1,2],[4,5,6,7,8,9]),([],[0,1,2,3,6]),([4],[0,1,2,3,6]),([],[0,1,2,3,4,5]),([4,5,6],[0,1,2,3]),([4,5,6,7],[0,1,2,3]),([4,5,6,7,8],[0,1,2,3])]
theorem ov10_11(b:Book)(w:Int)(l:List Int)(er:Int)(O:List Int)(i:Int)(A:List Line)(B:List Line)(h1:(decide (0≤i)&&decide (i<(b.lines.length:Int)))=true)(h2:0+A.length+1≤4294967296)(h3:0+B.length+1≤4294967296):AWP Tryz.prog ⟨none,0⟩ (regionOf Tryz.f10 11) ⟨[uU,.int .u8 w,.ref 0 0 0,uU,uU,tint.lst l,iI er,.row 1 O.length,.ref 2 0 0,.ref 3 0 0,iI i,uU,uU,uU,uU,uU,uU,uU,uU,uU,uU,uU,uU,uU,uU,uU,uU,uU,uU,uU,uU,uU,uU,uU,uU,uU,uU,uU,uU,uU,uU,uU,uU,uU,uU,uU,uU,uU,uU,uU,uU,uU,uU,uU,uU,uU,uU,uU,uU,uU,uU,uU,uU,uU,uU,uU,uU,uU,uU,uU,uU,uU,uU,uU,uU,uU,uU,uU,uU,uU,uU,uU,uU,uU,uU,uU,uU,uU,uU,uU,uU,uU,uU,uU,uU,uU,uU,uU,uU,uU,uU,uU,uU,uU,uU,uU,uU,uU,uU,uU,uU,uU,uU,uU,uU,uU,uU,uU,uU,uU,uU,uU],[.cells (cC b),.rows 3 1 O.length (rowsRev tint O),.cells [tBody.lst b.bodies,tstr.lst b.heads,tLine.lst A],.cells [tBody.lst b.bodies,tstr.lst b.heads,tLine.lst B]],[]⟩ (fun e T=>e=.normal∧T=⟨[uU,.int .u8 w,.ref 0 0 0,uU,uU,tint.lst l,iI er,.row 1 O.length,.ref 2 0 0,.ref 3 0 0,iI i,uU,uU,uU,uU,uU,uU,uU,uU,uU,uU,uU,uU,uU,uU,uU,uU,uU,uU,uU,uU,uU,uU,uU,uU,uU,uU,uU,uU,uU,uU,uU,uU,uU,uU,uU,uU,uU,.nils,.ref 2 0 2,tLine.lst A,uU,.ref 0 0 2,tLine.lst b.lines,iI i,.cref 7 fun q=>([iI ((b.lines.getD (i).toNat tLine.zero).day),iI ((b.lines.getD (i).toNat tLine.zero).kind),iI ((b.lines.getD (i).toNat tLine.zero).a),iI ((b.lines.getD (i).toNat tLine.zero).b),iI ((b.lines.getD (i).toNat tLine.zero).c),iI ((b.lines.getD (i).toNat tLine.zero).d),iI ((b.lines.getD (i).toNat tLine.zero).set)]:List V).getD q uU,.agg [iI ((b.lines.getD (i).toNat tLine.zero).day),iI ((b.lines.getD (i).toNat tLine.zero).kind),iI ((b.lines.getD (i).toNat tLine.zero).a),iI ((b.lines.getD (i).toNat tLine.zero).b),iI ((b.lines.getD (i).toNat tLine.zero).c),iI ((b.lines.getD (i).toNat tLine.zero).d),iI ((b.lines.getD (i).toNat tLine.zero).set)],.list 7 1 (litC 7 1 [iI ((b.lines.getD (i).toNat tLine.zero).day),iI ((b.lines.getD (i).toNat tLine.zero).kind),iI ((b.lines.getD (i).toNat tLine.zero).a),iI ((b.lines.getD (i).toNat tLine.zero).b),iI ((b.lines.getD (i).toNat tLine.zero).c),iI ((b.lines.getD (i).toNat tLine.zero).d),iI ((b.lines.getD (i).toNat tLine.zero).set)]),.row 4 (A.length+1),.ref 2 0 2,uU,uU,uU,uU,uU,uU,uU,uU,uU,uU,uU,uU,uU,uU,uU,uU,uU,uU,uU,uU,uU,uU,uU,uU,uU,uU,uU,uU,uU,uU,uU,uU,uU,uU,uU,uU,uU,uU,uU,uU,uU,uU,uU,uU,uU,uU,uU,uU,uU,uU,uU,uU,uU,uU,uU,uU,uU,uU,uU,uU,uU,uU],[.cells (cC b),.rows 3 1 O.length (rowsRev tint O),.cells [tBody.lst b.bodies,tstr.lst b.heads,.row 4 (A.length+1)],.cells [tBody.lst b.bodies,tstr.lst b.heads,tLine.lst B],.rows 66 7 (A.length+1) (appC A.length (rowsOf tLine A) (litC 7 1 [iI ((b.lines.getD (i).toNat tLine.zero).day),iI ((b.lines.getD (i).toNat tLine.zero).kind),iI ((b.lines.getD (i).toNat tLine.zero).a),iI ((b.lines.getD (i).toNat tLine.zero).b),iI ((b.lines.getD (i).toNat tLine.zero).c),iI ((b.lines.getD (i).toNat tLine.zero).d),iI ((b.lines.getD (i).toNat tLine.zero).set)]))],[]⟩):=by
 refine AWP.region_bits (ops:=o10_11) 10 1 t10_11 mx (st10_11 b w l er O i A B) (fun z_i z_h c=> ?_) ?_
 ·rcases show z_i=0∨z_i=1∨z_i=2∨z_i=3∨z_i=4∨z_i=5∨z_i=6∨z_i=7∨z_i=8∨z_i=9 by omega with rfl|rfl|rfl|rfl|rfl|rfl|rfl|rfl|rfl|rfl
  ·exact AStep.lt 24 66 0 #[] [iI 0,iI 0,iI 0,iI 0,iI 0,iI 0,iI 0] []
  ·exact AStep.rd true (.ref 2 0 2) rfl
  ·exact AStep.rd true (tLine.lst A) rfl
  ·refine AStep.ap0 (.tmp 48) (.tmp 50) 24 66 4 7 A.length (rowsOf tLine A) [iI 0,iI 0,iI 0,iI 0,iI 0,iI 0,iI 0] ?_ ?_
   ·first|omega|(simp;done)|(simp;omega)
   ·intro r hr j hj;first|(have hj0:j=0:=by omega;subst hj0;rfl)|(rcases show j=0∨j=1∨j=2∨j=3∨j=4∨j=5∨j=6 by omega with rfl|rfl|rfl|rfl|rfl|rfl|rfl<;>rfl)
  ·exact AStep.rd true (.ref 0 0 2) rfl
  ·exact AStep.rd true (tLine.lst b.lines) rfl
  ·exact AStep.rd true (iI i) rfl
  ·refine AStep.rd ((decide (0≤i)&&decide (i<(b.lines.length:Int)))) (.cref 7 fun q=>([iI ((b.lines.getD (i).toNat tLine.zero).day),iI ((b.lines.getD (i).toNat tLine.zero).kind),iI ((b.lines.getD (i).toNat tLine.zero).a),iI ((b.lines.getD (i).toNat tLine.zero).b),iI ((b.lines.getD (i).toNat tLine.zero).c),iI ((b.lines.getD (i).toNat tLine.zero).d),iI ((b.lines.getD (i).toNat tLine.zero).set)]:List V).getD q uU) ?_
   first|assumption|rfl|(simp[*];done)|(simp;omega)|(simp only[Bool.and_eq_true,decide_eq_true_eq];omega)
  ·exact AStep.rd true (.agg [iI ((b.lines.getD (i).toNat tLine.zero).day),iI ((b.lines.getD (i).toNat tLine.zero).kind),iI ((b.lines.getD (i).toNat tLine.zero).a),iI ((b.lines.getD (i).toNat tLine.zero).b),iI ((b.lines.getD (i).toNat tLine.zero).c),iI ((b.lines.getD (i).toNat tLine.zero).d),iI ((b.lines.getD (i).toNat tLine.zero).set)]) rfl
  ·exact AStep.lt 24 66 1 #[(0,.tmp 56)] [iI 0,iI 0,iI 0,iI 0,iI 0,iI 0,iI 0] [iI ((b.lines.getD (i).toNat tLine.zero).day),iI ((b.lines.getD (i).toNat tLine.zero).kind),iI ((b.lines.getD (i).toNat tLine.zero).a),iI ((b.lines.getD (i).toNat tLine.zero).b),iI ((b.lines.getD (i).toNat tLine.zero).c),iI ((b.lines.getD (i).toNat tLine.zero).d),iI ((b.lines.getD (i).toNat tLine.zero).set)]
 ·refine AOps.tree (g:=(.need ((decide (A.length=A.length)&&decide (A.length+1≤4294967296))&&true) (.scal (fun _=>true) (.done .normal ⟨[uU,.int .u8 w,.ref 0 0 0,uU,uU,tint.lst l,iI er,.row 1 O.length,.ref 2 0 0,.ref 3 0 0,iI i,uU,uU,uU,uU,uU,uU,uU,uU,uU,uU,uU,uU,uU,uU,uU,uU,uU,uU,uU,uU,uU,uU,uU,uU,uU,uU,uU,uU,uU,uU,uU,uU,uU,uU,uU,uU,uU,.nils,.ref 2 0 2,tLine.lst A,uU,.ref 0 0 2,tLine.lst b.lines,iI i,.cref 7 fun q=>([iI ((b.lines.getD (i).toNat tLine.zero).day),iI ((b.lines.getD (i).toNat tLine.zero).kind),iI ((b.lines.getD (i).toNat tLine.zero).a),iI ((b.lines.getD (i).toNat tLine.zero).b),iI ((b.lines.getD (i).toNat tLine.zero).c),iI ((b.lines.getD (i).toNat tLine.zero).d),iI ((b.lines.getD (i).toNat tLine.zero).set)]:List V).getD q uU,.agg [iI ((b.lines.getD (i).toNat tLine.zero).day),iI ((b.lines.getD (i).toNat tLine.zero).kind),iI ((b.lines.getD (i).toNat tLine.zero).a),iI ((b.lines.getD (i).toNat tLine.zero).b),iI ((b.lines.getD (i).toNat tLine.zero).c),iI ((b.lines.getD (i).toNat tLine.zero).d),iI ((b.lines.getD (i).toNat tLine.zero).set)],.list 7 1 (litC 7 1 [iI ((b.lines.getD (i).toNat tLine.zero).day),iI ((b.lines.getD (i).toNat tLine.zero).kind),iI ((b.lines.getD (i).toNat tLine.zero).a),iI ((b.lines.getD (i).toNat tLine.zero).b),iI ((b.lines.getD (i).toNat tLine.zero).c),iI ((b.lines.getD (i).toNat tLine.zero).d),iI ((b.lines.getD (i).toNat tLine.zero).set)]),.row 4 (A.length+1),.ref 2 0 2,uU,uU,uU,uU,uU,uU,uU,uU,uU,uU,uU,uU,uU,uU,uU,uU,uU,uU,uU,uU,uU,uU,uU,uU,uU,uU,uU,uU,uU,uU,uU,uU,uU,uU,uU,uU,uU,uU,uU,uU,uU,uU,uU,uU,uU,uU,uU,uU,uU,uU,uU,uU,uU,uU,uU,uU,uU,uU,uU,uU,uU,uU],[.cells (cC b),.rows 3 1 O.length (rowsRev tint O),.cells [tBody.lst b.bodies,tstr.lst b.heads,.row 4 (A.length+1)],.cells [tBody.lst b.bodies,tstr.lst b.heads,tLine.lst B],.rows 66 7 (A.length+1) (appC A.length (rowsOf tLine A) (litC 7 1 [iI ((b.lines.getD (i).toNat tLine.zero).day),iI ((b.lines.getD (i).toNat tLine.zero).kind),iI ((b.lines.getD (i).toNat tLine.zero).a),iI ((b.lines.getD (i).toNat tLine.zero).b),iI ((b.lines.getD (i).toNat tLine.zero).c),iI ((b.lines.getD (i).toNat tLine.zero).d),iI ((b.lines.getD (i).toNat tLine.zero).set)]))],[]⟩)))) (by kernel_rfl) ?_
  simp only[DT.holds]
  repeat' (first|exact rfl|refine And.intro ?_ ?_)
  all_goals first|(simp;done)|(simp;omega)
noncomputable def o10_14:Array Oper:=(regOf 14 (Tryz.f10.body.getD .skip)).getD #[]
@[reducible] noncomputable def st10_14 (b:Book) (w:Int) (l:List Int) (er:Int) (O:List Int) (i:Int) (A:List Line) (B:List Line) (c:Nat→Bool):St:=⟨[uU,.int .u8 w,.ref 0 0 0,uU,uU,tint.lst l,iI er,.row 1 O.length,.ref 2 0 0,.ref 3 0 0,iI i,uU,uU,uU,uU,uU,uU,uU,uU,uU,uU,uU,uU,uU,uU,uU,uU,uU,uU,uU,uU,uU,uU,uU,uU,uU,uU,uU,uU,uU,uU,uU,uU,uU,uU,uU,uU,uU,uU,uU,uU,uU,uU,uU,uU,uU,uU,uU,uU,uU,uU,uU,uU,uU,uU,uU,uU,uU,uU,uU,(bif c 0 then .nils else(uU)),(bif c 1 then .ref 3 0 2 else(uU)),(bif c 2 then tLine.lst B else(uU)),(bif c 3 then .row 4 B.length else(uU)),(bif c 4 then .ref 0 0 2 else(uU)),(bif c 5 then tLine.lst b.lines else(uU)),(bif c 6 then iI i else(uU)),(bif c 7 then .cref 7 fun q=>([iI ((b.lines.getD (i).toNat tLine.zero).day),iI ((b.lines.getD (i).toNat tLine.zero).kind),iI ((b.lines.getD (i).toNat tLine.zero).a),iI ((b.lines.getD (i).toNat tLine.zero).b),iI ((b.lines.getD (i).toNat tLine.zero).c),iI ((b.lines.getD (i).toNat tLine.zero).d),iI ((b.lines.getD (i).toNat tLine.zero).set)]:List V).getD q uU else(uU)),(bif c 8 then .agg [iI ((b.lines.getD (i).toNat tLine.zero).day),iI ((b.lines.getD (i).toNat tLine.zero).kind),iI ((b.lines.getD (i).toNat tLine.zero).a),iI ((b.lines.getD (i).toNat tLine.zero).b),iI ((b.lines.getD (i).toNat tLine.zero).c),iI ((b.lines.getD (i).toNat tLine.zero).d),iI ((b.lines.getD (i).toNat tLine.zero).set)]else(uU)),(bif c 9 then .list 7 1 (litC 7 1 [iI ((b.lines.getD (i).toNat tLine.zero).day),iI ((b.lines.getD (i).toNat tLine.zero).kind),iI ((b.lines.getD (i).toNat tLine.zero).a),iI ((b.lines.getD (i).toNat tLine.zero).b),iI ((b.lines.getD (i).toNat tLine.zero).c),iI ((b.lines.getD (i).toNat tLine.zero).d),iI ((b.lines.getD (i).toNat tLine.zero).set)])else(uU)),uU,uU,uU,uU,uU,uU,uU,uU,uU,uU,uU,uU,uU,uU,uU,uU,uU,uU,uU,uU,uU,uU,uU,uU,uU,uU,uU,uU,uU,uU,uU,uU,uU,uU,uU,uU,uU,uU,uU,uU,uU,uU],[.cells (cC b),.rows 3 1 O.length (rowsRev tint O),.cells [tBody.lst b.bodies,tstr.lst b.heads,tLine.lst A],.cells [tBody.lst b.bodies,tstr.lst b.heads,tLine.lst B],(bif c 3 then .rows 66 7 B.length (rowsOf tLine B)else(.void))],[]⟩
def t10_14:Tab:=[([],[1,2,4,5,6,7,8,9]),([],[0,4,5,6,7,8,9]),([1],[0,4,5,6,7,8,9]),([0,1,2],[4,5,6,7,8,9]),([],[0,1,2,3,6]),([4],[0,1,2,3,6]),([],[0,1,2,3,4,5]),([4,5,6],[0,1,2,3]),([4,5,6,7],[0,1,2,3]),([4,5,6,7,8],[0,1,2,3])]
theorem ov10_14(b:Book)(w:Int)(l:List Int)(er:Int)(O:List Int)(i:Int)(A:List Line)(B:List Line)(h1:(decide (0≤i)&&decide (i<(b.lines.length:Int)))=true)(h2:0+A.length+1≤4294967296)(h3:0+B.length+1≤4294967296):AWP Tryz.prog ⟨none,0⟩ (regionOf Tryz.f10 14) ⟨[uU,.int .u8 w,.ref 0 0 0,uU,uU,tint.lst l,iI er,.row 1 O.length,.ref 2 0 0,.ref 3 0 0,iI i,uU,uU,uU,uU,uU,uU,uU,uU,uU,uU,uU,uU,uU,uU,uU,uU,uU,uU,uU,uU,uU,uU,uU,uU,uU,uU,uU,uU,uU,uU,uU,uU,uU,uU,uU,uU,uU,uU,uU,uU,uU,uU,uU,uU,uU,uU,uU,uU,uU,uU,uU,uU,uU,uU,uU,uU,uU,uU,uU,uU,uU,uU,uU,uU,uU,uU,uU,uU,uU,uU,uU,uU,uU,uU,uU,uU,uU,uU,uU,uU,uU,uU,uU,uU,uU,uU,uU,uU,uU,uU,uU,uU,uU,uU,uU,uU,uU,uU,uU,uU,uU,uU,uU,uU,uU,uU,uU,uU,uU,uU,uU],[.cells (cC b),.rows 3 1 O.length (rowsRev tint O),.cells [tBody.lst b.bodies,tstr.lst b.heads,tLine.lst A],.cells [tBody.lst b.bodies,tstr.lst b.heads,tLine.lst B]],[]⟩ (fun e T=>e=.normal∧T=⟨[uU,.int .u8 w,.ref 0 0 0,uU,uU,tint.lst l,iI er,.row 1 O.length,.ref 2 0 0,.ref 3 0 0,iI i,uU,uU,uU,uU,uU,uU,uU,uU,uU,uU,uU,uU,uU,uU,uU,uU,uU,uU,uU,uU,uU,uU,uU,uU,uU,uU,uU,uU,uU,uU,uU,uU,uU,uU,uU,uU,uU,uU,uU,uU,uU,uU,uU,uU,uU,uU,uU,uU,uU,uU,uU,uU,uU,uU,uU,uU,uU,uU,uU,.nils,.ref 3 0 2,tLine.lst B,uU,.ref 0 0 2,tLine.lst b.lines,iI i,.cref 7 fun q=>([iI ((b.lines.getD (i).toNat tLine.zero).day),iI ((b.lines.getD (i).toNat tLine.zero).kind),iI ((b.lines.getD (i).toNat tLine.zero).a),iI ((b.lines.getD (i).toNat tLine.zero).b),iI ((b.lines.getD (i).toNat tLine.zero).c),iI ((b.lines.getD (i).toNat tLine.zero).d),iI ((b.lines.getD (i).toNat tLine.zero).set)]:List V).getD q uU,.agg [iI ((b.lines.getD (i).toNat tLine.zero).day),iI ((b.lines.getD (i).toNat tLine.zero).kind),iI ((b.lines.getD (i).toNat tLine.zero).a),iI ((b.lines.getD (i).toNat tLine.zero).b),iI ((b.lines.getD (i).toNat tLine.zero).c),iI ((b.lines.getD (i).toNat tLine.zero).d),iI ((b.lines.getD (i).toNat tLine.zero).set)],.list 7 1 (litC 7 1 [iI ((b.lines.getD (i).toNat tLine.zero).day),iI ((b.lines.getD (i).toNat tLine.zero).kind),iI ((b.lines.getD (i).toNat tLine.zero).a),iI ((b.lines.getD (i).toNat tLine.zero).b),iI ((b.lines.getD (i).toNat tLine.zero).c),iI ((b.lines.getD (i).toNat tLine.zero).d),iI ((b.lines.getD (i).toNat tLine.zero).set)]),.row 4 (B.length+1),.ref 3 0 2,uU,uU,uU,uU,uU,uU,uU,uU,uU,uU,uU,uU,uU,uU,uU,uU,uU,uU,uU,uU,uU,uU,uU,uU,uU,uU,uU,uU,uU,uU,uU,uU,uU,uU,uU,uU,uU,uU,uU,uU],[.cells (cC b),.rows 3 1 O.length (rowsRev tint O),.cells [tBody.lst b.bodies,tstr.lst b.heads,tLine.lst A],.cells [tBody.lst b.bodies,tstr.lst b.heads,.row 4 (B.length+1)],.rows 66 7 (B.length+1) (appC B.length (rowsOf tLine B) (litC 7 1 [iI ((b.lines.getD (i).toNat tLine.zero).day),iI ((b.lines.getD (i).toNat tLine.zero).kind),iI ((b.lines.getD (i).toNat tLine.zero).a),iI ((b.lines.getD (i).toNat tLine.zero).b),iI ((b.lines.getD (i).toNat tLine.zero).c),iI ((b.lines.getD (i).toNat tLine.zero).d),iI ((b.lines.getD (i).toNat tLine.zero).set)]))],[]⟩):=by
 refine AWP.region_bits (ops:=o10_14) 10 1 t10_14 mx (st10_14 b w l er O i A B) (fun z_i z_h c=> ?_) ?_
 ·rcases show z_i=0∨z_i=1∨z_i=2∨z_i=3∨z_i=4∨z_i=5∨z_i=6∨z_i=7∨z_i=8∨z_i=9 by omega with rfl|rfl|rfl|rfl|rfl|rfl|rfl|rfl|rfl|rfl
  ·exact AStep.lt 24 66 0 #[] [iI 0,iI 0,iI 0,iI 0,iI 0,iI 0,iI 0] []
  ·exact AStep.rd true (.ref 3 0 2) rfl
  ·exact AStep.rd true (tLine.lst B) rfl
  ·refine AStep.ap0 (.tmp 70) (.tmp 72) 24 66 4 7 B.length (rowsOf tLine B) [iI 0,iI 0,iI 0,iI 0,iI 0,iI 0,iI 0] ?_ ?_
   ·first|omega|(simp;done)|(simp;omega)
   ·intro r hr j hj;first|(have hj0:j=0:=by omega;subst hj0;rfl)|(rcases show j=0∨j=1∨j=2∨j=3∨j=4∨j=5∨j=6 by omega with rfl|rfl|rfl|rfl|rfl|rfl|rfl<;>rfl)
  ·exact AStep.rd true (.ref 0 0 2) rfl
  ·exact AStep.rd true (tLine.lst b.lines) rfl
  ·exact AStep.rd true (iI i) rfl
  ·refine AStep.rd ((decide (0≤i)&&decide (i<(b.lines.length:Int)))) (.cref 7 fun q=>([iI ((b.lines.getD (i).toNat tLine.zero).day),iI ((b.lines.getD (i).toNat tLine.zero).kind),iI ((b.lines.getD (i).toNat tLine.zero).a),iI ((b.lines.getD (i).toNat tLine.zero).b),iI ((b.lines.getD (i).toNat tLine.zero).c),iI ((b.lines.getD (i).toNat tLine.zero).d),iI ((b.lines.getD (i).toNat tLine.zero).set)]:List V).getD q uU) ?_
   first|assumption|rfl|(simp[*];done)|(simp;omega)|(simp only[Bool.and_eq_true,decide_eq_true_eq];omega)
  ·exact AStep.rd true (.agg [iI ((b.lines.getD (i).toNat tLine.zero).day),iI ((b.lines.getD (i).toNat tLine.zero).kind),iI ((b.lines.getD (i).toNat tLine.zero).a),iI ((b.lines.getD (i).toNat tLine.zero).b),iI ((b.lines.getD (i).toNat tLine.zero).c),iI ((b.lines.getD (i).toNat tLine.zero).d),iI ((b.lines.getD (i).toNat tLine.zero).set)]) rfl
  ·exact AStep.lt 24 66 1 #[(0,.tmp 78)] [iI 0,iI 0,iI 0,iI 0,iI 0,iI 0,iI 0] [iI ((b.lines.getD (i).toNat tLine.zero).day),iI ((b.lines.getD (i).toNat tLine.zero).kind),iI ((b.lines.getD (i).toNat tLine.zero).a),iI ((b.lines.getD (i).toNat tLine.zero).b),iI ((b.lines.getD (i).toNat tLine.zero).c),iI ((b.lines.getD (i).toNat tLine.zero).d),iI ((b.lines.getD (i).toNat tLine.zero).set)]
 ·refine AOps.tree (g:=(.need ((decide (B.length=B.length)&&decide (B.length+1≤4294967296))&&true) (.scal (fun _=>true) (.done .normal ⟨[uU,.int .u8 w,.ref 0 0 0,uU,uU,tint.lst l,iI er,.row 1 O.length,.ref 2 0 0,.ref 3 0 0,iI i,uU,uU,uU,uU,uU,uU,uU,uU,uU,uU,uU,uU,uU,uU,uU,uU,uU,uU,uU,uU,uU,uU,uU,uU,uU,uU,uU,uU,uU,uU,uU,uU,uU,uU,uU,uU,uU,uU,uU,uU,uU,uU,uU,uU,uU,uU,uU,uU,uU,uU,uU,uU,uU,uU,uU,uU,uU,uU,uU,.nils,.ref 3 0 2,tLine.lst B,uU,.ref 0 0 2,tLine.lst b.lines,iI i,.cref 7 fun q=>([iI ((b.lines.getD (i).toNat tLine.zero).day),iI ((b.lines.getD (i).toNat tLine.zero).kind),iI ((b.lines.getD (i).toNat tLine.zero).a),iI ((b.lines.getD (i).toNat tLine.zero).b),iI ((b.lines.getD (i).toNat tLine.zero).c),iI ((b.lines.getD (i).toNat tLine.zero).d),iI ((b.lines.getD (i).toNat tLine.zero).set)]:List V).getD q uU,.agg [iI ((b.lines.getD (i).toNat tLine.zero).day),iI ((b.lines.getD (i).toNat tLine.zero).kind),iI ((b.lines.getD (i).toNat tLine.zero).a),iI ((b.lines.getD (i).toNat tLine.zero).b),iI ((b.lines.getD (i).toNat tLine.zero).c),iI ((b.lines.getD (i).toNat tLine.zero).d),iI ((b.lines.getD (i).toNat tLine.zero).set)],.list 7 1 (litC 7 1 [iI ((b.lines.getD (i).toNat tLine.zero).day),iI ((b.lines.getD (i).toNat tLine.zero).kind),iI ((b.lines.getD (i).toNat tLine.zero).a),iI ((b.lines.getD (i).toNat tLine.zero).b),iI ((b.lines.getD (i).toNat tLine.zero).c),iI ((b.lines.getD (i).toNat tLine.zero).d),iI ((b.lines.getD (i).toNat tLine.zero).set)]),.row 4 (B.length+1),.ref 3 0 2,uU,uU,uU,uU,uU,uU,uU,uU,uU,uU,uU,uU,uU,uU,uU,uU,uU,uU,uU,uU,uU,uU,uU,uU,uU,uU,uU,uU,uU,uU,uU,uU,uU,uU,uU,uU,uU,uU,uU,uU],[.cells (cC b),.rows 3 1 O.length (rowsRev tint O),.cells [tBody.lst b.bodies,tstr.lst b.heads,tLine.lst A],.cells [tBody.lst b.bodies,tstr.lst b.heads,.row 4 (B.length+1)],.rows 66 7 (B.length+1) (appC B.length (rowsOf tLine B) (litC 7 1 [iI ((b.lines.getD (i).toNat tLine.zero).day),iI ((b.lines.getD (i).toNat tLine.zero).kind),iI ((b.lines.getD (i).toNat tLine.zero).a),iI ((b.lines.getD (i).toNat tLine.zero).b),iI ((b.lines.getD (i).toNat tLine.zero).c),iI ((b.lines.getD (i).toNat tLine.zero).d),iI ((b.lines.getD (i).toNat tLine.zero).set)]))],[]⟩)))) (by kernel_rfl) ?_
  simp only[DT.holds]
  repeat' (first|exact rfl|refine And.intro ?_ ?_)
  all_goals first|(simp;done)|(simp;omega)
noncomputable def o10_14g:Array Oper:=(regOf 14 (Tryz.f10.body.getD .skip)).getD #[]
@[reducible] noncomputable def st10_14g (b:Book) (w:Int) (l:List Int) (er:Int) (O:List Int) (i:Int) (A:List Line) (B:List Line) (c:Nat→Bool):St:=⟨[uU,.int .u8 w,.ref 0 0 0,uU,uU,tint.lst l,iI er,.row 1 O.length,.ref 2 0 0,.ref 3 0 0,iI i,uU,uU,uU,uU,uU,uU,uU,uU,uU,uU,uU,uU,uU,uU,uU,uU,uU,uU,uU,uU,uU,uU,uU,uU,uU,uU,uU,uU,uU,uU,uU,uU,uU,uU,uU,uU,uU,uU,uU,uU,uU,uU,uU,uU,uU,uU,uU,uU,uU,uU,uU,uU,uU,uU,uU,uU,uU,uU,uU,(bif c 0 then .nils else(uU)),(bif c 1 then .ref 3 0 2 else(uU)),(bif c 2 then tLine.lst B else(uU)),(bif c 3 then .row 5 B.length else(uU)),(bif c 4 then .ref 0 0 2 else(uU)),(bif c 5 then tLine.lst b.lines else(uU)),(bif c 6 then iI i else(uU)),(bif c 7 then .cref 7 fun q=>([iI ((b.lines.getD (i).toNat tLine.zero).day),iI ((b.lines.getD (i).toNat tLine.zero).kind),iI ((b.lines.getD (i).toNat tLine.zero).a),iI ((b.lines.getD (i).toNat tLine.zero).b),iI ((b.lines.getD (i).toNat tLine.zero).c),iI ((b.lines.getD (i).toNat tLine.zero).d),iI ((b.lines.getD (i).toNat tLine.zero).set)]:List V).getD q uU else(uU)),(bif c 8 then .agg [iI ((b.lines.getD (i).toNat tLine.zero).day),iI ((b.lines.getD (i).toNat tLine.zero).kind),iI ((b.lines.getD (i).toNat tLine.zero).a),iI ((b.lines.getD (i).toNat tLine.zero).b),iI ((b.lines.getD (i).toNat tLine.zero).c),iI ((b.lines.getD (i).toNat tLine.zero).d),iI ((b.lines.getD (i).toNat tLine.zero).set)]else(uU)),(bif c 9 then .list 7 1 (litC 7 1 [iI ((b.lines.getD (i).toNat tLine.zero).day),iI ((b.lines.getD (i).toNat tLine.zero).kind),iI ((b.lines.getD (i).toNat tLine.zero).a),iI ((b.lines.getD (i).toNat tLine.zero).b),iI ((b.lines.getD (i).toNat tLine.zero).c),iI ((b.lines.getD (i).toNat tLine.zero).d),iI ((b.lines.getD (i).toNat tLine.zero).set)])else(uU)),uU,uU,uU,uU,uU,uU,uU,uU,uU,uU,uU,uU,uU,uU,uU,uU,uU,uU,uU,uU,uU,uU,uU,uU,uU,uU,uU,uU,uU,uU,uU,uU,uU,uU,uU,uU,uU,uU,uU,uU,uU,uU],[.cells (cC b),.rows 3 1 O.length (rowsRev tint O),.cells [tBody.lst b.bodies,tstr.lst b.heads,tLine.lst A],.cells [tBody.lst b.bodies,tstr.lst b.heads,tLine.lst B],.gone,(bif c 3 then .rows 66 7 B.length (rowsOf tLine B)else(.void))],[]⟩
def t10_14g:Tab:=[([],[1,2,4,5,6,7,8,9]),([],[0,4,5,6,7,8,9]),([1],[0,4,5,6,7,8,9]),([0,1,2],[4,5,6,7,8,9]),([],[0,1,2,3,6]),([4],[0,1,2,3,6]),([],[0,1,2,3,4,5]),([4,5,6],[0,1,2,3]),([4,5,6,7],[0,1,2,3]),([4,5,6,7,8],[0,1,2,3])]
theorem ov10_14g(b:Book)(w:Int)(l:List Int)(er:Int)(O:List Int)(i:Int)(A:List Line)(B:List Line)(h1:(decide (0≤i)&&decide (i<(b.lines.length:Int)))=true)(h2:0+A.length+1≤4294967296)(h3:0+B.length+1≤4294967296):AWP Tryz.prog ⟨none,0⟩ (regionOf Tryz.f10 14) ⟨[uU,.int .u8 w,.ref 0 0 0,uU,uU,tint.lst l,iI er,.row 1 O.length,.ref 2 0 0,.ref 3 0 0,iI i,uU,uU,uU,uU,uU,uU,uU,uU,uU,uU,uU,uU,uU,uU,uU,uU,uU,uU,uU,uU,uU,uU,uU,uU,uU,uU,uU,uU,uU,uU,uU,uU,uU,uU,uU,uU,uU,uU,uU,uU,uU,uU,uU,uU,uU,uU,uU,uU,uU,uU,uU,uU,uU,uU,uU,uU,uU,uU,uU,uU,uU,uU,uU,uU,uU,uU,uU,uU,uU,uU,uU,uU,uU,uU,uU,uU,uU,uU,uU,uU,uU,uU,uU,uU,uU,uU,uU,uU,uU,uU,uU,uU,uU,uU,uU,uU,uU,uU,uU,uU,uU,uU,uU,uU,uU,uU,uU,uU,uU,uU,uU],[.cells (cC b),.rows 3 1 O.length (rowsRev tint O),.cells [tBody.lst b.bodies,tstr.lst b.heads,tLine.lst A],.cells [tBody.lst b.bodies,tstr.lst b.heads,tLine.lst B],.gone],[]⟩ (fun e T=>e=.normal∧T=⟨[uU,.int .u8 w,.ref 0 0 0,uU,uU,tint.lst l,iI er,.row 1 O.length,.ref 2 0 0,.ref 3 0 0,iI i,uU,uU,uU,uU,uU,uU,uU,uU,uU,uU,uU,uU,uU,uU,uU,uU,uU,uU,uU,uU,uU,uU,uU,uU,uU,uU,uU,uU,uU,uU,uU,uU,uU,uU,uU,uU,uU,uU,uU,uU,uU,uU,uU,uU,uU,uU,uU,uU,uU,uU,uU,uU,uU,uU,uU,uU,uU,uU,uU,.nils,.ref 3 0 2,tLine.lst B,uU,.ref 0 0 2,tLine.lst b.lines,iI i,.cref 7 fun q=>([iI ((b.lines.getD (i).toNat tLine.zero).day),iI ((b.lines.getD (i).toNat tLine.zero).kind),iI ((b.lines.getD (i).toNat tLine.zero).a),iI ((b.lines.getD (i).toNat tLine.zero).b),iI ((b.lines.getD (i).toNat tLine.zero).c),iI ((b.lines.getD (i).toNat tLine.zero).d),iI ((b.lines.getD (i).toNat tLine.zero).set)]:List V).getD q uU,.agg [iI ((b.lines.getD (i).toNat tLine.zero).day),iI ((b.lines.getD (i).toNat tLine.zero).kind),iI ((b.lines.getD (i).toNat tLine.zero).a),iI ((b.lines.getD (i).toNat tLine.zero).b),iI ((b.lines.getD (i).toNat tLine.zero).c),iI ((b.lines.getD (i).toNat tLine.zero).d),iI ((b.lines.getD (i).toNat tLine.zero).set)],.list 7 1 (litC 7 1 [iI ((b.lines.getD (i).toNat tLine.zero).day),iI ((b.lines.getD (i).toNat tLine.zero).kind),iI ((b.lines.getD (i).toNat tLine.zero).a),iI ((b.lines.getD (i).toNat tLine.zero).b),iI ((b.lines.getD (i).toNat tLine.zero).c),iI ((b.lines.getD (i).toNat tLine.zero).d),iI ((b.lines.getD (i).toNat tLine.zero).set)]),.row 5 (B.length+1),.ref 3 0 2,uU,uU,uU,uU,uU,uU,uU,uU,uU,uU,uU,uU,uU,uU,uU,uU,uU,uU,uU,uU,uU,uU,uU,uU,uU,uU,uU,uU,uU,uU,uU,uU,uU,uU,uU,uU,uU,uU,uU,uU],[.cells (cC b),.rows 3 1 O.length (rowsRev tint O),.cells [tBody.lst b.bodies,tstr.lst b.heads,tLine.lst A],.cells [tBody.lst b.bodies,tstr.lst b.heads,.row 5 (B.length+1)],.gone,.rows 66 7 (B.length+1) (appC B.length (rowsOf tLine B) (litC 7 1 [iI ((b.lines.getD (i).toNat tLine.zero).day),iI ((b.lines.getD (i).toNat tLine.zero).kind),iI ((b.lines.getD (i).toNat tLine.zero).a),iI ((b.lines.getD (i).toNat tLine.zero).b),iI ((b.lines.getD (i).toNat tLine.zero).c),iI ((b.lines.getD (i).toNat tLine.zero).d),iI ((b.lines.getD (i).toNat tLine.zero).set)]))],[]⟩):=by
 refine AWP.region_bits (ops:=o10_14g) 10 1 t10_14g mx (st10_14g b w l er O i A B) (fun z_i z_h c=> ?_) ?_
 ·rcases show z_i=0∨z_i=1∨z_i=2∨z_i=3∨z_i=4∨z_i=5∨z_i=6∨z_i=7∨z_i=8∨z_i=9 by omega with rfl|rfl|rfl|rfl|rfl|rfl|rfl|rfl|rfl|rfl
  ·exact AStep.lt 24 66 0 #[] [iI 0,iI 0,iI 0,iI 0,iI 0,iI 0,iI 0] []
  ·exact AStep.rd true (.ref 3 0 2) rfl
  ·exact AStep.rd true (tLine.lst B) rfl
  ·refine AStep.ap0 (.tmp 70) (.tmp 72) 24 66 5 7 B.length (rowsOf tLine B) [iI 0,iI 0,iI 0,iI 0,iI 0,iI 0,iI 0] ?_ ?_
   ·first|omega|(simp;done)|(simp;omega)
   ·intro r hr j hj;first|(have hj0:j=0:=by omega;subst hj0;rfl)|(rcases show j=0∨j=1∨j=2∨j=3∨j=4∨j=5∨j=6 by omega with rfl|rfl|rfl|rfl|rfl|rfl|rfl<;>rfl)
  ·exact AStep.rd true (.ref 0 0 2) rfl
  ·exact AStep.rd true (tLine.lst b.lines) rfl
  ·exact AStep.rd true (iI i) rfl
  ·refine AStep.rd ((decide (0≤i)&&decide (i<(b.lines.length:Int)))) (.cref 7 fun q=>([iI ((b.lines.getD (i).toNat tLine.zero).day),iI ((b.lines.getD (i).toNat tLine.zero).kind),iI ((b.lines.getD (i).toNat tLine.zero).a),iI ((b.lines.getD (i).toNat tLine.zero).b),iI ((b.lines.getD (i).toNat tLine.zero).c),iI ((b.lines.getD (i).toNat tLine.zero).d),iI ((b.lines.getD (i).toNat tLine.zero).set)]:List V).getD q uU) ?_
   first|assumption|rfl|(simp[*];done)|(simp;omega)|(simp only[Bool.and_eq_true,decide_eq_true_eq];omega)
  ·exact AStep.rd true (.agg [iI ((b.lines.getD (i).toNat tLine.zero).day),iI ((b.lines.getD (i).toNat tLine.zero).kind),iI ((b.lines.getD (i).toNat tLine.zero).a),iI ((b.lines.getD (i).toNat tLine.zero).b),iI ((b.lines.getD (i).toNat tLine.zero).c),iI ((b.lines.getD (i).toNat tLine.zero).d),iI ((b.lines.getD (i).toNat tLine.zero).set)]) rfl
  ·exact AStep.lt 24 66 1 #[(0,.tmp 78)] [iI 0,iI 0,iI 0,iI 0,iI 0,iI 0,iI 0] [iI ((b.lines.getD (i).toNat tLine.zero).day),iI ((b.lines.getD (i).toNat tLine.zero).kind),iI ((b.lines.getD (i).toNat tLine.zero).a),iI ((b.lines.getD (i).toNat tLine.zero).b),iI ((b.lines.getD (i).toNat tLine.zero).c),iI ((b.lines.getD (i).toNat tLine.zero).d),iI ((b.lines.getD (i).toNat tLine.zero).set)]
 ·refine AOps.tree (g:=(.need ((decide (B.length=B.length)&&decide (B.length+1≤4294967296))&&true) (.scal (fun _=>true) (.done .normal ⟨[uU,.int .u8 w,.ref 0 0 0,uU,uU,tint.lst l,iI er,.row 1 O.length,.ref 2 0 0,.ref 3 0 0,iI i,uU,uU,uU,uU,uU,uU,uU,uU,uU,uU,uU,uU,uU,uU,uU,uU,uU,uU,uU,uU,uU,uU,uU,uU,uU,uU,uU,uU,uU,uU,uU,uU,uU,uU,uU,uU,uU,uU,uU,uU,uU,uU,uU,uU,uU,uU,uU,uU,uU,uU,uU,uU,uU,uU,uU,uU,uU,uU,uU,.nils,.ref 3 0 2,tLine.lst B,uU,.ref 0 0 2,tLine.lst b.lines,iI i,.cref 7 fun q=>([iI ((b.lines.getD (i).toNat tLine.zero).day),iI ((b.lines.getD (i).toNat tLine.zero).kind),iI ((b.lines.getD (i).toNat tLine.zero).a),iI ((b.lines.getD (i).toNat tLine.zero).b),iI ((b.lines.getD (i).toNat tLine.zero).c),iI ((b.lines.getD (i).toNat tLine.zero).d),iI ((b.lines.getD (i).toNat tLine.zero).set)]:List V).getD q uU,.agg [iI ((b.lines.getD (i).toNat tLine.zero).day),iI ((b.lines.getD (i).toNat tLine.zero).kind),iI ((b.lines.getD (i).toNat tLine.zero).a),iI ((b.lines.getD (i).toNat tLine.zero).b),iI ((b.lines.getD (i).toNat tLine.zero).c),iI ((b.lines.getD (i).toNat tLine.zero).d),iI ((b.lines.getD (i).toNat tLine.zero).set)],.list 7 1 (litC 7 1 [iI ((b.lines.getD (i).toNat tLine.zero).day),iI ((b.lines.getD (i).toNat tLine.zero).kind),iI ((b.lines.getD (i).toNat tLine.zero).a),iI ((b.lines.getD (i).toNat tLine.zero).b),iI ((b.lines.getD (i).toNat tLine.zero).c),iI ((b.lines.getD (i).toNat tLine.zero).d),iI ((b.lines.getD (i).toNat tLine.zero).set)]),.row 5 (B.length+1),.ref 3 0 2,uU,uU,uU,uU,uU,uU,uU,uU,uU,uU,uU,uU,uU,uU,uU,uU,uU,uU,uU,uU,uU,uU,uU,uU,uU,uU,uU,uU,uU,uU,uU,uU,uU,uU,uU,uU,uU,uU,uU,uU],[.cells (cC b),.rows 3 1 O.length (rowsRev tint O),.cells [tBody.lst b.bodies,tstr.lst b.heads,tLine.lst A],.cells [tBody.lst b.bodies,tstr.lst b.heads,.row 5 (B.length+1)],.gone,.rows 66 7 (B.length+1) (appC B.length (rowsOf tLine B) (litC 7 1 [iI ((b.lines.getD (i).toNat tLine.zero).day),iI ((b.lines.getD (i).toNat tLine.zero).kind),iI ((b.lines.getD (i).toNat tLine.zero).a),iI ((b.lines.getD (i).toNat tLine.zero).b),iI ((b.lines.getD (i).toNat tLine.zero).c),iI ((b.lines.getD (i).toNat tLine.zero).d),iI ((b.lines.getD (i).toNat tLine.zero).set)]))],[]⟩)))) (by kernel_rfl) ?_
  simp only[DT.holds]
  repeat' (first|exact rfl|refine And.intro ?_ ?_)
  all_goals first|(simp;done)|(simp;omega)
inductive P10
 |e
 |l0 (x0_10:Int) (a0_1:List Int) (c0_2_2:List Line) (c0_3_2:List Line)
inductive R10
 |r0 (r0:Bool)
noncomputable def T10(b:Book)(bits:Int):P10→Tr P10 R10
 |.e=>let c1:=([]:List Line);(.call 36 [.agg (cC b)] (.tuple [tint.lst ((wrongR b).1),iI ((wrongR b).2)]) true true (.call 39 [.agg (cC b)] (.bool (validR b)) true true (.br (!(validR b)) (.br ((wrongR b).2 !=(0:Int)) (.br ((((wrongR b).1.length):Int)==(0:Int)) (.call 21 [] (.bool true) true true (.out (.r0 true))) (.out (.r0 false))) (.lit false (.out (.r0 false)))) (.wait 3 (.own 7 3 1 (.wait 1 (.drop ⟨[uU,.nil,.nil,uU,uU,.nil,.nil,.nil,uU,uU,uU,uU,uU,uU,uU,uU,uU,uU,uU,uU,uU,uU,uU,uU,uU,uU,uU,uU,uU,uU,uU,uU,uU,uU,uU,uU,uU,uU,uU,uU,uU,uU,uU,uU,uU,uU,uU,uU,uU,uU,uU,uU,uU,uU,uU,uU,uU,uU,uU,uU,uU,uU,uU,uU,uU,uU,uU,uU,uU,uU,uU,uU,uU,uU,uU,uU,uU,uU,uU,uU,uU,uU,uU,uU,uU,uU,uU,uU,uU,uU,uU,uU,uU,uU,uU,uU,uU,uU,uU,uU,uU,uU,uU,uU,uU,uU,uU,uU,uU,uU,uU,uU,uU,uU,uU,uU,uU,uU,uU,uU,uU,uU],[.void,.void],[]⟩ (.over (regionOf Tryz.f10 5) ⟨[uU,.int .u8 bits,.ref 0 0 0,uU,uU,tint.lst ((wrongR b).1),iI ((wrongR b).2),.row 1 0,uU,uU,uU,uU,uU,uU,uU,uU,uU,uU,uU,uU,uU,uU,uU,uU,uU,uU,uU,uU,uU,uU,uU,uU,uU,uU,uU,uU,uU,uU,uU,uU,uU,uU,uU,uU,uU,uU,uU,uU,uU,uU,uU,uU,uU,uU,uU,uU,uU,uU,uU,uU,uU,uU,uU,uU,uU,uU,uU,uU,uU,uU,uU,uU,uU,uU,uU,uU,uU,uU,uU,uU,uU,uU,uU,uU,uU,uU,uU,uU,uU,uU,uU,uU,uU,uU,uU,uU,uU,uU,uU,uU,uU,uU,uU,uU,uU,uU,uU,uU,uU,uU,uU,uU,uU,uU,uU,uU,uU,uU,uU,uU,uU,uU],[.cells (cC b),.rows 3 1 0 (rowsRev tint ([]))],[]⟩ .normal ⟨[uU,.int .u8 bits,.ref 0 0 0,uU,uU,tint.lst ((wrongR b).1),iI ((wrongR b).2),.row 1 0,.ref 2 0 0,.ref 3 0 0,uU,uU,uU,uU,uU,uU,uU,uU,uU,uU,uU,uU,uU,uU,uU,uU,uU,uU,uU,uU,uU,uU,uU,.agg (cC b),.agg (cC b),uU,uU,uU,uU,uU,uU,uU,uU,uU,uU,uU,uU,uU,uU,uU,uU,uU,uU,uU,uU,uU,uU,uU,uU,uU,uU,uU,uU,uU,uU,uU,uU,uU,uU,uU,uU,uU,uU,uU,uU,uU,uU,uU,uU,uU,uU,uU,uU,uU,uU,uU,uU,uU,uU,uU,uU,uU,uU,uU,uU,uU,uU,uU,uU,uU,uU,uU,uU,uU,uU,uU,uU,uU,uU,uU,uU,uU,uU,uU,uU,uU,uU,uU,uU,uU,uU,uU],[.cells (cC b),.rows 3 1 0 (rowsRev tint ([])),.cells (cC b),.cells (cC b)],[]⟩ true (.wait 6 (.telc 2 [tBody.lst b.bodies,tstr.lst b.heads,.nils] [tBody.lst b.bodies,tstr.lst b.heads,tLine.lst c1] (.telc 3 [tBody.lst b.bodies,tstr.lst b.heads,.nils] [tBody.lst b.bodies,tstr.lst b.heads,tLine.lst c1] (.go (.l0 0 ([]) c1 c1)))))))))))))
 |.l0 x0_10 a0_1 c0_2_2 c0_3_2=>let c2:List V:=[uU,.nil,.nil,uU,uU,.nil,.nil,.nil,.nil,.nil,.nil,uU,uU,uU,uU,uU,uU,uU,uU,uU,uU,uU,uU,uU,uU,uU,uU,uU,uU,uU,uU,uU,uU,uU,uU,uU,uU,uU,uU,uU,uU,uU,uU,uU,uU,uU,uU,uU,uU,uU,uU,uU,uU,uU,uU,uU,uU,uU,uU,uU,uU,uU,uU,uU,uU,uU,uU,uU,uU,uU,uU,uU,uU,uU,uU,uU,uU,uU,uU,uU,uU,uU,uU,uU,uU,uU,uU,uU,uU,uU,uU,uU,uU,uU,uU,uU,uU,uU,uU,uU,uU,uU,uU,uU,uU,uU,uU,uU,uU,uU,uU,uU,uU,uU,uU,uU,uU,uU,uU,uU,uU,uU];let c4:=b.lines.getD (x0_10).toNat tLine.zero;let c1:List V:=[iI (c4.day),iI (c4.kind),iI (c4.a),iI (c4.b),iI (c4.c),iI (c4.d),iI (c4.set)];let c5:=c0_3_2.length+1;let c7:=appC c0_3_2.length (rowsOf tLine c0_3_2) (litC 7 1 c1);let c8:=firstP (⟨b.bodies,b.heads,c0_3_2⟩:Book);let c9:=(wrongR b).1;let c3:List V:=[uU,.int .u8 bits,.ref 0 0 0,uU,uU,tint.lst c9,iI ((wrongR b).2),.row 1 a0_1.length,.ref 2 0 0,.ref 3 0 0,iI x0_10,uU,uU,uU,uU,uU,uU,uU,uU,uU,uU,uU,uU,uU,uU,uU,uU,uU,uU,uU,uU,uU,uU,uU,uU,uU,uU,uU,uU,uU,uU,uU,uU,uU,uU,uU,uU,uU,uU,uU,uU,uU,uU,uU,uU,uU,uU,uU,uU,uU,uU,uU,uU,uU,uU,uU,uU,uU,uU,uU,uU,uU,uU,uU,uU,uU,uU,uU,uU,uU,uU,uU,uU,uU,uU,uU,uU,uU,uU,uU,uU,uU,uU,uU,uU,uU,uU,uU,uU,uU,uU,uU,uU,uU,uU,uU,uU,uU,uU,uU,uU,uU,uU,uU,uU,uU,uU,uU,uU,uU,uU,uU];let c10:=x0_10+(1:Int);let c11:List Blk:=[.void,.void,.void,.void,.void];let c12:=c0_2_2.length+1;let c13:=(decide (a0_1.length=a0_1.length)&&decide (a0_1.length+1≤4294967296))&&decide (1≤1);let c14:=c0_3_2++ [c4];let c15:=firstP (⟨b.bodies,b.heads,c0_2_2⟩:Book);let c16:Tr P10 R10:=.lit false (.out (.r0 false));let c17:=c0_2_2++ [c4];let c18:=((bits.fdiv (2^(min (x0_10).toNat 64))).tmod (2:Int))==(1:Int);let c19:=rowsRev tint a0_1;let c6:List Blk:=[.cells (cC b),.rows 3 1 a0_1.length c19,.cells [tBody.lst b.bodies,tstr.lst b.heads,tLine.lst c0_2_2],.cells [tBody.lst b.bodies,tstr.lst b.heads,tLine.lst c0_3_2]];let c20:=(b.lines.length:Int);let c21:=appC c0_2_2.length (rowsOf tLine c0_2_2) (litC 7 1 c1);let c22:Tr P10 R10:=.call 21 [] (.bool true) true true (.out (.r0 true));let c23:List Blk:=[.void,.void,.void,.void];let c24:=true&&(((decide (c5≤c5))&&true)&&true);let c25:=rowsOf tLine c14;let c26:List Blk:=[.void,.void,.void,.void,.void,.void];let c27:=inR .i64 c10;let c28:Tr P10 R10:=.lit false c16;(.br (decide (x0_10<c20)) (.call 44 [tint.lst c9,iI x0_10] (.bool (hasN c9 x0_10)) true true (.br (!(hasN c9 x0_10)) (.drop ⟨c2,c23,[]⟩ (.over (regionOf Tryz.f10 11) ⟨c3,c6,[]⟩ .normal ⟨[uU,.int .u8 bits,.ref 0 0 0,uU,uU,tint.lst c9,iI ((wrongR b).2),.row 1 a0_1.length,.ref 2 0 0,.ref 3 0 0,iI x0_10,uU,uU,uU,uU,uU,uU,uU,uU,uU,uU,uU,uU,uU,uU,uU,uU,uU,uU,uU,uU,uU,uU,uU,uU,uU,uU,uU,uU,uU,uU,uU,uU,uU,uU,uU,uU,uU,.nils,.ref 2 0 2,tLine.lst c0_2_2,uU,.ref 0 0 2,tLine.lst b.lines,iI x0_10,.cref 7 fun q=>(c1:List V).getD q uU,.agg c1,.list 7 1 (litC 7 1 c1),.row 4 c12,.ref 2 0 2,uU,uU,uU,uU,uU,uU,uU,uU,uU,uU,uU,uU,uU,uU,uU,uU,uU,uU,uU,uU,uU,uU,uU,uU,uU,uU,uU,uU,uU,uU,uU,uU,uU,uU,uU,uU,uU,uU,uU,uU,uU,uU,uU,uU,uU,uU,uU,uU,uU,uU,uU,uU,uU,uU,uU,uU,uU,uU,uU,uU,uU,uU],[.cells (cC b),.rows 3 1 a0_1.length c19,.cells [tBody.lst b.bodies,tstr.lst b.heads,.row 4 c12],.cells [tBody.lst b.bodies,tstr.lst b.heads,tLine.lst c0_3_2],.rows 66 7 c12 c21],[]⟩ true (.telb 4 7 c12 c21 (rowsOf tLine c17) (.wait 1 (.drop ⟨c2,c11,[]⟩ (.frz 4 (true&&(((decide (c12≤c12))&&true)&&true)) (.telc 2 [tBody.lst b.bodies,tstr.lst b.heads,.list 7 c12 (rowsOf tLine c17)] [tBody.lst b.bodies,tstr.lst b.heads,tLine.lst c17] (.need (inR .i64 bits) (.need (decide (0≤x0_10)) (.need (decide ((2:Int)≠0)) (.br c18 (.need c13 (.scal (fun _=>true) (.wait 1 (.drop ⟨c2,c26,[]⟩ (.need c27 (.go (.l0 c10 (x0_10::a0_1) c17 c0_3_2))))))) (.drop ⟨c2,c11,[]⟩ (.over (regionOf Tryz.f10 14) ⟨c3,[.cells (cC b),.rows 3 1 a0_1.length c19,.cells [tBody.lst b.bodies,tstr.lst b.heads,tLine.lst c17],.cells [tBody.lst b.bodies,tstr.lst b.heads,tLine.lst c0_3_2],.gone],[]⟩ .normal ⟨[uU,.int .u8 bits,.ref 0 0 0,uU,uU,tint.lst c9,iI ((wrongR b).2),.row 1 a0_1.length,.ref 2 0 0,.ref 3 0 0,iI x0_10,uU,uU,uU,uU,uU,uU,uU,uU,uU,uU,uU,uU,uU,uU,uU,uU,uU,uU,uU,uU,uU,uU,uU,uU,uU,uU,uU,uU,uU,uU,uU,uU,uU,uU,uU,uU,uU,uU,uU,uU,uU,uU,uU,uU,uU,uU,uU,uU,uU,uU,uU,uU,uU,uU,uU,uU,uU,uU,uU,.nils,.ref 3 0 2,tLine.lst c0_3_2,uU,.ref 0 0 2,tLine.lst b.lines,iI x0_10,.cref 7 fun q=>(c1:List V).getD q uU,.agg c1,.list 7 1 (litC 7 1 c1),.row 5 c5,.ref 3 0 2,uU,uU,uU,uU,uU,uU,uU,uU,uU,uU,uU,uU,uU,uU,uU,uU,uU,uU,uU,uU,uU,uU,uU,uU,uU,uU,uU,uU,uU,uU,uU,uU,uU,uU,uU,uU,uU,uU,uU,uU],[.cells (cC b),.rows 3 1 a0_1.length c19,.cells [tBody.lst b.bodies,tstr.lst b.heads,tLine.lst c17],.cells [tBody.lst b.bodies,tstr.lst b.heads,.row 5 c5],.gone,.rows 66 7 c5 c7],[]⟩ true (.telb 5 7 c5 c7 c25 (.wait 1 (.drop ⟨c2,c26,[]⟩ (.frz 5 c24 (.telc 3 [tBody.lst b.bodies,tstr.lst b.heads,.list 7 c5 c25] [tBody.lst b.bodies,tstr.lst b.heads,tLine.lst c14] (.need c27 (.go (.l0 c10 a0_1 c17 c14))))))))))))))))))))) (.wait 2 (.drop ⟨c2,c23,[]⟩ (.need (inR .i64 bits) (.need (decide (0≤x0_10)) (.need (decide ((2:Int)≠0)) (.br c18 (.need c13 (.scal (fun _=>true) (.wait 1 (.drop ⟨c2,c11,[]⟩ (.need c27 (.go (.l0 c10 (x0_10::a0_1) c0_2_2 c0_3_2))))))) (.drop ⟨c2,c23,[]⟩ (.over (regionOf Tryz.f10 14) ⟨c3,c6,[]⟩ .normal ⟨[uU,.int .u8 bits,.ref 0 0 0,uU,uU,tint.lst c9,iI ((wrongR b).2),.row 1 a0_1.length,.ref 2 0 0,.ref 3 0 0,iI x0_10,uU,uU,uU,uU,uU,uU,uU,uU,uU,uU,uU,uU,uU,uU,uU,uU,uU,uU,uU,uU,uU,uU,uU,uU,uU,uU,uU,uU,uU,uU,uU,uU,uU,uU,uU,uU,uU,uU,uU,uU,uU,uU,uU,uU,uU,uU,uU,uU,uU,uU,uU,uU,uU,uU,uU,uU,uU,uU,uU,.nils,.ref 3 0 2,tLine.lst c0_3_2,uU,.ref 0 0 2,tLine.lst b.lines,iI x0_10,.cref 7 fun q=>(c1:List V).getD q uU,.agg c1,.list 7 1 (litC 7 1 c1),.row 4 c5,.ref 3 0 2,uU,uU,uU,uU,uU,uU,uU,uU,uU,uU,uU,uU,uU,uU,uU,uU,uU,uU,uU,uU,uU,uU,uU,uU,uU,uU,uU,uU,uU,uU,uU,uU,uU,uU,uU,uU,uU,uU,uU,uU],[.cells (cC b),.rows 3 1 a0_1.length c19,.cells [tBody.lst b.bodies,tstr.lst b.heads,tLine.lst c0_2_2],.cells [tBody.lst b.bodies,tstr.lst b.heads,.row 4 c5],.rows 66 7 c5 c7],[]⟩ true (.telb 4 7 c5 c7 c25 (.wait 1 (.drop ⟨c2,c11,[]⟩ (.frz 4 c24 (.telc 3 [tBody.lst b.bodies,tstr.lst b.heads,.list 7 c5 c25] [tBody.lst b.bodies,tstr.lst b.heads,tLine.lst c14] (.need c27 (.go (.l0 c10 a0_1 c0_2_2 c14)))))))))))))))))) (.call 18 [.agg [tBody.lst b.bodies,tstr.lst b.heads,tLine.lst c0_2_2]] (.tuple [tPair.lst (c15.1),iI (c15.2)]) true true (.call 18 [.agg [tBody.lst b.bodies,tstr.lst b.heads,tLine.lst c0_3_2]] (.tuple [tPair.lst (c8.1),iI (c8.2)]) true true (.br ((wrongR b).2==(0:Int)) (.call 49 [tint.lst c9,iI c20] (.bool (ascR c9 c20)) true true (.br (ascR c9 c20) (.br (c15.2==(0:Int)) (.br (c8.2==(8:Int)) (.lit true (.lit true (.lit true c22))) (.br (c8.2==(0:Int)) (.call 50 [.list 1 a0_1.length c19,tint.lst c9] (.bool (fewer a0_1.reverse c9)) ((decide (a0_1.length≤a0_1.length))&&true) true (.lit false (.lit true (.br (!(fewer a0_1.reverse c9)) c22 (.out (.r0 false)))))) (.lit false (.lit true c16)))) c28) (.lit false c28))) (.lit false (.lit false c28))))))
noncomputable def g10(b:Book)(bits:Int):P10→List Item × St
 |.e=>bd Tryz.f10 [.agg (cC b),.int .u8 bits] 120
 |.l0 x0_10 a0_1 c0_2_2 c0_3_2=>(cutOf Tryz.f10 0,⟨mk 122 [(1,.int .u8 bits),(2,.ref 0 0 0),(5,tint.lst ((wrongR b).1)),(6,iI ((wrongR b).2)),(7,.row 1 a0_1.length),(8,.ref 2 0 0),(9,.ref 3 0 0),(10,iI x0_10)],[.cells (cC b),.rows 3 1 a0_1.length (rowsRev tint a0_1),.cells [tBody.lst b.bodies,tstr.lst b.heads,tLine.lst c0_2_2],.cells [tBody.lst b.bodies,tstr.lst b.heads,tLine.lst c0_3_2]],[]⟩)
noncomputable def n10:R10→Exit × St
 |.r0 r0=>(.ret,⟨mk 122 [(4,.bool r0)],[],[]⟩)
noncomputable def v10:R10→V
 |.r0 r0=>.bool r0
theorem s10(b:Book)(bits:Int):Sm 0 (g10 b bits) (T10 b bits) (n10)
 |.e=>⟨400,by kernel_rfl⟩
 |.l0 _ _ _ _=>⟨400,by kernel_rfl⟩
theorem q10:∀r,bodyQ Tryz.prog Tryz.f10 (·=v10 r) (n10 r).1 (n10 r).2
 |.r0 r0=>bq (.bool r0) (by kernel_rfl)
theorem w10(b:Book)(bits:Int){post:V→Prop}(h:WQ (T10 b bits) v10 post .e):PC 10 [.agg (cC b),.int .u8 bits] post:=
 PCalls.wq Tryz.func10 (s10 b bits) q10 h
def keepL(b:Book)(p:Nat→Bool)(i:Nat):List Line:=((List.range i).filter p).map fun k=>b.lines.getD k zLine
theorem keepL_succ(b:Book)(p:Nat→Bool)(i:Nat):keepL b p (i+1)=if p i=true then keepL b p i++ [b.lines.getD i zLine]else keepL b p i:=by
 unfold keepL
 rw[List.range_succ,List.filter_append,List.map_append]
 by_cases h:p i=true
 ·simp[h]
 ·simp[h]
theorem keepL_len(b:Book)(p:Nat→Bool)(i:Nat):(keepL b p i).length≤i:=by
 unfold keepL
 rw[List.length_map]
 exact Nat.le_trans (List.length_filter_le _ _) (by simp)
theorem keepL_all(b:Book):keepL b (fun _=>true) b.lines.length=b.lines:=by
 unfold keepL
 rw[List.filter_eq_self.2 (fun _ _=>rfl)]
 apply List.ext_getElem
 ·simp
 ·intro i h1 h2
  simp[List.getD_eq_getElem?_getD,h2]
theorem keepL_sub(b:Book)(p:Nat→Bool):(keepL b p b.lines.length).Sublist b.lines:=by
 have h:(keepL b p b.lines.length).Sublist (keepL b (fun _=>true) b.lines.length):=by
  unfold keepL
  rw[List.filter_eq_self.2 (fun _ _=>rfl)]
  exact List.filter_sublist.map _
 rwa[keepL_all]at h
theorem OkLs.sub{n:Nat}{l m:List Line}(h:OkLs n l)(s:m.Sublist l):OkLs n m:=
 ⟨Nat.le_trans s.length_le h.len,fun x hx=>h.ok x (s.subset hx),h.srt.sublist s,Nat.le_trans (s.countP_le) h.some⟩
def lineB(b:Book)(l:List Line):Book:=⟨b.bodies,b.heads,l⟩
theorem keep_ok{b:Book}(h:OkBook b)(p:Nat→Bool):OkBook (lineB b (keepL b p b.lines.length)):=okBook_of (b:=b) h rfl rfl ((okLs h).sub (keepL_sub b p))
theorem keep_less(b:Book)(l:List Int):keepL b (fun k=> !hasN l (k:Int)) b.lines.length=lessL b l:=rfl
theorem filt_has(n:Nat)(p:Nat→Bool){k:Nat}(hk:k<n):hasN (filtTo p n) (k:Int)=p k:=by
 rw[Bool.eq_iff_iff,hasN_iff]
 unfold filtTo
 rw[mem_filtR]
 constructor
 ·rintro⟨i,_,h,e⟩;rw[show k=i by omega];exact h
 ·exact fun h=>⟨k,hk,h,rfl⟩
theorem keep_bits(b:Book)(p:Nat→Bool):keepL b (fun k=> !p k) b.lines.length=lessL b (filtTo p b.lines.length):=by
 unfold keepL lessL
 congr 1
 refine List.filter_congr fun k hk=> ?_
 rw[filt_has _ _ (List.mem_range.1 hk)]
theorem less_cmp:∀ {l m:List Int},l.length=m.length→less l m=true→0<cmpL m l
 |[],[],_,h=>by cases h
 |[],_::_,e,_=>by simp at e
 |_::_,[],e,_=>by simp at e
 |x::l,y::m,e,h=>by
  unfold less at h
  unfold cmpL compI
  split at h
  ·rename_i q
   subst q
   have:=less_cmp (by simpa using e) h
   simpa using this
  ·have:x<y:=by simpa using h
   have h1:¬y<x:=by omega
   have h2:¬y=x:=by omega
   simp[h1,h2,this]
theorem wrong_first{b:Book}(h:OkBook b):First36 b b.lines.length (wrongR b).1∧(wrongR b).2=0:=by
 have e:wrongR b=(wrongFrom b b.lines.length b.lines.length 0,0):=by unfold wrongR;rw[bookCheck_of h,if_neg (by decide)]
 rw[e]
 exact⟨first_from h.nl (fun l hl=>full_can h fun i hi=>picks_full ⟨b.lines.length,by have:=h.nl;omega⟩ l hl ⟨i,hi⟩) b.lines.length 0 (by omega) fun l _ q=>by omega,rfl⟩
theorem first_of{b:Book}(h:OkBook b):(firstP b).2=if(truthsR b []).length=0 then 8 else 0:=by
 unfold firstP
 rw[told_val h (by simp) (by decide)]
 split<;>simp
theorem fewest_law{b:Book}(h:OkBook b)(p:Nat→Bool):(firstP (lineB b (keepL b (fun k=> !hasN (wrongR b).1 (k:Int)) b.lines.length))).2=0∧ascR (wrongR b).1 (b.lines.length:Int)=true∧
  ((firstP (lineB b (keepL b (fun k=> !p k) b.lines.length))).2=8∨(firstP (lineB b (keepL b (fun k=> !p k) b.lines.length))).2=0∧fewer (filtTo p b.lines.length) (wrongR b).1=false):=by
 obtain⟨hw,-⟩:=wrong_first h
 have hok1:=keep_ok h fun k=> !hasN (wrongR b).1 (k:Int)
 have hok2:=keep_ok h fun k=> !p k
 have h1:=(can_less (b':=lineB b (keepL b (fun k=> !hasN (wrongR b).1 (k:Int)) b.lines.length)) h hok1 rfl (keep_less b _)).1 hw.can
 have hp:=(picks_ok _ _ _).1 hw.mem
 refine⟨by rw[first_of hok1,if_neg (by omega)],asc_of hp.asc fun x hx=>⟨hp.lo x hx,hp.hi x hx⟩,?_⟩
 rw[first_of hok2]
 by_cases q:(truthsR (lineB b (keepL b (fun k=> !p k) b.lines.length)) []).length=0
 ·exact .inl (if_pos q)
 ·right
  refine⟨if_neg q,?_⟩
  have hc:=(can_less (b':=lineB b (keepL b (fun k=> !p k) b.lines.length)) h hok2 rfl (keep_bits b p)).2 (by omega)
  have hlen:=filtTo_len p b.lines.length
  have hpk:filtTo p b.lines.length∈picks (b.lines.length:Int) (filtTo p b.lines.length).length:=by
   rw[picks_ok]
   refine⟨rfl,filt_up _ _,fun x hx=> ?_,fun x hx=> ?_⟩
   ·obtain⟨i,_,_,e⟩:=mem_filtR.1 hx;omega
   ·obtain⟨i,_,_,e⟩:=mem_filtR.1 hx;omega
  unfold fewer
  rcases hw.least _ hpk hlen hc with z|⟨z1,z2⟩
  ·rw[if_pos (by omega)];simpa using(by omega:(wrongR b).1.length≤(filtTo p b.lines.length).length)
  ·rw[if_neg (by omega)]
   cases hl:less (filtTo p b.lines.length) (wrongR b).1 with
   |false=>rfl
   |true=>have:=less_cmp z1.symm hl;omega
theorem at_snoc(b:Book)(A:List Line)(x:Line)(j:Nat):VLe (([tBody.lst b.bodies,tstr.lst b.heads,.list 7 (A.length+1) (rowsOf tLine (A++ [x]))]:List V).getD j uU) (([tBody.lst b.bodies,tstr.lst b.heads,tLine.lst (A++ [x])]:List V).getD j uU):=by
 refine VLe.at ?_ [tBody.lst b.bodies,tstr.lst b.heads] [] j
 have:A.length+1=(A++ [x]).length:=by simp
 rw[this];exact VLe.refl _
theorem c50r(O W:List Int):PC 50 [.list 1 O.length (rowsRev tint O),tint.lst W] (·=.bool (fewer O.reverse W)):=PCalls.arg (pre:=[]) (c50 O.reverse W) (VLe.rev tint O)
set_option maxHeartbeats 4000000 in
theorem wl10(b:Book)(w:Int)(hw:0≤w∧w≤255)(hok:OkBook b)(hv:validR b=true):WP Tryz.prog ⟨none,0⟩ (T10 b w) (Ends' fun r=>v10 r=.bool true) (.l0 0 [] [] []):=by
 have hnl:=hok.nl
 have hrw:inR .i64 w=true:=inR64 (by omega) (by omega)
 refine WP.run (fun i=>.l0 (i:Int) (filtTo (bitH w) i).reverse (keepL b (fun k=> !hasN (wrongR b).1 (k:Int)) i) (keepL b (fun k=> !bitH w k) i)) rfl b.lines.length (fun i hi=> ?_) ?_
 ·have hr:inR .i64 ((i:Int)+1)=true:=inR64 (by omega) (by omega)
  have hi':(i:Int)<b.lines.length:=by omega
  have hob:(decide (0≤(i:Int))&&decide ((i:Int)<(b.lines.length:Int)))=true:=by simp;omega
  have k44:=c44 (wrongR b).1 (i:Int)
  have l1:=keepL_len b (fun k=> !hasN (wrongR b).1 (k:Int)) i
  have l2:=keepL_len b (fun k=> !bitH w k) i
  have l3:(filtTo (bitH w) i).reverse.length+1≤4294967296:=by have:=filtTo_len (bitH w) i;rw[List.length_reverse];omega
  rw[keepL_succ,keepL_succ,filtTo_next]
  generalize(filtTo (bitH w) i).reverse=O at*
  generalize keepL b (fun k=> !hasN (wrongR b).1 (k:Int)) i=A at*
  generalize keepL b (fun k=> !bitH w k) i=B at*
  have hA:0+A.length+1≤4294967296:=by omega
  have hB:0+B.length+1≤4294967296:=by omega
  have hbit:bitH w i=((w.fdiv (2^(min i 64))).tmod 2==1):=rfl
  rw[hbit]
  have o1:=ov10_11 b w (wrongR b).1 (wrongR b).2 O (i:Int) A B hob hA hB
  have o2:=ov10_14 b w (wrongR b).1 (wrongR b).2 O (i:Int) A B hob hA hB
  have o3:=ov10_14g b w (wrongR b).1 (wrongR b).2 O (i:Int) (A++ [b.lines.getD i zLine]) B hob (by rw[List.length_append,List.length_singleton];omega) hB
  have t1:=fun {r j:Nat} hr=>app_at tLine A (b.lines.getD i zLine) (w:=7) (cs:=tLine.cells (b.lines.getD i zLine)) rfl rfl r j hr
  have t2:=fun {r j:Nat} hr=>app_at tLine B (b.lines.getD i zLine) (w:=7) (cs:=tLine.cells (b.lines.getD i zLine)) rfl rfl r j hr
  cases hh:hasN (wrongR b).1 (i:Int)with
  |true=>
   rw[hh]at k44
   cases hq:((w.fdiv (2^(min i 64))).tmod 2==1)with
   |true=>
    refine WP.once ?_
    simp only[T10,Tr.sure,SS,hi',hh,hq,Int.toNat_natCast,z5]
    repeat' with_reducible first|intro _|apply And.intro
    all_goals first|exact k44|(simp[hr,hrw,l3,Go,Ends',v10,-List.getD_eq_getElem?_getD, *];done)
    all_goals first
     |exact t1 (by assumption)
     |exact t2 (by assumption)
     |exact at_snoc b _ _ _
   |false=>
    refine WP.once ?_
    simp only[T10,Tr.sure,SS,hi',hh,hq,Int.toNat_natCast,z5]
    repeat' with_reducible first|intro _|apply And.intro
    all_goals first|exact k44|exact o2|(simp[hr,hrw,l3,Go,Ends',v10,-List.getD_eq_getElem?_getD, *];done)|skip
    all_goals first
     |exact t1 (by assumption)
     |exact t2 (by assumption)
     |exact at_snoc b _ _ _
  |false=>
   rw[hh]at k44
   cases hq:((w.fdiv (2^(min i 64))).tmod 2==1)with
   |true=>
    refine WP.once ?_
    simp only[T10,Tr.sure,SS,hi',hh,hq,Int.toNat_natCast,z5]
    repeat' with_reducible first|intro _|apply And.intro
    all_goals first|exact k44|exact o1|(simp[hr,hrw,l3,Go,Ends',v10,-List.getD_eq_getElem?_getD, *];done)|skip
    all_goals first
     |exact t1 (by assumption)
     |exact t2 (by assumption)
     |exact at_snoc b _ _ _
   |false=>
    refine WP.once ?_
    simp only[T10,Tr.sure,SS,hi',hh,hq,Int.toNat_natCast,z5]
    repeat' with_reducible first|intro _|apply And.intro
    all_goals first|exact k44|exact o1|exact o3|(simp[hr,hrw,l3,Go,Ends',v10,-List.getD_eq_getElem?_getD, *];done)|skip
    all_goals first
     |exact t1 (by assumption)
     |exact t2 (by assumption)
     |exact at_snoc b _ _ _
 ·obtain⟨f1,f2,f3⟩:=fewest_law hok (bitH w)
  obtain⟨hw1,hw2⟩:=wrong_first hok
  have hp:=(picks_ok _ _ _).1 hw1.mem
  have k18a:=c18 ⟨b.bodies,b.heads,keepL b (fun k=> !hasN (wrongR b).1 (k:Int)) b.lines.length⟩
  have k18b:=c18 ⟨b.bodies,b.heads,keepL b (fun k=> !bitH w k) b.lines.length⟩
  have k49:=c49 (wrongR b).1 (b.lines.length:Int) (by have:=hw1.len;omega) fun i hi=>by
   have:=getD_mem 0 _ i hi
   exact inR64 (by have:=hp.lo _ this;omega) (by have:=hp.hi _ this;omega)
  have k50:=c50r (filtTo (bitH w) b.lines.length).reverse (wrongR b).1
  rw[List.reverse_reverse]at k50
  unfold lineB at f1 f3
  rw[f2]at k49
  rw[f1]at k18a
  rcases f3 with f3|⟨f3,f4⟩
  ·rw[f3]at k18b
   refine WP.step ?_
   simp only[T10,Go,Ends',v10,Tr.sure,SS,Int.lt_irrefl,hw2,f1,f2,f3,List.reverse_reverse]
   repeat' with_reducible first|intro _|apply And.intro
   all_goals first|exact k18a|exact k18b|exact k49|exact c21
  ·rw[f3]at k18b
   rw[f4]at k50
   refine WP.step ?_
   simp only[T10,Go,Ends',v10,Tr.sure,SS,Int.lt_irrefl,hw2,f1,f2,f3,f4,List.reverse_reverse]
   repeat' with_reducible first|intro _|apply And.intro
   all_goals first|exact k18a|exact k18b|exact k49|exact k50|exact c21|(simp[Go,Ends',v10,-List.getD_eq_getElem?_getD, *];done)
theorem c10(b:Book)(w:Int)(hw:0≤w∧w≤255):PC 10 [.agg (tBook.cells b),.int .u8 w] (·=.bool true):=by
 have k36:=c36 b
 have k39:=c39 b
 by_cases hv:validR b=true
 ·have hok:=valid_ok hv
  rw[hv]at k39
  have hmain:=wl10 b w hw hok hv
  have o5:=ov10_5 b w (wrongR b).1 (wrongR b).2 []
  refine w10 b w (WP.step ?_)
  simp only[T10,Go,Ends',v10,Tr.sure,SS,hv]
  repeat' with_reducible first|intro _|apply And.intro
  all_goals first|exact k36|exact k39|exact hmain|exact o5|(simp[Go,Ends',v10,-List.getD_eq_getElem?_getD, *];done)|skip
  all_goals first
   |exact VLe.at (v:=.nils) (v':=tLine.lst []) VLe.nils [tBody.lst b.bodies,tstr.lst b.heads] [] _
 ·have hv':validR b=false:=by simpa using hv
  rw[hv']at k39
  have h0:(bookCheck b).2.2≠0:=fun q=>hv (by unfold validR;rw[q];rfl)
  have e:wrongR b=([],(bookCheck b).2.2):=by unfold wrongR;rw[if_pos h0]
  rw[e]at k36
  refine w10 b w (WP.step ?_)
  simp only[T10,Go,Ends',v10,Tr.sure,SS,hv',e]
  repeat' with_reducible first|intro _|apply And.intro
  all_goals first|exact k36|exact k39|exact c21|(simp_all [h0,Go,Ends',v10,-List.getD_eq_getElem?_getD];done)
end
end Go.Proofs.YtemgodefhcbleaaGreat
