/-
  Part of the proof of HeadTrue. Conditions: those that stand in each theorem.
-/
import Derived.KernelRfl
import Derived.Laws.Strings
import Derived.Test.YtemgodefhcbleaaGreatB16
set_option linter.unusedSimpArgs false
set_option linter.unusedVariables false
set_option maxRecDepth 100000
namespace Ab
theorem any_of_firstI{τ:Type}{p:τ->Bool}{l:List τ}{i:Nat}:firstI p 0 l=some i->l.any p=true:=fun h=>by
 rw[<-firstI_any p l 0,h];rfl
theorem any_of_none{τ:Type}{p:τ->Bool}{l:List τ}:firstI p 0 l=none->l.any p=false:=fun h=>by
 rw[<-firstI_any p l 0,h];rfl
end Ab
namespace Ab
open Go
section
variable {P:Program} {ro:Env} {ops:Array Oper} {S:St} {i:Nat} {o:Oper}
theorem AStep.app0(hi:ops[i]? =some o)(hw:wantedV ops S o=some true){s x:Operand}{t e:TypeId}{wd k q:Nat}{c:Nat->Nat->V}{zs:List V}
  (hop:o.op=.call {callee:=.builtin .append,args:= #[s,x],argTypes:= #[t,t]}) (hsv:S.eval s=.nils) (hxv:S.eval x=.list wd k c) (hu:P.underlying t=some (.slice e)) (hz:zeroCs P e=some zs)
  (hc:decide (hasT P e=true/\szOf P e=wd/\0<wd/\zs.length=wd/\P.bytesOf e<=32768)=true) (hvd:S.h[q]? =some .void)
  (hk:k<=4294967296) (hsc:∀r,r<k->∀j,j<wd->(c r j).scalar=true):
  AStep P ro ops i S ({S with h:=S.h.set q (.rows e wd k c)}.put o.dst (.row q k)):=by
 obtain⟨hT,hsz,h0,hzl,hby⟩:=of_decide_eq_true hc;refine AStep.of_val hi hw (fun c hcc=>by rw[hop]at hcc;cases hcc) fun β G K a w r=> ?_;have hs:=r.eval s;rw[hsv]at hs;have hx:=r.eval x;rw[hxv]at hx;have hlt:q<β.length:=by rw[r.h.len];exact(List.getElem?_eq_some_iff.1 hvd).1
 generalize hsx:a.eval s=sv at hs
 cases hs with
 |nils=>
  rename_i a0;obtain⟨v',w',r1,r2,r3,r5,r4⟩:=run_fresh (ty:=o.type) hu hT hsz h0 hz hzl hby r.h (a0:=a0) hx hk hsc
  have hrun:(execOp a.eval o).run P w=.ok (.value v') w':=by
   simp only[execOp,hop,resolve,Sem.run_bind,Sem.run_pure,Result.andThen_ok,invoke,builtin,List.map_toArray,List.map_cons,List.map_nil,hsx,r1]
  rcases r4 with⟨rfl,rfl,rfl⟩|⟨hpos,g,cap',cur,rfl,hge,hcur,hnc,hcm,hcsz,hrel⟩
  ·have hle:=le_set_void (x:=.nil) (r.h.void_home hvd);have q1:=r.refill hvd hle (r.h.fillNil hvd e c h0);exact⟨_,_,_,G,K,hrun,hle.low _,G.ext_refl K,K.le_refl,q1,.row0 (List.getElem?_set_self hlt)⟩
  ·have hle:=le_set_void (x:=.lie ⟨g,wd,cap'⟩) (r.h.void_home hvd);have hmn:k<=maxn:=by unfold maxn;omega
   have hg':g<w'.heap.size:=(Array.getElem?_eq_some_iff.1 hcur).1;have q1:=r.refill hvd hle (r.h.fillG r2 r3 (k:=.rows e wd k c) (x:=⟨g,wd,cap'⟩) hvd hge hg' ⟨rfl,h0,hcm,cur,hcur,hcsz,hnc,hmn,hrel⟩ r5);exact⟨_,_,_,G,K,hrun,hle.low _,G.ext_refl K,K.le_refl,q1,.row (List.getElem?_set_self hlt) hnc (Nat.le_refl _) hmn⟩
end
end Ab
namespace Ab
open Go
end Ab
namespace Ab
open Go
section
variable {P:Program} {ro:Env} {ops:Array Oper} {i:Nat} {S S2:St}
theorem AStep.ap0(s x:Operand)(t e q wd k:Nat)(c:Nat->Nat->V)(zs:List V)(hk:k<=4294967296)(hsc:∀r,r<k->∀j,j<wd->(c r j).scalar=true)(hi:ops[i]? =some (ops.getD i default):=by kernel_rfl)(hw:wantedV ops S (ops.getD i default)=some true:=by kernel_rfl)
  (hop:(ops.getD i default).op=.call {callee:=.builtin .append,args:= #[s,x],argTypes:= #[t,t]}:=by kernel_rfl) (hsv:S.eval s=.nils:=by kernel_rfl) (hxv:S.eval x=.list wd k c:=by kernel_rfl) (hu:P.underlying t=some (.slice e):=by kernel_rfl) (hz:zeroCs P e=some zs:=by kernel_rfl)
  (hc:decide (hasT P e=true/\szOf P e=wd/\0<wd/\zs.length=wd/\P.bytesOf e<=32768)=true:=by kernel_rfl) (hvd:S.h[q]? =some .void:=by kernel_rfl)
  (h2:({S with h:=S.h.set q (.rows e wd k c)}.put (ops.getD i default).dst (.row q k))=S2:=by kernel_rfl):AStep P ro ops i S S2:=AStep.to (AStep.app0 hi hw hop hsv hxv hu hz hc hvd hk hsc) h2
end
end Ab
namespace Go.Proofs.YtemgodefhcbleaaGreat
open Ab Go
noncomputable section
inductive P44
 |e
 |l0 (x0_5:Int)
inductive R44
 |r0 (r0:Bool)
def T44(p0:List Int)(p1:Int):P44->Tr P44 R44
 |.e=>(.go (.l0 0))
 |.l0 x0_5=>let c1:=x0_5<(p0.length:Int);(.br (decide c1) (.need (decide (0<=x0_5)&&decide c1) (.br ((p0.getD (x0_5).toNat tint.zero)==p1) (.out (.r0 true)) (.need (inR .i64 (x0_5+(1:Int))) (.go (.l0 (x0_5+(1:Int))))))) (.out (.r0 false)))
noncomputable def g44(p0:List Int)(p1:Int):P44->List Item × St
 |.e=>bd Tryz.f44 [tint.lst p0,iI p1] 16
 |.l0 x0_5=>(cutOf Tryz.f44 0,⟨mk 18 [(0,tint.lst p0),(1,iI p1),(4,.bool false),(5,iI x0_5)],[],[]⟩)
def n44:R44->Exit × St
 |.r0 r0=>(.ret,⟨mk 18 [(4,.bool r0)],[],[]⟩)
def v44:R44->V
 |.r0 r0=>.bool r0
theorem s44(p0:List Int)(p1:Int):Sm 0 (g44 p0 p1) (T44 p0 p1) (n44)
 |.e=>⟨400,by kernel_rfl⟩
 |.l0 _=>⟨400,by kernel_rfl⟩
theorem q44:∀r,bodyQ Tryz.prog Tryz.f44 (·=v44 r) (n44 r).1 (n44 r).2
 |.r0 r0=>bq (.bool r0) (by kernel_rfl)
theorem w44(p0:List Int)(p1:Int){post:V->Prop}(h:WQ (T44 p0 p1) v44 post .e):PC 44 [tint.lst p0,iI p1] post:=
 PCalls.wq Tryz.func44 (s44 p0 p1) q44 h
theorem e44:∀xs w,(callFunc 44 xs).run Tryz.prog w=.ok (.enter 44 xs) w:=PCalls.enters Tryz.func44 (c:=Tryz.f44.body.getD .skip) (by kernel_rfl) (by kernel_rfl)
theorem c44(l:List Int)(n:Int):PC 44 [tint.lst l,iI n] (·=.bool (hasN l n)):=by
 refine PCalls.assume e44 0 (by simp) .list fun hl=> ?_;refine w44 _ _ (WP.step ?_);simp only[T44,Go,Ends',v44,Tr.sure,SS];repeat' with_reducible first|intro _|apply aI
 refine WP.findI (fun i=>.l0 i) rfl l 0 (·==n) (fun i hi=> ?_) fun hI=> ?_
 ·have hr:=inRi hi hl;have ha:firstI (·==n) 0 l=some i->l.any (·==n)=true:=any_of_firstI;refine WP.once ?_;simp only[T44,Tr.sure,SS,hi,z1];repeat' with_reducible first|intro _|apply aI
  all_goals first|(simp[hr,hasN,Go,Ends',v44,-List.getD_eq_getElem?_getD, *];done)|(simp_all [hr,hasN,Go,Ends',v44,-List.getD_eq_getElem?_getD];done)
 ·have ha:=any_of_none hI;refine WP.step ?_;simp only[T44,Go,Ends',v44,Tr.sure,SS,Int.lt_irrefl];repeat' with_reducible first|intro _|apply aI
  all_goals simp[hasN,ha,Go,Ends',v44,-List.getD_eq_getElem?_getD, *]
end
noncomputable section
theorem tel_setI(l:List Int)(i:Nat)(v:Int){n:Nat}(hn:n=l.length)(r j:Nat)(hr:r<n)(hj:j<1):
  VLe (if r=i/\0<=j/\j<0+([iI v]:List V).length then([iI v]:List V).getD (j-0) uU else rowsOf tint l r j) (rowsOf tint (l.set i v) r j):=tel_set tint l i v [iI v] rfl rfl hn r j hr hj
theorem lst0(l:List Int){n:Nat}(hn:n=l.length):VLe (.list 1 (0+n) (rowsOf tint l)) (tint.lst l):=by subst hn;rw[Nat.zero_add];exact VLe.refl _
theorem scal_int(l:List Int)(r:Nat):((List.range 1).all fun j=>(rowsOf tint l r j).scalar)=true:=rfl
theorem VLe.app0{c0 c:Nat->Nat->V}(r j:Nat):VLe (appC 0 c0 c r j) (c r j):=by
 have:appC 0 c0 c r j=c r j:=by unfold appC;simp
 rw[this];exact VLe.refl _
end
noncomputable section
theorem mem_firstH{b:Book}{n:Int}:n∈firstH b↔0<=n/\n<b.bodies.length:=by
 unfold firstH;rw[List.mem_map];constructor
 ·rintro⟨i,hi,rfl⟩;rw[List.mem_range]at hi;omega
 ·intro h;exact⟨n.toNat,by rw[List.mem_range];omega,by omega⟩
end
noncomputable section
inductive P42
 |e
 |l0 (x0_5:Int)
inductive R42
 |r0 (r0:Int)
def T42(hv:List Int)(head:Int):P42->Tr P42 R42
 |.e=>(.go (.l0 0))
 |.l0 x0_5=>let c1:=x0_5<(hv.length:Int);(.br (decide c1) (.need (decide (0<=x0_5)&&decide c1) (.br ((hv.getD (x0_5).toNat tint.zero)==head) (.out (.r0 x0_5)) (.need (inR .i64 (x0_5+(1:Int))) (.go (.l0 (x0_5+(1:Int))))))) (.out (.r0 (-1))))
noncomputable def g42(hv:List Int)(head:Int):P42->List Item × St
 |.e=>bd Tryz.f42 [tint.lst hv,iI head] 17
 |.l0 x0_5=>(cutOf Tryz.f42 0,⟨mk 19 [(0,tint.lst hv),(1,iI head),(5,iI x0_5)],[],[]⟩)
def n42:R42->Exit × St
 |.r0 r0=>(.ret,⟨mk 19 [(4,iI r0)],[],[]⟩)
def v42:R42->V
 |.r0 r0=>iI r0
theorem s42(hv:List Int)(head:Int):Sm 0 (g42 hv head) (T42 hv head) (n42)
 |.e=>⟨400,by kernel_rfl⟩
 |.l0 _=>⟨400,by kernel_rfl⟩
theorem q42:∀r,bodyQ Tryz.prog Tryz.f42 (·=v42 r) (n42 r).1 (n42 r).2
 |.r0 r0=>bq (iI r0) (by kernel_rfl)
theorem w42(hv:List Int)(head:Int){post:V->Prop}(h:WQ (T42 hv head) v42 post .e):PC 42 [tint.lst hv,iI head] post:=
 PCalls.wq Tryz.func42 (s42 hv head) q42 h
theorem e42:∀xs w,(callFunc 42 xs).run Tryz.prog w=.ok (.enter 42 xs) w:=PCalls.enters Tryz.func42 (c:=Tryz.f42.body.getD .skip) (by kernel_rfl) (by kernel_rfl)
theorem c42(hv:List Int)(head:Int):PC 42 [tint.lst hv,iI head] (·=iI (bodyOf hv head)):=by
 refine PCalls.assume e42 0 (by simp) .list fun hl=> ?_;refine w42 _ _ (WP.step ?_);simp only[T42,Go,Ends',v42,Tr.sure,SS];repeat' with_reducible first|intro _|apply aI
 refine WP.findI (fun i=>.l0 i) rfl hv 0 (fun x=>x==head) (fun i hi=> ?_) fun hI=> ?_
 ·have hr:=inRi hi hl;refine WP.once ?_;simp only[T42,Tr.sure,SS,hi,z1];repeat' with_reducible first|intro _|apply aI
  all_goals first|(simp[hr,bodyOf,Go,Ends',v42,-List.getD_eq_getElem?_getD, *];done)|(simp_all [hr,bodyOf,Go,Ends',v42,-List.getD_eq_getElem?_getD];done)
 ·refine WP.step ?_;simp only[T42,Go,Ends',v42,Tr.sure,SS,Int.lt_irrefl];repeat' with_reducible first|intro _|apply aI
  all_goals simp[bodyOf,hI,Go,Ends',v42,-List.getD_eq_getElem?_getD, *]
inductive P43
 |e
 |l0 (x0_5:ByteArray) (x0_6:Int)
inductive R43
 |r0 (r0:ByteArray)
def T43(x:Body)(day:Int):P43->Tr P43 R43
 |.e=>(.go (.l0 (ByteArray.mk #[]) 0))
 |.l0 x0_5 x0_6=>let c1:=decide (0<=x0_6)&&decide (x0_6<(x.shown.length:Int));let c2:=x0_6+(1:Int);let c3:=x.shown.getD (x0_6).toNat tShown.zero;(.br (decide (x0_6<(x.shown.length:Int))) (.need c1 (.br (decide (c3.day<=day)) (.need c1 (.need (inR .i64 c2) (.go (.l0 (c3.as_) c2)))) (.need (inR .i64 c2) (.go (.l0 x0_5 c2))))) (.out (.r0 x0_5)))
noncomputable def g43(x:Body)(day:Int):P43->List Item × St
 |.e=>bd Tryz.f43 [.agg [.str x.name,tShown.lst x.shown],iI day] 27
 |.l0 x0_5 x0_6=>(cutOf Tryz.f43 0,⟨mk 29 [(1,iI day),(2,.ref 0 0 0),(5,.str x0_5),(6,iI x0_6)],[.cells [.str x.name,tShown.lst x.shown]],[]⟩)
def n43:R43->Exit × St
 |.r0 r0=>(.ret,⟨mk 29 [(4,.str r0)],[],[]⟩)
def v43:R43->V
 |.r0 r0=>.str r0
theorem s43(x:Body)(day:Int):Sm 0 (g43 x day) (T43 x day) (n43)
 |.e=>⟨400,by kernel_rfl⟩
 |.l0 _ _=>⟨400,by kernel_rfl⟩
theorem q43:∀r,bodyQ Tryz.prog Tryz.f43 (·=v43 r) (n43 r).1 (n43 r).2
 |.r0 r0=>bq (.str r0) (by kernel_rfl)
theorem w43(x:Body)(day:Int){post:V->Prop}(h:WQ (T43 x day) v43 post .e):PC 43 [.agg [.str x.name,tShown.lst x.shown],iI day] post:=
 PCalls.wq Tryz.func43 (s43 x day) q43 h
theorem c43(x:Body)(day:Int)(h:x.shown.length<=3):PC 43 [.agg (tBody.cells x),iI day] (·=.str (namedR x day)):=by
 refine w43 _ _ (WP.step ?_);simp only[T43,Go,Ends',v43,Tr.sure,SS];repeat' with_reducible first|intro _|apply aI
 refine WP.run (fun i=>.l0 (namedTo x day i) (i:Int)) rfl x.shown.length (fun i hi=> ?_) ?_
 ·have hr:inR .i64 ((i:Int)+1)=true:=inR64 (by omega) (by omega);have hi':(i:Int)<x.shown.length:=by omega
  have e:namedTo x day (i+1)=if(x.shown.getD i zShown).day<=day then(x.shown.getD i zShown).as_ else namedTo x day i:=rfl
  rw[e];by_cases hd:(x.shown.getD i zShown).day<=day
  ·rw[if_pos hd];refine WP.once ?_;simp only[T43,Tr.sure,SS,hi',z3,hd];repeat' with_reducible first|intro _|apply aI
   all_goals simp[hr,Go,Ends',v43,-List.getD_eq_getElem?_getD, *]
  ·rw[if_neg hd];refine WP.once ?_;simp only[T43,Tr.sure,SS,hi',z3,hd];repeat' with_reducible first|intro _|apply aI
   all_goals simp[hr,Go,Ends',v43,-List.getD_eq_getElem?_getD, *]
 ·have e:namedR x day=namedTo x day x.shown.length:=rfl;rw[e];refine WP.step ?_;simp only[T43,Go,Ends',v43,Tr.sure,SS,Int.lt_irrefl];repeat' with_reducible first|intro _|apply aI
inductive P45
 |e
inductive R45
 |r0 (r0:Bool)
def T45(n:Int)(s:Span):P45->Tr P45 R45
 |.e=>(.call 96 [iI n,iI s.lo,iI s.hi] (.bool (within n s.lo s.hi)) true true (.out (.r0 (within n s.lo s.hi))))
noncomputable def g45(n:Int)(s:Span):P45->List Item × St
 |.e=>bd Tryz.f45 [iI n,.agg [iI s.lo,iI s.hi]] 9
def n45:R45->Exit × St
 |.r0 r0=>(.ret,⟨mk 11 [(4,.bool r0)],[],[]⟩)
def v45:R45->V
 |.r0 r0=>.bool r0
theorem s45(n:Int)(s:Span):Sm 0 (g45 n s) (T45 n s) (n45)
 |.e=>⟨400,by kernel_rfl⟩
theorem q45:∀r,bodyQ Tryz.prog Tryz.f45 (·=v45 r) (n45 r).1 (n45 r).2
 |.r0 r0=>bq (.bool r0) (by kernel_rfl)
theorem w45(n:Int)(s:Span){post:V->Prop}(h:WQ (T45 n s) v45 post .e):PC 45 [iI n,.agg [iI s.lo,iI s.hi]] post:=
 PCalls.wq Tryz.func45 (s45 n s) q45 h
theorem c45(n:Int)(s:Span):PC 45 [iI n,.agg (tSpan.cells s)] (·=.bool (within n s.lo s.hi)):=by
 refine w45 _ _ (WP.step ?_);simp only[T45,Go,Ends',v45,Tr.sure,SS];repeat' with_reducible first|intro _|apply aI
 all_goals exact c96 _ _ _
end
theorem firstE_all{τ:Type}{of:Nat->τ->Int}(d:τ):∀ {l:List τ} {i:Nat},(∀j,j<l.length->of (i+j) (l.getD j d)=0)->firstE of i l=none
 |[],_,_=>rfl
 |x::l,i,h=>by
  have h0:=h 0 (by simp);simp only[Nat.add_zero,List.getD_cons_zero]at h0;simp only[firstE,h0,if_true];refine firstE_all d fun j hj=> ?_;have:=h (j+1) (by simpa using hj);rw[show i+(j+1)=i+1+j by omega]at this;simpa using this
theorem bookCheck_of{b:Book}(h:OkBook b):bookCheck b=(0,0,0):=by
 have e1:firstE (bodyAt b.bodies) 0 b.bodies=none:=firstE_all zBody fun j hj=>by rw[Nat.zero_add];exact h.body j hj
 have e2:firstE (headAt b.heads) 0 b.heads=none:=firstE_all ByteArray.empty fun j hj=>by rw[Nat.zero_add];exact h.head j hj
 have e3:firstE (lineErr b) 0 b.lines=none:=firstE_all zLine fun j hj=>by rw[Nat.zero_add];exact h.lineE j hj
 unfold bookCheck;have h1:=h.nb;have h2:=h.nh;have h3:=h.nl;rw[if_neg (by omega),e1];simp only;rw[if_neg (by omega),e2];simp only;rw[if_neg (by omega),e3]
def Step1(x:Line)(h h':List Int):Prop:=∃p∈pairsR x,doneR h x p=(h',true)
def Step2(f:Bool)(x:Line)(h h':List Int):Prop:=if f=true then h'=h else Step1 x h h'
inductive Run:List Int->List (Line × Bool)->List (List Int)->Prop
 |nil (h:List Int):Run h [] []
 |cons {h h':List Int} {x:Line} {f:Bool} {L:List (Line × Bool)} {hs:List (List Int)}:Step2 f x h h'->Run h' L hs->Run h ((x,f)::L) (h'::hs)
def lastH(h:List Int)(hs:List (List Int)):List Int:=(h::hs).getD hs.length []
theorem lastH_cons(h h':List Int)(hs:List (List Int)):lastH h (h'::hs)=lastH h' hs:=by simp[lastH]
theorem lastH_snoc(h h':List Int):∀hs:List (List Int),lastH h (hs++ [h'])=h'
 |[]=>rfl
 |a::hs=>by rw[List.cons_append,lastH_cons];exact lastH_snoc a h' hs
theorem Run.len{h:List Int}{L:List (Line × Bool)}{hs:List (List Int)}(r:Run h L hs):hs.length=L.length:=by
 induction r with
 |nil=>rfl
 |cons _ _ ih=>simp[ih]
theorem run_nil{h:List Int}{hs:List (List Int)}:Run h [] hs↔hs=[]:=⟨fun r=>by cases r;rfl,fun e=>e▸Run.nil h⟩
theorem run_cons{h:List Int}{x:Line}{f:Bool}{L:List (Line × Bool)}{hs:List (List Int)}:Run h ((x,f)::L) hs↔∃h' r,hs=h'::r/\Step2 f x h h'/\Run h' L r:=by
 constructor
 ·intro r;cases r with
  |cons s r=>exact⟨_,_,rfl,s,r⟩
 ·rintro⟨h',r,rfl,s,q⟩;exact .cons s q
theorem run_append{L2:List (Line × Bool)}:∀(L1:List (Line × Bool)) (h:List Int) (hs:List (List Int)),Run h (L1++L2) hs↔∃h1 h2,hs=h1++h2/\Run h L1 h1/\Run (lastH h h1) L2 h2
 |[],h,hs=>by
  constructor
  ·intro r;exact⟨[],hs,rfl,.nil h,r⟩
  ·rintro⟨h1,h2,rfl,r1,r2⟩;rw[run_nil]at r1;subst r1;exact r2
 |(x,f)::L1,h,hs=>by
  rw[List.cons_append,run_cons];constructor
  ·rintro⟨h',r,rfl,s,q⟩
   obtain⟨h1,h2,rfl,r1,r2⟩:=(run_append L1 h' r).1 q;exact⟨h'::h1,h2,rfl,.cons s r1,by rw[lastH_cons];exact r2⟩
  ·rintro⟨h1,h2,rfl,r1,r2⟩
   obtain⟨h',r,rfl,s,q⟩:=run_cons.1 r1;rw[lastH_cons]at r2;exact⟨h',r++h2,rfl,s,(run_append L1 h' _).2 ⟨r,h2,rfl,q,r2⟩⟩
def flags(b:Book)(but:List Int)(i:Nat):List (Line × Bool):=(List.range i).map fun k=>(b.lines.getD k zLine,hasN but (k:Int))
theorem flags_succ(b:Book)(but:List Int)(i:Nat):flags b but (i+1)=flags b but i++ [(b.lines.getD i zLine,hasN but (i:Int))]:=by unfold flags;rw[List.range_succ,List.map_append];rfl
theorem mem_step{b:Book}{but:List Int}{i:Nat}{t:Truth}(hp:0<(pairsR (b.lines.getD i zLine)).length)(hv:List (List Int)):(∃u∈stepT b but i t,u.haves=hv)↔∃h',hv=t.haves++ [h']/\Step2 (hasN but (i:Int)) (b.lines.getD i zLine) (t.haves.getD i []) h':=by
 unfold stepT Step2 Step1 waysR;generalize b.lines.getD i zLine=x at*
 constructor
 ·rintro⟨u,hu,rfl⟩
  obtain⟨k,hk,hu⟩:=List.mem_flatMap.1 hu;rw[List.mem_range]at hk;by_cases hb:hasN but (i:Int)=true
  ·rw[if_pos hb]at hu;split at hu
   ·rw[List.mem_singleton.1 hu];exact⟨_,rfl,by rw[if_pos hb]⟩
   ·exact absurd hu List.not_mem_nil
  ·rw[if_neg hb]at hu;split at hu
   ·rename_i hd;rw[List.mem_singleton.1 hu];exact⟨_,rfl,by rw[if_neg hb];exact⟨_,getD_mem zPair _ k hk,Prod.ext rfl hd⟩⟩
   ·exact absurd hu List.not_mem_nil
 ·rintro⟨h',rfl,hs⟩
  by_cases hb:hasN but (i:Int)=true
  ·rw[if_pos hb]at hs;subst hs;exact⟨_,List.mem_flatMap.2 ⟨0,List.mem_range.2 hp,by rw[if_pos hb,if_pos rfl];exact List.mem_singleton.2 rfl⟩,rfl⟩
  ·rw[if_neg hb]at hs;obtain⟨p,hp2,e⟩:=hs;obtain⟨k,hk,rfl⟩:=mem_getD zPair hp2;exact⟨_,List.mem_flatMap.2 ⟨k,List.mem_range.2 hk,by rw[if_neg hb,if_pos (by rw[e])];exact List.mem_singleton.2 rfl⟩,by simp only[e]⟩
theorem truth_run{b:Book}(h:OkBook b)(but:List Int):∀i,i<=b.lines.length->∀hv,(∃t∈truthsTo b but i,t.haves=hv)↔∃hs,hv=firstH b::hs/\Run (firstH b) (flags b but i) hs
 |0,_,hv=>by
  constructor
  ·rintro⟨t,ht,rfl⟩
   rw[truthsTo,List.mem_singleton]at ht;subst ht;exact⟨[],rfl,.nil _⟩
  ·rintro⟨hs,rfl,r⟩
   have:flags b but 0=[]:=rfl;rw[this,run_nil]at r;subst r;exact⟨_,List.mem_singleton.2 rfl,rfl⟩
 |i+1,hi,hv=>by
  have hp:=pairs_pos (h.line (i:=i) (by omega));rw[flags_succ];have ih:=truth_run h but i (by omega);constructor
  ·rintro⟨t,ht,rfl⟩
   rw[truthsTo,List.mem_flatMap]at ht;obtain⟨u,hu,ht⟩:=ht;obtain⟨h',e,s⟩:=(mem_step hp t.haves).1 ⟨t,ht,rfl⟩;obtain⟨hs,e2,r⟩:=(ih u.haves).1 ⟨u,hu,rfl⟩;have hl:=r.len;rw[flags,List.length_map,List.length_range]at hl;refine⟨hs++ [h'],by rw[e,e2];rfl,(run_append _ _ _).2 ⟨hs,[h'],rfl,r,.cons ?_ (.nil _)⟩⟩;rw[e2]at s;unfold lastH;rw[hl];exact s
  ·rintro⟨hs,rfl,r⟩
   obtain⟨h1,h2,rfl,r1,r2⟩:=(run_append _ _ _).1 r;obtain⟨h',r3,rfl,s,q⟩:=run_cons.1 r2;rw[run_nil]at q;subst q;obtain⟨u,hu,e⟩:=(ih (firstH b::h1)).2 ⟨h1,rfl,r1⟩;have hl:=r1.len;rw[flags,List.length_map,List.length_range]at hl;unfold lastH at s;rw[hl,<-e]at s;obtain⟨t,ht,e3⟩:=(mem_step (b:=b) hp (u.haves++ [h'])).2 ⟨h',rfl,s⟩;exact⟨t,by rw[truthsTo,List.mem_flatMap];exact⟨u,hu,ht⟩,by rw[e3,e];rfl⟩
def all0(l:List Line):List (Line × Bool):=l.map fun x=>(x,false)
theorem flags_all(b:Book):flags b [] b.lines.length=all0 b.lines:=by
 apply List.ext_getElem
 ·simp[flags,all0]
 ·intro i h1 h2;have:i<b.lines.length:=by simpa[all0]using h2
  simp[flags,all0,hasN,gE,this]
theorem truths_run{b:Book}(h:OkBook b)(hv:List (List Int)):(∃t∈truthsR b [],t.haves=hv)↔∃hs,hv=firstH b::hs/\Run (firstH b) (all0 b.lines) hs:=by
 rw[<-flags_all];exact truth_run h [] _ (Nat.le_refl _) hv
theorem truth_hs{b:Book}(h:OkBook b){t:Truth}(ht:t∈truthsR b []):∃hs,t.haves=firstH b::hs/\Run (firstH b) (all0 b.lines) hs:=(truths_run h _).1 ⟨t,ht,rfl⟩
theorem hs_truth{b:Book}(h:OkBook b){hs:List (List Int)}(r:Run (firstH b) (all0 b.lines) hs):∃t∈truthsR b [],t.haves=firstH b::hs:=(truths_run h _).2 ⟨hs,rfl,r⟩
theorem run0_len{h:List Int}{L:List Line}{hs:List (List Int)}(r:Run h (all0 L) hs):hs.length=L.length:=by rw[r.len];simp[all0]
def Sorted(l:List Line):Prop:=l.Pairwise fun x y=>x.day<=y.day
theorem all0_append(l m:List Line):all0 (l++m)=all0 l++all0 m:=List.map_append
theorem step_one{x:Line}{h h':List Int}:Step2 false x h h'↔Step1 x h h':=by unfold Step2;rw[if_neg (by decide)]
theorem step_swap{x:Line}(hk:x.kind<=2){h h':List Int}:Step1 x h h'↔∃p∈pairsR x,h'=swapR h p:=by
 unfold Step1 doneR;have h3:¬x.kind=3:=by omega
 have h4:¬x.kind=4:=by omega
 simp only[h3,h4,if_false];constructor
 ·rintro⟨p,hp,e⟩;exact⟨p,hp,(Prod.ext_iff.1 e).1.symm⟩
 ·rintro⟨p,hp,rfl⟩;exact⟨p,hp,rfl⟩
theorem outside_no{lo hi:Int}{l:List Int}(h:∀n∈l,lo<=n/\n<=hi):outside lo hi l=false:=by
 unfold outside
 cases e:l.any fun n=> !within n lo hi with
 |false=>rfl
 |true=>
  obtain⟨n,hn,q⟩:=List.any_eq_true.1 e;rw[not_iff_false]at q;have:=within_iff.2 (h n hn);rw[q]at this;cases this
theorem told_val{b:Book}(h:OkBook b){ns:List Int}(hn:∀n∈ns,0<=n/\n<b.bodies.length){d:Int}(hd:0<=d/\d<=364):toldR b ns d=if(truthsR b []).length=0 then([],8)else(truthsR b [],0):=by
 have e:toldE b ns d=0:=by
  unfold toldE;rw[bookCheck_of h,if_neg (by decide),outside_no (fun n hm=>by have:=hn n hm;omega),if_neg (by decide),within_iff.2 hd,if_pos rfl]
 unfold toldR;rw[e,if_neg (by decide)]
theorem told_zero{b:Book}(h:OkBook b){ns:List Int}(hn:∀n∈ns,0<=n/\n<b.bodies.length){d:Int}(hd:0<=d/\d<=364)(ht:0<(truthsR b []).length):(toldR b ns d).2=0:=by
 rw[told_val h hn hd,if_neg (by omega)]
theorem one_in{n m:Int}(h:0<=n/\n<m):∀k∈ [n],0<=k/\k<m:=fun k hk=>by rw[List.mem_singleton.1 hk];exact h
section
variable {b b':Book} {D:Int->Prop}
theorem where_is{head d:Int}(h0:(toldR b [head] d).2=0):whereR b head d=(((List.range b.bodies.length).filter fun i=>anyT b d (truthsR b []) i head).map fun(i:Nat)=>(i:Int),0):=by unfold whereR;rw[if_neg (fun q=>q h0)]
theorem on_is{o d:Int}(h0:(toldR b [o] d).2=0):onR b o d=(((List.range b.heads.length).filter fun(h:Nat)=>anyT b d (truthsR b []) o.toNat (h:Int)).map fun(i:Nat)=>(i:Int),0):=by unfold onR;rw[if_neg (fun q=>q h0)]
theorem as_is{head d:Int}(h0:(toldR b [head] d).2=0):asR b head d=((personsR b).filter fun s=>(truthsR b []).any fun t=>same (seenR b t head d) s,0):=by unfold asR;rw[if_neg (fun q=>q h0)]
theorem ever_is{head:Int}(h0:(toldR b [head] 0).2=0):everR b head=((personsR b).filter fun s=>manyS b (truthsR b []) head s==(truthsR b []).length,(personsR b).filter fun s=>decide (0<manyS b (truthsR b []) head s),0):=by unfold everR;rw[if_neg (fun q=>q h0)]
theorem mem_filtR{n:Nat}{p:Nat->Bool}{c:Int}:c∈((List.range n).filter p).map (fun(i:Nat)=>(i:Int))↔∃i,i<n/\p i=true/\(i:Int)=c:=by
 rw[List.mem_map];constructor
 ·rintro⟨i,hi,e⟩
  obtain⟨h1,h2⟩:=List.mem_filter.1 hi;exact⟨i,List.mem_range.1 h1,h2,e⟩
 ·rintro⟨i,h1,h2,e⟩;exact⟨i,List.mem_filter.2 ⟨List.mem_range.2 h1,h2⟩,e⟩
theorem mem_as{head d:Int}(h0:(toldR b [head] d).2=0){x:ByteArray}:x∈(asR b head d).1↔x∈personsR b/\∃t∈truthsR b [],seenR b t head d=x:=by
 rw[as_is h0,List.mem_filter,List.any_eq_true];simp only[same_iff]
def Sees(b:Book)(t:Truth)(head:Int)(s:ByteArray):Prop:=∃d:Int,(0<=d/\d<=364)/\seenR b t head d=s
theorem shown_sees(h:OkBook b){t:Truth}(ht:t∈truthsR b []){head:Int}(hh:0<=head/\head<b.bodies.length){s:ByteArray}:shownR b t head s (daysR b)=true↔Sees b t head s:=by
 unfold shownR Sees;rw[List.any_eq_true];constructor
 ·rintro⟨d,hd,e⟩;exact⟨d,days_in hd,same_iff.1 e⟩
 ·rintro⟨d,hd,e⟩
  have hn:((d.toNat:Nat):Int)=d:=Int.toNat_of_nonneg hd.1;obtain⟨d',h1,h2⟩:=seen_days h ht hh (s:=s) d.toNat (by omega) (by rw[hn];exact e);exact⟨d',h1,same_iff.2 h2⟩
theorem many_some(h:OkBook b){head:Int}(hh:0<=head/\head<b.bodies.length){s:ByteArray}:0<manyS b (truthsR b []) head s↔∃t∈truthsR b [],Sees b t head s:=by
 unfold manyS;constructor
 ·intro q;obtain⟨t,ht⟩:=List.exists_mem_of_length_pos q;obtain⟨h1,h2⟩:=List.mem_filter.1 ht;exact⟨t,h1,(shown_sees h h1 hh).1 h2⟩
 ·rintro⟨t,ht,q⟩
  exact List.length_pos_of_mem (List.mem_filter.2 ⟨ht,(shown_sees h ht hh).2 q⟩)
theorem mem_may(h:OkBook b){head:Int}(h0:(toldR b [head] 0).2=0)(hh:0<=head/\head<b.bodies.length){s:ByteArray}:s∈(everR b head).2.1↔s∈personsR b/\∃t∈truthsR b [],Sees b t head s:=by
 rw[ever_is h0,List.mem_filter,decide_eq_true_eq,many_some h hh]
theorem anyS_iff{head:Int}{s:ByteArray}{d:Int}{L:List Truth}:anyS b L head s d=true↔∃t∈L,seenR b t head d=s:=by
 unfold anyS;rw[List.any_eq_true];simp only[same_iff]
theorem between_how(h:OkBook b){head:Int}(hh:0<=head/\head<b.bodies.length){s:ByteArray}(hs:s≠ByteArray.empty):
  ((spanOf b (truthsR b []) head s).lo<0/\∀d,0<=d/\d<=364->anyS b (truthsR b []) head s d=false)\/
  (0<=(spanOf b (truthsR b []) head s).lo/\(spanOf b (truthsR b []) head s).lo<=(spanOf b (truthsR b []) head s).hi/\(spanOf b (truthsR b []) head s).hi<=364/\anyS b (truthsR b []) head s (spanOf b (truthsR b []) head s).lo=true/\anyS b (truthsR b []) head s (spanOf b (truthsR b []) head s).hi=true/\
   ∀d,0<=d/\d<=364->anyS b (truthsR b []) head s d=true->(spanOf b (truthsR b []) head s).lo<=d/\d<=(spanOf b (truthsR b []) head s).hi):=by
 have hA:=fun {d:Int} h0=>anyS_hits h hh hs (d:=d) h0
 have hin:∀x∈hitsX head (keptB b s) (truthsR b []),0<=x.span.lo/\x.span.lo<=x.span.hi/\x.span.hi<=364:=fun x hx=>by
  obtain⟨t,ht,hx2⟩:=List.mem_flatMap.1 hx;have hx5:=(mem_kept.1 (List.mem_filter.1 hx2).1).1;exact⟨(stretch_good hx5).lo,(stretch_good hx5).le,stretch_hi hx5⟩
 rcases between_law h hh hs with⟨q1,q2⟩|⟨q1,q2,q3⟩
 ·left
  refine⟨q2,fun d hd=> ?_⟩;rw[manyX_hits]at q1
  cases hz:anyS b (truthsR b []) head s d with
  |false=>rfl
  |true=>
   obtain⟨x,hx,_⟩:=(hA hd).1 hz;have:=(hits_span (Q:=hitsX head (keptB b s) (truthsR b [])) (fun e=>by rw[e]at hx;exact absurd hx List.not_mem_nil)).1;rw[this]at q1;cases q1
 ·right
  rw[manyX_hits]at q1 q3;have hne:hitsX head (keptB b s) (truthsR b [])≠ []:=fun e=>by rw[e]at q1;cases q1
  obtain⟨_,⟨x,hx,ex⟩,⟨y,hy,ey⟩,ha⟩:=hits_span hne;obtain⟨x1,x2,x3⟩:=hin x hx;obtain⟨y1,y2,y3⟩:=hin y hy;have hxy:=ha x hx;rw[q3];generalize(hitsX head (keptB b s) (truthsR b [])).foldl stepY (0,0,false)=r at*
  simp only;refine⟨by omega,by omega,by omega,(hA ⟨by omega,by omega⟩).2 ⟨x,hx,by omega,by omega⟩,(hA ⟨by omega,by omega⟩).2 ⟨y,hy,by omega,by omega⟩,fun d hd e=> ?_⟩;obtain⟨z,hz,z1,z2⟩:=(hA hd).1 e;have:=ha z hz;omega
theorem between_is{head:Int}(h0:(toldR b [head] 0).2=0){s:ByteArray}(hs:nameOk s=true):betweenR b head s=if(spanOf b (truthsR b []) head s).lo<0 then(zSpan,4)else(spanOf b (truthsR b []) head s,0):=by
 unfold betweenR;rw[if_neg (fun q=>q h0),if_neg (by rw[hs];decide)]
theorem name_ne{s:ByteArray}(h:nameOk s=true):s≠ByteArray.empty:=fun e=>by rw[e]at h;revert h;decide
theorem between_may(h:OkBook b){head:Int}(hh:0<=head/\head<b.bodies.length)(h0:(toldR b [head] 0).2=0){s:ByteArray}(hn:nameOk s=true){t:Truth}(ht:t∈truthsR b [])(hs:Sees b t head s):(betweenR b head s).2=0/\(betweenR b head s).1=spanOf b (truthsR b []) head s/\
  (0<=(spanOf b (truthsR b []) head s).lo/\(spanOf b (truthsR b []) head s).lo<=(spanOf b (truthsR b []) head s).hi/\(spanOf b (truthsR b []) head s).hi<=364/\anyS b (truthsR b []) head s (spanOf b (truthsR b []) head s).lo=true/\anyS b (truthsR b []) head s (spanOf b (truthsR b []) head s).hi=true/\
   ∀d,0<=d/\d<=364->anyS b (truthsR b []) head s d=true->(spanOf b (truthsR b []) head s).lo<=d/\d<=(spanOf b (truthsR b []) head s).hi):=by
 rw[between_is h0 hn];obtain⟨d,hd,e⟩:=hs;rcases between_how h hh (name_ne hn)with⟨q1,q2⟩|q
 ·have:=q2 d hd;rw[anyS_iff.2 ⟨t,ht,e⟩]at this;cases this
 ·rw[if_neg (by omega)];exact⟨rfl,rfl,q⟩
end
noncomputable section
def dayR(n:Int):Int:=n.tmod 365
theorem valid_ok{b:Book}(h:validR b=true):OkBook b:=okBook (by simpa[validR]using h)
theorem valid_of{b:Book}(h:OkBook b):validR b=true:=by unfold validR;rw[bookCheck_of h];rfl
inductive P41
 |e
inductive R41
 |r0 (r0:Int)
def T41(n:Int):P41->Tr P41 R41
 |.e=>(.need (inR .i64 n) (.need (decide ((365:Int)≠0)) (.out (.r0 (n.tmod (365:Int))))))
noncomputable def g41(n:Int):P41->List Item × St
 |.e=>bd Tryz.f41 [.int .u16 n] 5
def n41:R41->Exit × St
 |.r0 r0=>(.ret,⟨mk 6 [(2,iI r0)],[],[]⟩)
def v41:R41->V
 |.r0 r0=>iI r0
theorem s41(n:Int):Sm 0 (g41 n) (T41 n) (n41)
 |.e=>⟨400,by kernel_rfl⟩
theorem q41:∀r,bodyQ Tryz.prog Tryz.f41 (·=v41 r) (n41 r).1 (n41 r).2
 |.r0 r0=>bq (iI r0) (by kernel_rfl)
theorem w41(n:Int){post:V->Prop}(h:WQ (T41 n) v41 post .e):PC 41 [.int .u16 n] post:=
 PCalls.wq Tryz.func41 (s41 n) q41 h
theorem c41(n:Int)(h:inR .i64 n=true):PC 41 [.int .u16 n] (·=iI (dayR n)):=by
 refine w41 n (WP.step ?_);simp only[T41,Go,Ends',v41,Tr.sure,SS];repeat' with_reducible first|intro _|apply aI
 all_goals simp[h,dayR,Go,Ends',v41,-List.getD_eq_getElem?_getD, *]
end
noncomputable section
theorem which_in{w:Int}{n:Nat}(hw:0<=w)(hn:0<n):0<=w.tmod (n:Int)/\w.tmod (n:Int)<(n:Int):=by
 rw[Int.tmod_eq_emod_of_nonneg hw];exact⟨Int.emod_nonneg _ (by omega),Int.emod_lt_of_pos _ (by omega)⟩
theorem day_in{w:Int}(hw:0<=w):0<=dayR w/\dayR w<=364:=by
 have:=which_in (n:=365) hw (by decide);unfold dayR;have e:((365:Nat):Int)=365:=rfl;rw[e]at this;omega
theorem at_perm{b:Book}(h:OkBook b){t:Truth}(ht:t∈truthsR b [])(d:Int):(atR b t d).Perm (firstH b):=by
 have hln:=lineN_in b d;exact have_in h ht (by omega)
theorem head_in{b:Book}(h:OkBook b){t:Truth}(ht:t∈truthsR b [])(d:Int){H:Int}(hh:0<=H/\H<b.bodies.length):(bodyOf (atR b t d) H).toNat<b.bodies.length/\0<=bodyOf (atR b t d) H/\(atR b t d).getD (bodyOf (atR b t d) H).toNat 0=H:=by
 have hp:=at_perm h ht d;obtain⟨b1,b2,b3⟩:=bodyOf_in (hp.mem_iff.2 (mem_firstH.2 hh));have:=hp.length_eq;rw[show(firstH b).length=b.bodies.length by simp[firstH]]at this;exact⟨by omega,b1,b3⟩
theorem told_bad{b:Book}(h:¬(validR b=true/\b.bodies.length≠0)){n d:Int}:(toldR b [n] d).2≠0:=fun e=>by
 obtain⟨h1,h2,-⟩:=told_ok e;have:=h2 n (by simp);exact h ⟨valid_of h1,by omega⟩
theorem where_bad{b:Book}{n d:Int}(h:(toldR b [n] d).2≠0):whereR b n d=([],(toldR b [n] d).2):=by unfold whereR;rw[if_pos h]
end
noncomputable section
theorem index_mem{l:List ByteArray}{s:ByteArray}:0<=indexS l s↔s∈l:=by
 unfold indexS
 cases h:firstI (fun o=>same o s) 0 l with
 |some i=>
  have:=any_of_firstI h;obtain⟨x,hx,e⟩:=List.any_eq_true.1 this;rw[same_iff]at e;subst e;exact⟨fun _=>hx,fun _=>by simp⟩
 |none=>
  have:=any_of_none h;constructor
  ·intro q;simp at q
  ·intro q;have h2:l.any (fun o=>same o s)=true:=List.any_eq_true.2 ⟨s,q,same_iff.2 rfl⟩;rw[this]at h2;cases h2
theorem names_len{b:Book}(h:OkBook b)(p:ByteArray->Bool):((personsR b).filter p).length<=15:=Nat.le_trans (List.length_filter_le _ _) (persons_len h)
theorem sees_at{b:Book}{t:Truth}{H:Int}{d:Int}(hd:0<=d/\d<=364):Sees b t H (seenR b t H d):=⟨d,hd,rfl⟩
theorem seen_person{b:Book}{t:Truth}{H d:Int}(h:seenR b t H d≠ByteArray.empty):seenR b t H d∈personsR b:=
 shown_person (t:=t) (hd:=H) h (D:=[d]) (by unfold shownR;simp[same_iff])
end
noncomputable section
theorem person_name{b:Book}(h:OkBook b){s:ByteArray}(hs:s∈personsR b):nameOk s=true:=by
 unfold personsR at hs;rw[mem_sortU]at hs;unfold allNames at hs;rw[List.mem_flatMap]at hs;obtain⟨x,hx,hs⟩:=hs;rw[List.mem_map]at hs;obtain⟨z,hz,e⟩:=hs;obtain⟨i,hi,rfl⟩:=mem_getD zBody hx;have:=(shown_iff.1 (h.shown hi)).2;obtain⟨q,hq,rfl⟩:=mem_getD zShown hz;have h2:=this q hq;unfold shownAt at h2;rw[e]at h2;split at h2
 ·cases h2
 split at h2
 ·cases h2
 split at h2
 ·cases h2
 ·rename_i g;simpa using g
def insideR(n:Int)(s:Span):Bool:=within n s.lo s.hi
theorem c45i(n:Int)(s:Span):PC 45 [iI n,.agg (tSpan.cells s)] (·=.bool (insideR n s)):=c45 n s
end
noncomputable section
def isSome2(x:Line):Bool:=decide (x.kind=2)
structure OkLs(n:Nat)(l:List Line):Prop where
 len:l.length<=8
 ok:∀x∈l,OkLine n x
 srt:Sorted l
 some:l.countP isSome2<=2
theorem someTo_count(l:List Line):∀n,n<=l.length->someTo l n=((l.take n).countP isSome2:Int)
 |0,_=>by simp[someTo,natF]
 |n+1,hn=>by
  have e:someTo l (n+1)=if(l.getD n zLine).kind=2 then someTo l n+1 else someTo l n:=rfl
  rw[e,someTo_count l n (by omega),take_snoc zLine l n hn,List.countP_append,List.countP_singleton];unfold isSome2;by_cases q:(l.getD n zLine).kind=2
  ·rw[if_pos q,if_pos (decide_eq_true q)];omega
  ·rw[if_neg q,if_neg (by simpa using q)];omega
theorem okBook_of{b b':Book}(h:OkBook b)(hb:b'.bodies=b.bodies)(hh:b'.heads=b.heads)(hl:OkLs b.bodies.length b'.lines):OkBook b':=by
 refine⟨by rw[hb];exact h.nb,by rw[hb,hh];exact h.nh,hl.len,?_,?_,fun i hi=> ?_⟩
 ·rw[hb];exact h.body
 ·rw[hh];exact h.head
 ·refine line_iff.2 ⟨by rw[hb];exact hl.ok _ (getD_mem zLine _ i hi),fun h0=> ?_,fun _=> ?_⟩
  ·rw[gE,gE,List.getElem?_eq_getElem hi,List.getElem?_eq_getElem (by omega)];exact List.pairwise_iff_getElem.1 hl.srt (i-1) i (by omega) hi (by omega)
  ·rw[someTo_count _ _ (by omega)];have h1:=List.Sublist.countP_le (p:=isSome2) (List.take_sublist (i+1) b'.lines);have h2:=hl.some;omega
theorem mod_ne{p r n:Int}(hp:0<=p/\p<n)(hr:0<=r/\r<n-1):p≠(p+1+r).tmod n:=by
 rw[Int.tmod_eq_emod_of_nonneg (by omega)];by_cases h:p+1+r<n
 ·rw[Int.emod_eq_of_lt (by omega) h];omega
 ·have:(p+1+r)%n=p+1+r-n:=by
   have e:p+1+r=(p+1+r-n)+n*1:=by omega
   rw[e,Int.add_mul_emod_self_left,Int.emod_eq_of_lt (by omega) (by omega)];omega
  omega
end
noncomputable section
theorem wrong_first{b:Book}(h:OkBook b):First36 b b.lines.length (wrongR b).1/\(wrongR b).2=0:=by
 have e:wrongR b=(wrongFrom b b.lines.length b.lines.length 0,0):=by unfold wrongR;rw[bookCheck_of h,if_neg (by decide)]
 rw[e];exact⟨first_from h.nl (fun l hl=>full_can h fun i hi=>picks_full ⟨b.lines.length,by have:=h.nl;omega⟩ l hl ⟨i,hi⟩) b.lines.length 0 (by omega) fun l _ q=>by omega,rfl⟩
theorem at_snoc(b:Book)(A:List Line)(x:Line)(j:Nat):VLe (([tBody.lst b.bodies,tstr.lst b.heads,.list 7 (A.length+1) (rowsOf tLine (A++ [x]))]:List V).getD j uU) (([tBody.lst b.bodies,tstr.lst b.heads,tLine.lst (A++ [x])]:List V).getD j uU):=by
 refine VLe.at ?_ [tBody.lst b.bodies,tstr.lst b.heads] [] j;have:A.length+1=(A++ [x]).length:=by simp
 rw[this];exact VLe.refl _
end
noncomputable section
structure Past where
 deeds:List Int
 words:List Int
 days:List Int
 many:Int
def turnR(l:List Int)(n:Int):Int:=if l.length=0 then 0 else l.getD (n.tmod (l.length:Int)).toNat 0
def U8(l:List Int):Prop:=∀x∈l,0<=x/\x<=255
inductive P95
 |e
inductive R95
 |r0 (r0:Int)
def T95(l:List Int)(n:Int):P95->Tr P95 R95
 |.e=>let c1:=(l.length:Int);let c2:=l.getD ((n.tmod c1)).toNat tu8.zero;(.br (c1==(0:Int)) (.out (.r0 0)) (.need (decide (c1≠0)) (.need (decide (0<=(n.tmod c1))&&decide ((n.tmod c1)<c1)) (.need (inR .i64 c2) (.out (.r0 c2))))))
noncomputable def g95(l:List Int)(n:Int):P95->List Item × St
 |.e=>bd Tryz.f95 [tu8.lst l,iI n] 14
def n95:R95->Exit × St
 |.r0 r0=>(.ret,⟨mk 16 [(4,iI r0)],[],[]⟩)
def v95:R95->V
 |.r0 r0=>iI r0
theorem s95(l:List Int)(n:Int):Sm 0 (g95 l n) (T95 l n) (n95)
 |.e=>⟨400,by kernel_rfl⟩
theorem q95:∀r,bodyQ Tryz.prog Tryz.f95 (·=v95 r) (n95 r).1 (n95 r).2
 |.r0 r0=>bq (iI r0) (by kernel_rfl)
theorem w95(l:List Int)(n:Int){post:V->Prop}(h:WQ (T95 l n) v95 post .e):PC 95 [tu8.lst l,iI n] post:=
 PCalls.wq Tryz.func95 (s95 l n) q95 h
theorem c95(l:List Int)(n:Int)(hl:U8 l)(hn:0<=n):PC 95 [tu8.lst l,iI n] (·=iI (turnR l n)):=by
 by_cases h:l.length=0
 ·have h':((l.length:Int)==0)=true:=by simp[h]
  have e:turnR l n=0:=if_pos h;rw[e];refine w95 l n (WP.step ?_);simp only[T95,Go,Ends',v95,Tr.sure,SS,h'];repeat' with_reducible first|intro _|apply aI
 ·have h':((l.length:Int)==0)=false:=beq_eq_false_iff_ne.2 (by omega);have h2:¬(l.length:Int)=0:=by omega
  have hw:=which_in hn (by omega:0<l.length);have e:turnR l n=l.getD (n.tmod (l.length:Int)).toNat 0:=if_neg h;have hb:=hl _ (getD_mem 0 l (n.tmod (l.length:Int)).toNat (by omega));have hr:inR .i64 (l.getD (n.tmod (l.length:Int)).toNat 0)=true:=inR64 (by omega) (by omega);have z:tu8.zero=0:=rfl;rw[e];refine w95 l n (WP.step ?_);simp only[T95,Go,Ends',v95,Tr.sure,SS,h',z];repeat' with_reducible first|intro _|apply aI
  all_goals simp[h2,hw,hr,Go,Ends',v95,-List.getD_eq_getElem?_getD, *]
theorem turn_in{l:List Int}(hl:U8 l){n:Int}(hn:0<=n):0<=turnR l n/\turnR l n<=255:=by
 unfold turnR;split
 ·decide
 ·rename_i h;have hw:=which_in hn (by omega:0<l.length);exact hl _ (getD_mem 0 l _ (by omega))
def pT(b:Book)(x:Past)(i:Int):Int:=(turnR x.deeds (2*i)).tmod (b.bodies.length:Int)
def qT(b:Book)(x:Past)(i:Int):Int:=((pT b x i+1)+(turnR x.deeds (2*i+1)).tmod ((b.bodies.length:Int)-1)).tmod (b.bodies.length:Int)
def cT(b:Book)(x:Past)(i:Int):Int:=(turnR x.words (2*i+1)).tmod (b.bodies.length:Int)
def eT(b:Book)(x:Past)(i:Int):Int:=((cT b x i+1)+(turnR x.words (2*i+2)).tmod ((b.bodies.length:Int)-1)).tmod (b.bodies.length:Int)
def kT(x:Past)(i:Int):Int:=(turnR x.words (2*i)).tmod 5
def dT(x:Past)(d i:Int):Int:=min 364 (d+(turnR x.days i).tmod 40)
def gT(b:Book)(x:Past)(hv:List Int)(i:Int):Int:=hv.getD (pT b x i).toNat 0
def hT(b:Book)(x:Past)(hv:List Int)(i:Int):Int:=hv.getD (qT b x i).toNat 0
def sT(b:Book)(x:Past)(hv:List Int)(i:Int):List Int:=(hv.set (pT b x i).toNat (hT b x hv i)).set (qT b x i).toNat (gT b x hv i)
def o40_44_6:Array Oper:=(regOf 44 (Tryz.f40.body.getD .skip)).getD #[]
@[reducible] def st40_44_6 (b:Book) (x:Past) (A:List Line) (n:Int) (hv:List Int) (d:Int) (s:Int) (i:Int) (V_:List (List Int)) (o:Line) (c:Nat->Bool):St:=⟨[uU,uU,.ref 0 0 0,.ref 1 0 0,.ref 2 0 0,uU,iI n,tint.lst hv,uU,.row 4 V_.length,iI d,iI s,iI i,uU,uU,uU,uU,.ref 5 0 0,uU,uU,uU,uU,uU,uU,uU,uU,uU,uU,uU,uU,uU,uU,uU,uU,uU,uU,uU,uU,uU,uU,uU,uU,uU,uU,uU,uU,uU,uU,uU,uU,uU,uU,uU,uU,uU,uU,uU,uU,uU,uU,uU,uU,uU,uU,uU,uU,uU,uU,uU,uU,uU,uU,uU,uU,uU,uU,uU,uU,uU,uU,uU,uU,uU,uU,uU,uU,uU,uU,uU,uU,uU,uU,uU,uU,uU,uU,uU,uU,uU,uU,uU,uU,uU,uU,uU,uU,uU,uU,uU,uU,uU,uU,uU,uU,uU,uU,uU,uU,uU,uU,uU,uU,uU,uU,uU,uU,uU,uU,uU,uU,uU,uU,uU,uU,uU,uU,uU,uU,uU,uU,uU,uU,uU,uU,uU,uU,uU,uU,uU,uU,uU,uU,uU,uU,uU,uU,uU,uU,uU,uU,uU,uU,uU,uU,uU,uU,uU,uU,uU,uU,uU,uU,uU,uU,uU,uU,uU,uU,uU,uU,uU,uU,uU,uU,uU,uU,uU,uU,uU,uU,uU,uU,uU,uU,uU,uU,uU,(bif c 0 then .nils else(uU)),(bif c 1 then .ref 0 0 2 else(uU)),(bif c 2 then tLine.lst A else(uU)),(bif c 3 then .row 6 A.length else(uU)),(bif c 4 then .agg [iI o.day,iI o.kind,iI o.a,iI o.b,iI o.c,iI o.d,iI o.set]else(uU)),(bif c 5 then .list 7 1 (litC 7 1 [iI o.day,iI o.kind,iI o.a,iI o.b,iI o.c,iI o.d,iI o.set])else(uU)),uU,uU,uU,uU,uU,uU,uU,uU],[.cells [tBody.lst b.bodies,tstr.lst b.heads,tLine.lst A],.cells [tu8.lst x.deeds,tu8.lst x.words,tu8.lst x.days,.int .u8 x.many],.cells [.nils,.nils,.nils],.gone,.rows 37 1 V_.length (rowsRev (tlist tint) V_),.cells [iI o.day,iI o.kind,iI o.a,iI o.b,iI o.c,iI o.d,iI o.set],(bif c 3 then .rows 66 7 A.length (rowsOf tLine A)else(.void))],[]⟩
def t40_44_6:Tab:=[([],[1,2,4,5]),([],[0,4,5]),([1],[0,4,5]),([0,1,2],[4,5]),([],[0,1,2,3]),([4],[0,1,2,3])]
theorem ov40_44_6(b:Book)(x:Past)(A:List Line)(n:Int)(hv:List Int)(d:Int)(s:Int)(i:Int)(V_:List (List Int))(o:Line)(h2:0+A.length+1<=4294967296):AWP Tryz.prog ⟨none,0⟩ (regionOf Tryz.f40 44) ⟨[uU,uU,.ref 0 0 0,.ref 1 0 0,.ref 2 0 0,uU,iI n,tint.lst hv,uU,.row 4 V_.length,iI d,iI s,iI i,uU,uU,uU,uU,.ref 5 0 0,uU,uU,uU,uU,uU,uU,uU,uU,uU,uU,uU,uU,uU,uU,uU,uU,uU,uU,uU,uU,uU,uU,uU,uU,uU,uU,uU,uU,uU,uU,uU,uU,uU,uU,uU,uU,uU,uU,uU,uU,uU,uU,uU,uU,uU,uU,uU,uU,uU,uU,uU,uU,uU,uU,uU,uU,uU,uU,uU,uU,uU,uU,uU,uU,uU,uU,uU,uU,uU,uU,uU,uU,uU,uU,uU,uU,uU,uU,uU,uU,uU,uU,uU,uU,uU,uU,uU,uU,uU,uU,uU,uU,uU,uU,uU,uU,uU,uU,uU,uU,uU,uU,uU,uU,uU,uU,uU,uU,uU,uU,uU,uU,uU,uU,uU,uU,uU,uU,uU,uU,uU,uU,uU,uU,uU,uU,uU,uU,uU,uU,uU,uU,uU,uU,uU,uU,uU,uU,uU,uU,uU,uU,uU,uU,uU,uU,uU,uU,uU,uU,uU,uU,uU,uU,uU,uU,uU,uU,uU,uU,uU,uU,uU,uU,uU,uU,uU,uU,uU,uU,uU,uU,uU,uU,uU,uU,uU,uU,uU,uU,uU,uU,uU,uU,uU,uU,uU,uU,uU,uU,uU,uU,uU],[.cells [tBody.lst b.bodies,tstr.lst b.heads,tLine.lst A],.cells [tu8.lst x.deeds,tu8.lst x.words,tu8.lst x.days,.int .u8 x.many],.cells [.nils,.nils,.nils],.gone,.rows 37 1 V_.length (rowsRev (tlist tint) V_),.cells [iI o.day,iI o.kind,iI o.a,iI o.b,iI o.c,iI o.d,iI o.set]],[]⟩ (fun e T=>e=.normal/\T=⟨[uU,uU,.ref 0 0 0,.ref 1 0 0,.ref 2 0 0,uU,iI n,tint.lst hv,uU,.row 4 V_.length,iI d,iI s,iI i,uU,uU,uU,uU,.ref 5 0 0,uU,uU,uU,uU,uU,uU,uU,uU,uU,uU,uU,uU,uU,uU,uU,uU,uU,uU,uU,uU,uU,uU,uU,uU,uU,uU,uU,uU,uU,uU,uU,uU,uU,uU,uU,uU,uU,uU,uU,uU,uU,uU,uU,uU,uU,uU,uU,uU,uU,uU,uU,uU,uU,uU,uU,uU,uU,uU,uU,uU,uU,uU,uU,uU,uU,uU,uU,uU,uU,uU,uU,uU,uU,uU,uU,uU,uU,uU,uU,uU,uU,uU,uU,uU,uU,uU,uU,uU,uU,uU,uU,uU,uU,uU,uU,uU,uU,uU,uU,uU,uU,uU,uU,uU,uU,uU,uU,uU,uU,uU,uU,uU,uU,uU,uU,uU,uU,uU,uU,uU,uU,uU,uU,uU,uU,uU,uU,uU,uU,uU,uU,uU,uU,uU,uU,uU,uU,uU,uU,uU,uU,uU,uU,uU,uU,uU,uU,uU,uU,uU,uU,uU,uU,uU,uU,uU,uU,uU,uU,uU,uU,uU,uU,uU,uU,uU,uU,uU,uU,uU,uU,uU,uU,uU,uU,uU,uU,uU,uU,.nils,.ref 0 0 2,tLine.lst A,uU,.agg [iI o.day,iI o.kind,iI o.a,iI o.b,iI o.c,iI o.d,iI o.set],.list 7 1 (litC 7 1 [iI o.day,iI o.kind,iI o.a,iI o.b,iI o.c,iI o.d,iI o.set]),.row 6 (A.length+1),.ref 0 0 2,uU,uU,uU,uU,uU,uU],[.cells [tBody.lst b.bodies,tstr.lst b.heads,.row 6 (A.length+1)],.cells [tu8.lst x.deeds,tu8.lst x.words,tu8.lst x.days,.int .u8 x.many],.cells [.nils,.nils,.nils],.gone,.rows 37 1 V_.length (rowsRev (tlist tint) V_),.cells [iI o.day,iI o.kind,iI o.a,iI o.b,iI o.c,iI o.d,iI o.set],.rows 66 7 (A.length+1) (appC A.length (rowsOf tLine A) (litC 7 1 [iI o.day,iI o.kind,iI o.a,iI o.b,iI o.c,iI o.d,iI o.set]))],[]⟩):=by
 refine AWP.region_bits (ops:=o40_44_6) 6 1 t40_44_6 mx (st40_44_6 b x A n hv d s i V_ o) (fun z_i z_h c=> ?_) ?_
 ·rcases show z_i=0\/z_i=1\/z_i=2\/z_i=3\/z_i=4\/z_i=5 by omega with rfl|rfl|rfl|rfl|rfl|rfl
  ·exact AStep.lt 24 66 0 #[] [iI 0,iI 0,iI 0,iI 0,iI 0,iI 0,iI 0] []
  ·exact AStep.rd true (.ref 0 0 2) rfl
  ·exact AStep.rd true (tLine.lst A) rfl
  ·refine AStep.ap0 (.tmp 197) (.tmp 199) 24 66 6 7 A.length (rowsOf tLine A) [iI 0,iI 0,iI 0,iI 0,iI 0,iI 0,iI 0] ?_ ?_
   ·first|omega|(simp;done)|(simp;omega)
   ·intro r hr j hj;first|(have hj0:j=0:=by omega;subst hj0;rfl)|(rcases show j=0\/j=1\/j=2\/j=3\/j=4\/j=5\/j=6 by omega with rfl|rfl|rfl|rfl|rfl|rfl|rfl<;>rfl)
  ·exact AStep.rd true (.agg [iI o.day,iI o.kind,iI o.a,iI o.b,iI o.c,iI o.d,iI o.set]) rfl
  ·exact AStep.lt 24 66 1 #[(0,.tmp 201)] [iI 0,iI 0,iI 0,iI 0,iI 0,iI 0,iI 0] [iI o.day,iI o.kind,iI o.a,iI o.b,iI o.c,iI o.d,iI o.set]
 ·refine AOps.tree (g:=(.need ((decide (A.length=A.length)&&decide (A.length+1<=4294967296))&&true) (.scal (fun _=>true) (.done .normal ⟨[uU,uU,.ref 0 0 0,.ref 1 0 0,.ref 2 0 0,uU,iI n,tint.lst hv,uU,.row 4 V_.length,iI d,iI s,iI i,uU,uU,uU,uU,.ref 5 0 0,uU,uU,uU,uU,uU,uU,uU,uU,uU,uU,uU,uU,uU,uU,uU,uU,uU,uU,uU,uU,uU,uU,uU,uU,uU,uU,uU,uU,uU,uU,uU,uU,uU,uU,uU,uU,uU,uU,uU,uU,uU,uU,uU,uU,uU,uU,uU,uU,uU,uU,uU,uU,uU,uU,uU,uU,uU,uU,uU,uU,uU,uU,uU,uU,uU,uU,uU,uU,uU,uU,uU,uU,uU,uU,uU,uU,uU,uU,uU,uU,uU,uU,uU,uU,uU,uU,uU,uU,uU,uU,uU,uU,uU,uU,uU,uU,uU,uU,uU,uU,uU,uU,uU,uU,uU,uU,uU,uU,uU,uU,uU,uU,uU,uU,uU,uU,uU,uU,uU,uU,uU,uU,uU,uU,uU,uU,uU,uU,uU,uU,uU,uU,uU,uU,uU,uU,uU,uU,uU,uU,uU,uU,uU,uU,uU,uU,uU,uU,uU,uU,uU,uU,uU,uU,uU,uU,uU,uU,uU,uU,uU,uU,uU,uU,uU,uU,uU,uU,uU,uU,uU,uU,uU,uU,uU,uU,uU,uU,uU,.nils,.ref 0 0 2,tLine.lst A,uU,.agg [iI o.day,iI o.kind,iI o.a,iI o.b,iI o.c,iI o.d,iI o.set],.list 7 1 (litC 7 1 [iI o.day,iI o.kind,iI o.a,iI o.b,iI o.c,iI o.d,iI o.set]),.row 6 (A.length+1),.ref 0 0 2,uU,uU,uU,uU,uU,uU],[.cells [tBody.lst b.bodies,tstr.lst b.heads,.row 6 (A.length+1)],.cells [tu8.lst x.deeds,tu8.lst x.words,tu8.lst x.days,.int .u8 x.many],.cells [.nils,.nils,.nils],.gone,.rows 37 1 V_.length (rowsRev (tlist tint) V_),.cells [iI o.day,iI o.kind,iI o.a,iI o.b,iI o.c,iI o.d,iI o.set],.rows 66 7 (A.length+1) (appC A.length (rowsOf tLine A) (litC 7 1 [iI o.day,iI o.kind,iI o.a,iI o.b,iI o.c,iI o.d,iI o.set]))],[]⟩)))) (by kernel_rfl) ?_
  simp only[DT.holds];repeat' (first|exact rfl|refine And.intro ?_ ?_)
  all_goals first|(simp;done)|(simp;omega)
def o40_44_7:Array Oper:=(regOf 44 (Tryz.f40.body.getD .skip)).getD #[]
@[reducible] def st40_44_7 (b:Book) (x:Past) (A:List Line) (n:Int) (hv:List Int) (d:Int) (s:Int) (i:Int) (V_:List (List Int)) (o:Line) (c:Nat->Bool):St:=⟨[uU,uU,.ref 0 0 0,.ref 1 0 0,.ref 2 0 0,uU,iI n,tint.lst hv,uU,.row 4 V_.length,iI d,iI s,iI i,uU,uU,uU,uU,.ref 5 0 0,uU,uU,uU,uU,uU,uU,uU,uU,uU,uU,uU,uU,uU,uU,uU,uU,uU,uU,uU,uU,uU,uU,uU,uU,uU,uU,uU,uU,uU,uU,uU,uU,uU,uU,uU,uU,uU,uU,uU,uU,uU,uU,uU,uU,uU,uU,uU,uU,uU,uU,uU,uU,uU,uU,uU,uU,uU,uU,uU,uU,uU,uU,uU,uU,uU,uU,uU,uU,uU,uU,uU,uU,uU,uU,uU,uU,uU,uU,uU,uU,uU,uU,uU,uU,uU,uU,uU,uU,uU,uU,uU,uU,uU,uU,uU,uU,uU,uU,uU,uU,uU,uU,uU,uU,uU,uU,uU,uU,uU,uU,uU,uU,uU,uU,uU,uU,uU,uU,uU,uU,uU,uU,uU,uU,uU,uU,uU,uU,uU,uU,uU,uU,uU,uU,uU,uU,uU,uU,uU,uU,uU,uU,uU,uU,uU,uU,uU,uU,uU,uU,uU,uU,uU,uU,uU,uU,uU,uU,uU,uU,uU,uU,uU,uU,uU,uU,uU,uU,uU,uU,uU,uU,uU,uU,uU,uU,uU,uU,uU,(bif c 0 then .nils else(uU)),(bif c 1 then .ref 0 0 2 else(uU)),(bif c 2 then tLine.lst A else(uU)),(bif c 3 then .row 7 A.length else(uU)),(bif c 4 then .agg [iI o.day,iI o.kind,iI o.a,iI o.b,iI o.c,iI o.d,iI o.set]else(uU)),(bif c 5 then .list 7 1 (litC 7 1 [iI o.day,iI o.kind,iI o.a,iI o.b,iI o.c,iI o.d,iI o.set])else(uU)),uU,uU,uU,uU,uU,uU,uU,uU],[.cells [tBody.lst b.bodies,tstr.lst b.heads,tLine.lst A],.cells [tu8.lst x.deeds,tu8.lst x.words,tu8.lst x.days,.int .u8 x.many],.cells [.nils,.nils,.nils],.gone,.rows 37 1 V_.length (rowsRev (tlist tint) V_),.cells [iI o.day,iI o.kind,iI o.a,iI o.b,iI o.c,iI o.d,iI o.set],.gone,(bif c 3 then .rows 66 7 A.length (rowsOf tLine A)else(.void))],[]⟩
def t40_44_7:Tab:=[([],[1,2,4,5]),([],[0,4,5]),([1],[0,4,5]),([0,1,2],[4,5]),([],[0,1,2,3]),([4],[0,1,2,3])]
theorem ov40_44_7(b:Book)(x:Past)(A:List Line)(n:Int)(hv:List Int)(d:Int)(s:Int)(i:Int)(V_:List (List Int))(o:Line)(h2:0+A.length+1<=4294967296):AWP Tryz.prog ⟨none,0⟩ (regionOf Tryz.f40 44) ⟨[uU,uU,.ref 0 0 0,.ref 1 0 0,.ref 2 0 0,uU,iI n,tint.lst hv,uU,.row 4 V_.length,iI d,iI s,iI i,uU,uU,uU,uU,.ref 5 0 0,uU,uU,uU,uU,uU,uU,uU,uU,uU,uU,uU,uU,uU,uU,uU,uU,uU,uU,uU,uU,uU,uU,uU,uU,uU,uU,uU,uU,uU,uU,uU,uU,uU,uU,uU,uU,uU,uU,uU,uU,uU,uU,uU,uU,uU,uU,uU,uU,uU,uU,uU,uU,uU,uU,uU,uU,uU,uU,uU,uU,uU,uU,uU,uU,uU,uU,uU,uU,uU,uU,uU,uU,uU,uU,uU,uU,uU,uU,uU,uU,uU,uU,uU,uU,uU,uU,uU,uU,uU,uU,uU,uU,uU,uU,uU,uU,uU,uU,uU,uU,uU,uU,uU,uU,uU,uU,uU,uU,uU,uU,uU,uU,uU,uU,uU,uU,uU,uU,uU,uU,uU,uU,uU,uU,uU,uU,uU,uU,uU,uU,uU,uU,uU,uU,uU,uU,uU,uU,uU,uU,uU,uU,uU,uU,uU,uU,uU,uU,uU,uU,uU,uU,uU,uU,uU,uU,uU,uU,uU,uU,uU,uU,uU,uU,uU,uU,uU,uU,uU,uU,uU,uU,uU,uU,uU,uU,uU,uU,uU,uU,uU,uU,uU,uU,uU,uU,uU,uU,uU,uU,uU,uU,uU],[.cells [tBody.lst b.bodies,tstr.lst b.heads,tLine.lst A],.cells [tu8.lst x.deeds,tu8.lst x.words,tu8.lst x.days,.int .u8 x.many],.cells [.nils,.nils,.nils],.gone,.rows 37 1 V_.length (rowsRev (tlist tint) V_),.cells [iI o.day,iI o.kind,iI o.a,iI o.b,iI o.c,iI o.d,iI o.set],.gone],[]⟩ (fun e T=>e=.normal/\T=⟨[uU,uU,.ref 0 0 0,.ref 1 0 0,.ref 2 0 0,uU,iI n,tint.lst hv,uU,.row 4 V_.length,iI d,iI s,iI i,uU,uU,uU,uU,.ref 5 0 0,uU,uU,uU,uU,uU,uU,uU,uU,uU,uU,uU,uU,uU,uU,uU,uU,uU,uU,uU,uU,uU,uU,uU,uU,uU,uU,uU,uU,uU,uU,uU,uU,uU,uU,uU,uU,uU,uU,uU,uU,uU,uU,uU,uU,uU,uU,uU,uU,uU,uU,uU,uU,uU,uU,uU,uU,uU,uU,uU,uU,uU,uU,uU,uU,uU,uU,uU,uU,uU,uU,uU,uU,uU,uU,uU,uU,uU,uU,uU,uU,uU,uU,uU,uU,uU,uU,uU,uU,uU,uU,uU,uU,uU,uU,uU,uU,uU,uU,uU,uU,uU,uU,uU,uU,uU,uU,uU,uU,uU,uU,uU,uU,uU,uU,uU,uU,uU,uU,uU,uU,uU,uU,uU,uU,uU,uU,uU,uU,uU,uU,uU,uU,uU,uU,uU,uU,uU,uU,uU,uU,uU,uU,uU,uU,uU,uU,uU,uU,uU,uU,uU,uU,uU,uU,uU,uU,uU,uU,uU,uU,uU,uU,uU,uU,uU,uU,uU,uU,uU,uU,uU,uU,uU,uU,uU,uU,uU,uU,uU,.nils,.ref 0 0 2,tLine.lst A,uU,.agg [iI o.day,iI o.kind,iI o.a,iI o.b,iI o.c,iI o.d,iI o.set],.list 7 1 (litC 7 1 [iI o.day,iI o.kind,iI o.a,iI o.b,iI o.c,iI o.d,iI o.set]),.row 7 (A.length+1),.ref 0 0 2,uU,uU,uU,uU,uU,uU],[.cells [tBody.lst b.bodies,tstr.lst b.heads,.row 7 (A.length+1)],.cells [tu8.lst x.deeds,tu8.lst x.words,tu8.lst x.days,.int .u8 x.many],.cells [.nils,.nils,.nils],.gone,.rows 37 1 V_.length (rowsRev (tlist tint) V_),.cells [iI o.day,iI o.kind,iI o.a,iI o.b,iI o.c,iI o.d,iI o.set],.gone,.rows 66 7 (A.length+1) (appC A.length (rowsOf tLine A) (litC 7 1 [iI o.day,iI o.kind,iI o.a,iI o.b,iI o.c,iI o.d,iI o.set]))],[]⟩):=by
 refine AWP.region_bits (ops:=o40_44_7) 6 1 t40_44_7 mx (st40_44_7 b x A n hv d s i V_ o) (fun z_i z_h c=> ?_) ?_
 ·rcases show z_i=0\/z_i=1\/z_i=2\/z_i=3\/z_i=4\/z_i=5 by omega with rfl|rfl|rfl|rfl|rfl|rfl
  ·exact AStep.lt 24 66 0 #[] [iI 0,iI 0,iI 0,iI 0,iI 0,iI 0,iI 0] []
  ·exact AStep.rd true (.ref 0 0 2) rfl
  ·exact AStep.rd true (tLine.lst A) rfl
  ·refine AStep.ap0 (.tmp 197) (.tmp 199) 24 66 7 7 A.length (rowsOf tLine A) [iI 0,iI 0,iI 0,iI 0,iI 0,iI 0,iI 0] ?_ ?_
   ·first|omega|(simp;done)|(simp;omega)
   ·intro r hr j hj;first|(have hj0:j=0:=by omega;subst hj0;rfl)|(rcases show j=0\/j=1\/j=2\/j=3\/j=4\/j=5\/j=6 by omega with rfl|rfl|rfl|rfl|rfl|rfl|rfl<;>rfl)
  ·exact AStep.rd true (.agg [iI o.day,iI o.kind,iI o.a,iI o.b,iI o.c,iI o.d,iI o.set]) rfl
  ·exact AStep.lt 24 66 1 #[(0,.tmp 201)] [iI 0,iI 0,iI 0,iI 0,iI 0,iI 0,iI 0] [iI o.day,iI o.kind,iI o.a,iI o.b,iI o.c,iI o.d,iI o.set]
 ·refine AOps.tree (g:=(.need ((decide (A.length=A.length)&&decide (A.length+1<=4294967296))&&true) (.scal (fun _=>true) (.done .normal ⟨[uU,uU,.ref 0 0 0,.ref 1 0 0,.ref 2 0 0,uU,iI n,tint.lst hv,uU,.row 4 V_.length,iI d,iI s,iI i,uU,uU,uU,uU,.ref 5 0 0,uU,uU,uU,uU,uU,uU,uU,uU,uU,uU,uU,uU,uU,uU,uU,uU,uU,uU,uU,uU,uU,uU,uU,uU,uU,uU,uU,uU,uU,uU,uU,uU,uU,uU,uU,uU,uU,uU,uU,uU,uU,uU,uU,uU,uU,uU,uU,uU,uU,uU,uU,uU,uU,uU,uU,uU,uU,uU,uU,uU,uU,uU,uU,uU,uU,uU,uU,uU,uU,uU,uU,uU,uU,uU,uU,uU,uU,uU,uU,uU,uU,uU,uU,uU,uU,uU,uU,uU,uU,uU,uU,uU,uU,uU,uU,uU,uU,uU,uU,uU,uU,uU,uU,uU,uU,uU,uU,uU,uU,uU,uU,uU,uU,uU,uU,uU,uU,uU,uU,uU,uU,uU,uU,uU,uU,uU,uU,uU,uU,uU,uU,uU,uU,uU,uU,uU,uU,uU,uU,uU,uU,uU,uU,uU,uU,uU,uU,uU,uU,uU,uU,uU,uU,uU,uU,uU,uU,uU,uU,uU,uU,uU,uU,uU,uU,uU,uU,uU,uU,uU,uU,uU,uU,uU,uU,uU,uU,uU,uU,.nils,.ref 0 0 2,tLine.lst A,uU,.agg [iI o.day,iI o.kind,iI o.a,iI o.b,iI o.c,iI o.d,iI o.set],.list 7 1 (litC 7 1 [iI o.day,iI o.kind,iI o.a,iI o.b,iI o.c,iI o.d,iI o.set]),.row 7 (A.length+1),.ref 0 0 2,uU,uU,uU,uU,uU,uU],[.cells [tBody.lst b.bodies,tstr.lst b.heads,.row 7 (A.length+1)],.cells [tu8.lst x.deeds,tu8.lst x.words,tu8.lst x.days,.int .u8 x.many],.cells [.nils,.nils,.nils],.gone,.rows 37 1 V_.length (rowsRev (tlist tint) V_),.cells [iI o.day,iI o.kind,iI o.a,iI o.b,iI o.c,iI o.d,iI o.set],.gone,.rows 66 7 (A.length+1) (appC A.length (rowsOf tLine A) (litC 7 1 [iI o.day,iI o.kind,iI o.a,iI o.b,iI o.c,iI o.d,iI o.set]))],[]⟩)))) (by kernel_rfl) ?_
  simp only[DT.holds];repeat' (first|exact rfl|refine And.intro ?_ ?_)
  all_goals first|(simp;done)|(simp;omega)
inductive P40
 |e
 |l0 (x0_8:Int) (a0_3:List Int)
 |l1 (x1_7:List Int) (x1_10:Int) (x1_11:Int) (x1_12:Int) (c1_0_2:List Line) (a1_4:List (List Int))
 |l2 (x1_7:List Int) (x1_10:Int) (x1_11:Int) (x1_12:Int) (c1_0_2:List Line) (a1_4:List (List Int)) (x2_18:Int) (x2_19:Int)
inductive R40
 |r0 (r0_0:List Body) (r0_1:List ByteArray) (r0_2:List Line) (r1:List (List Int))
def T40(b:Book)(x:Past):P40->Tr P40 R40
 |.e=>(.wait 6 (.own 7 3 1 (.go (.l0 0 ([])))))
 |.l0 x0_8 a0_3=>(.br (decide (x0_8<(b.bodies.length:Int))) (.need ((decide (a0_3.length=a0_3.length)&&decide (a0_3.length+1<=4294967296))&&decide (1<=1)) (.scal (fun _=>true) (.need (inR .i64 (x0_8+(1:Int))) (.telb 4 1 1 (litC 1 1 [iI x0_8]) (rowsRev tint ([x0_8])) (.go (.l0 (x0_8+(1:Int)) (x0_8::a0_3))))))) (.wait 2 (.frz 3 ((decide (a0_3.length<=a0_3.length))&&true) (.vle 7 (.list 1 a0_3.length (rowsRev tint a0_3)) (tint.lst a0_3.reverse) (.wait 9 (.telc 0 [tBody.lst b.bodies,tstr.lst b.heads,.nils] [tBody.lst b.bodies,tstr.lst b.heads,tLine.lst ([]:List Line)] (.telb 4 1 1 (litC 1 1 [tint.lst a0_3.reverse]) (rowsRev (tlist tint) ([a0_3.reverse])) (.go (.l1 a0_3.reverse 0 0 0 ([]:List Line) ([a0_3.reverse]))))))))))
 |.l1 x1_7 x1_10 x1_11 x1_12 c1_0_2 a1_4=>let c1:List V:=[uU,uU,.nil,.nil,.nil,uU,.nil,.nil,uU,.nil,.nil,.nil,.nil,uU,uU,uU,uU,.nil,uU,uU,uU,uU,uU,uU,uU,uU,uU,uU,uU,uU,uU,uU,uU,uU,uU,uU,uU,uU,uU,uU,uU,uU,uU,uU,uU,uU,uU,uU,uU,uU,uU,uU,uU,uU,uU,uU,uU,uU,uU,uU,uU,uU,uU,uU,uU,uU,uU,uU,uU,uU,uU,uU,uU,uU,uU,uU,uU,uU,uU,uU,uU,uU,uU,uU,uU,uU,uU,uU,uU,uU,uU,uU,uU,uU,uU,uU,uU,uU,uU,uU,uU,uU,uU,uU,uU,uU,uU,uU,uU,uU,uU,uU,uU,uU,uU,uU,uU,uU,uU,uU,uU,uU,uU,uU,uU,uU,uU,uU,uU,uU,uU,uU,uU,uU,uU,uU,uU,uU,uU,uU,uU,uU,uU,uU,uU,uU,uU,uU,uU,uU,uU,uU,uU,uU,uU,uU,uU,uU,uU,uU,uU,uU,uU,uU,uU,uU,uU,uU,uU,uU,uU,uU,uU,uU,uU,uU,uU,uU,uU,uU,uU,uU,uU,uU,uU,uU,uU,uU,uU,uU,uU,uU,uU,uU,uU,uU,uU,uU,uU,uU,uU,uU,uU,uU,uU,uU,uU,uU,uU,uU,uU];let c3:=dT x x1_10 x1_12;let c4:=pT b x x1_12;let c7:=c1_0_2.length+1;let c8:=qT b x x1_12;let c9:=hT b x x1_7 x1_12;let c10:=c1_0_2++ [(⟨c3,0,c4,c8,0,0,0⟩:Line)];let c11:=([iI (gT b x x1_7 x1_12)]:List V);let c12:=(decide (a1_4.length=a1_4.length)&&decide (a1_4.length+1<=4294967296))&&decide (1<=1);let c13:=sT b x x1_7 x1_12;let c15:=(0+x1_7.length)<=(0+x1_7.length);let c16:=(decide ((c4).toNat<(0+x1_7.length))&&decide (0+([iI c9]:List V).length<=1))&&underL 0 ([iI c9]:List V);let c17:=c1_0_2++ [(⟨c3,1,c4,c8,(cT b x x1_12),(eT b x x1_12),0⟩:Line)];let c18:=c1_0_2++ [(⟨c3,1,(eT b x x1_12),(cT b x x1_12),c8,c4,0⟩:Line)];let c19:=((decide (c7<=c7))&&true)&&(((decide (c7<=c7))&&true)&&true);let c20:List V:=[iI c3,iI 1,iI c4,iI c8,iI (cT b x x1_12),iI (eT b x x1_12),iI 0];let c21:List V:=[iI c3,iI 1,iI (eT b x x1_12),iI (cT b x x1_12),iI c8,iI c4,iI 0];let c22:=(b.bodies.length:Int);let c2:List V:=[uU,uU,.ref 0 0 0,.ref 1 0 0,.ref 2 0 0,uU,iI c22,tint.lst c13,uU,.row 4 a1_4.length,iI c3,iI x1_11,iI x1_12,uU,uU,uU,uU,.ref 5 0 0,uU,uU,uU,uU,uU,uU,uU,uU,uU,uU,uU,uU,uU,uU,uU,uU,uU,uU,uU,uU,uU,uU,uU,uU,uU,uU,uU,uU,uU,uU,uU,uU,uU,uU,uU,uU,uU,uU,uU,uU,uU,uU,uU,uU,uU,uU,uU,uU,uU,uU,uU,uU,uU,uU,uU,uU,uU,uU,uU,uU,uU,uU,uU,uU,uU,uU,uU,uU,uU,uU,uU,uU,uU,uU,uU,uU,uU,uU,uU,uU,uU,uU,uU,uU,uU,uU,uU,uU,uU,uU,uU,uU,uU,uU,uU,uU,uU,uU,uU,uU,uU,uU,uU,uU,uU,uU,uU,uU,uU,uU,uU,uU,uU,uU,uU,uU,uU,uU,uU,uU,uU,uU,uU,uU,uU,uU,uU,uU,uU,uU,uU,uU,uU,uU,uU,uU,uU,uU,uU,uU,uU,uU,uU,uU,uU,uU,uU,uU,uU,uU,uU,uU,uU,uU,uU,uU,uU,uU,uU,uU,uU,uU,uU,uU,uU,uU,uU,uU,uU,uU,uU,uU,uU,uU,uU,uU,uU,uU,uU,uU,uU,uU,uU,uU,uU,uU,uU,uU,uU,uU,uU,uU,uU];let c5:List V:=[uU,uU,.ref 0 0 0,.ref 1 0 0,.ref 2 0 0,uU,iI c22,tint.lst c13,uU,.row 4 a1_4.length,iI c3,iI x1_11,iI x1_12,uU,uU,uU,uU,.ref 5 0 0,uU,uU,uU,uU,uU,uU,uU,uU,uU,uU,uU,uU,uU,uU,uU,uU,uU,uU,uU,uU,uU,uU,uU,uU,uU,uU,uU,uU,uU,uU,uU,uU,uU,uU,uU,uU,uU,uU,uU,uU,uU,uU,uU,uU,uU,uU,uU,uU,uU,uU,uU,uU,uU,uU,uU,uU,uU,uU,uU,uU,uU,uU,uU,uU,uU,uU,uU,uU,uU,uU,uU,uU,uU,uU,uU,uU,uU,uU,uU,uU,uU,uU,uU,uU,uU,uU,uU,uU,uU,uU,uU,uU,uU,uU,uU,uU,uU,uU,uU,uU,uU,uU,uU,uU,uU,uU,uU,uU,uU,uU,uU,uU,uU,uU,uU,uU,uU,uU,uU,uU,uU,uU,uU,uU,uU,uU,uU,uU,uU,uU,uU,uU,uU,uU,uU,uU,uU,uU,uU,uU,uU,uU,uU,uU,uU,uU,uU,uU,uU,uU,uU,uU,uU,uU,uU,uU,uU,uU,uU,uU,uU,uU,uU,uU,uU,uU,uU,uU,uU,uU,uU,uU,uU,uU,uU,uU,uU,uU,uU,.nils,.ref 0 0 2,tLine.lst c1_0_2,uU,.agg [iI c3,iI 0,iI c4,iI c8,iI 0,iI 0,iI 0],.list 7 1 (litC 7 1 [iI c3,iI 0,iI c4,iI c8,iI 0,iI 0,iI 0]),.row 7 c7,.ref 0 0 2,uU,uU,uU,uU,uU,uU];let c6:List V:=[uU,uU,.ref 0 0 0,.ref 1 0 0,.ref 2 0 0,uU,iI c22,tint.lst x1_7,uU,.row 4 a1_4.length,iI c3,iI x1_11,iI x1_12,uU,uU,uU,uU,.ref 5 0 0,uU,uU,uU,uU,uU,uU,uU,uU,uU,uU,uU,uU,uU,uU,uU,uU,uU,uU,uU,uU,uU,uU,uU,uU,uU,uU,uU,uU,uU,uU,uU,uU,uU,uU,uU,uU,uU,uU,uU,uU,uU,uU,uU,uU,uU,uU,uU,uU,uU,uU,uU,uU,uU,uU,uU,uU,uU,uU,uU,uU,uU,uU,uU,uU,uU,uU,uU,uU,uU,uU,uU,uU,uU,uU,uU,uU,uU,uU,uU,uU,uU,uU,uU,uU,uU,uU,uU,uU,uU,uU,uU,uU,uU,uU,uU,uU,uU,uU,uU,uU,uU,uU,uU,uU,uU,uU,uU,uU,uU,uU,uU,uU,uU,uU,uU,uU,uU,uU,uU,uU,uU,uU,uU,uU,uU,uU,uU,uU,uU,uU,uU,uU,uU,uU,uU,uU,uU,uU,uU,uU,uU,uU,uU,uU,uU,uU,uU,uU,uU,uU,uU,uU,uU,uU,uU,uU,uU,uU,uU,uU,uU,uU,uU,uU,uU,uU,uU,uU,uU,uU,uU,uU,uU,uU,uU,uU,uU,uU,uU,uU,uU,uU,uU,uU,uU,uU,uU,uU,uU,uU,uU,uU,uU];let c23:=c1_0_2++ [(⟨c3,3,c4,(gT b x x1_7 x1_12),0,0,0⟩:Line)];let c24:=(2:Int)*x1_12;let c25:List V:=[iI c3,iI 3,iI c4,iI (gT b x x1_7 x1_12),iI 0,iI 0,iI 0];let c27:=(decide ((c8).toNat<(0+x1_7.length))&&decide (0+c11.length<=1))&&underL 0 c11;let c28:=rowsOf tint (x1_7.set ((c4).toNat) c9);let c29:=rowsOf tint x1_7;let c30:=c1_0_2++ [(⟨c3,4,c4,c9,0,0,0⟩:Line)];let c31:=(decide (0<=c8)&&decide (c8<((0+x1_7.length):Int)))&&decide c15;let c32:=(decide (0<=c4)&&decide (c4<((0+x1_7.length):Int)))&&decide c15;let c33:List V:=[iI c3,iI 4,iI c4,iI c9,iI 0,iI 0,iI 0];let c34:=decide (0<=c8)&&decide (c8<(x1_7.length:Int));let c35:=decide (0<=c4)&&decide (c4<(x1_7.length:Int));let c36:=(decide (0=0)&&decide (0+x1_7.length<=4294967296))&&true;let c37:=x1_12+(1:Int);let c38:=rowsRev (tlist tint) a1_4;let c26:List Blk:=[.cells [tBody.lst b.bodies,tstr.lst b.heads,tLine.lst c1_0_2],.cells [tu8.lst x.deeds,tu8.lst x.words,tu8.lst x.days,.int .u8 x.many],.cells [.nils,.nils,.nils],.gone,.rows 37 1 a1_4.length c38,.cells [iI c3,iI 0,iI c4,iI c8,iI 0,iI 0,iI 0],.gone];let c39:=rowsOf tLine c1_0_2;let c14:List Blk:=[.cells [tBody.lst b.bodies,tstr.lst b.heads,.row 7 c7],.cells [tu8.lst x.deeds,tu8.lst x.words,tu8.lst x.days,.int .u8 x.many],.cells [.nils,.nils,.nils],.gone,.rows 37 1 a1_4.length c38,.cells [iI c3,iI 0,iI c4,iI c8,iI 0,iI 0,iI 0],.gone,.rows 66 7 c7 (appC c1_0_2.length c39 (litC 7 1 [iI c3,iI 0,iI c4,iI c8,iI 0,iI 0,iI 0]))];let c40:List Blk:=[.void,.void,.void,.void,.void,.void,.void];(.need (inR .i64 x.many) (.need (decide ((9:Int)≠0)) (.br (decide (x1_12<(x.many.tmod (9:Int)))) (.br (decide (c22>(1:Int))) (.call 95 [tu8.lst x.days,iI x1_12] (iI (turnR x.days x1_12)) true true (.need (decide ((40:Int)≠0)) (.need (inR .i64 (x1_10+((turnR x.days x1_12).tmod (40:Int)))) (.need (inR .i64 c24) (.call 95 [tu8.lst x.deeds,iI c24] (iI (turnR x.deeds c24)) true true (.need (decide (c22≠0)) (.need (inR .i64 (c4+(1:Int))) (.need (inR .i64 c24) (.need (inR .i64 (c24+(1:Int))) (.call 95 [tu8.lst x.deeds,iI (c24+(1:Int))] (iI (turnR x.deeds (c24+(1:Int)))) true true (.need (inR .i64 (c22-(1:Int))) (.need (decide ((c22-(1:Int))≠0)) (.need (inR .i64 ((c4+(1:Int))+((turnR x.deeds (c24+(1:Int))).tmod (c22-(1:Int))))) (.need (decide (c22≠0)) (.need (inR .i64 c24) (.need (inR .i64 (c24+(1:Int))) (.call 95 [tu8.lst x.words,iI (c24+(1:Int))] (iI (turnR x.words (c24+(1:Int)))) true true (.need (decide (c22≠0)) (.need (inR .i64 ((cT b x x1_12)+(1:Int))) (.need (inR .i64 c24) (.need (inR .i64 (c24+(2:Int))) (.call 95 [tu8.lst x.words,iI (c24+(2:Int))] (iI (turnR x.words (c24+(2:Int)))) true true (.need (inR .i64 (c22-(1:Int))) (.need (decide ((c22-(1:Int))≠0)) (.need (inR .i64 (((cT b x x1_12)+(1:Int))+((turnR x.words (c24+(2:Int))).tmod (c22-(1:Int))))) (.need (decide (c22≠0)) (.need (inR .i64 c24) (.call 95 [tu8.lst x.words,iI c24] (iI (turnR x.words c24)) true true (.need (decide ((5:Int)≠0)) (.br ((kT x x1_12)==(1:Int)) (.need (decide ((2:Int)≠0)) (.br (((cT b x x1_12).tmod (2:Int))==(1:Int)) (.br (decide ((1:Int)<=(2:Int))) (.need c36 (.scal (fun r=>(List.range 1).all fun j=>(c29 r j).scalar) (.telb 6 1 (0+x1_7.length) (appC 0 (litC 1 0 []) c29) c29 (.need c34 (.need c32 (.need c16 (.telb 6 1 (0+x1_7.length) (fun r' j=>if r'=(c4).toNat/\0<=j/\j<0+([iI c9]:List V).length then([iI c9]:List V).getD (j-0) uU else c29 r' j) c28 (.need c35 (.need c31 (.need c27 (.telb 6 1 (0+x1_7.length) (fun r' j=>if r'=(c8).toNat/\0<=j/\j<0+c11.length then c11.getD (j-0) uU else c28 r' j) (rowsOf tint c13) (.wait 2 (.drop ⟨c1,c40,[]⟩ (.frz 6 ((decide c15)&&true) (.vle 7 (.list 1 (0+x1_7.length) (rowsOf tint c13)) (tint.lst c13) (.over (regionOf Tryz.f40 44) ⟨c2,[.cells [tBody.lst b.bodies,tstr.lst b.heads,tLine.lst c1_0_2],.cells [tu8.lst x.deeds,tu8.lst x.words,tu8.lst x.days,.int .u8 x.many],.cells [.nils,.nils,.nils],.gone,.rows 37 1 a1_4.length c38,.cells c21,.gone],[]⟩ .normal ⟨[uU,uU,.ref 0 0 0,.ref 1 0 0,.ref 2 0 0,uU,iI c22,tint.lst c13,uU,.row 4 a1_4.length,iI c3,iI x1_11,iI x1_12,uU,uU,uU,uU,.ref 5 0 0,uU,uU,uU,uU,uU,uU,uU,uU,uU,uU,uU,uU,uU,uU,uU,uU,uU,uU,uU,uU,uU,uU,uU,uU,uU,uU,uU,uU,uU,uU,uU,uU,uU,uU,uU,uU,uU,uU,uU,uU,uU,uU,uU,uU,uU,uU,uU,uU,uU,uU,uU,uU,uU,uU,uU,uU,uU,uU,uU,uU,uU,uU,uU,uU,uU,uU,uU,uU,uU,uU,uU,uU,uU,uU,uU,uU,uU,uU,uU,uU,uU,uU,uU,uU,uU,uU,uU,uU,uU,uU,uU,uU,uU,uU,uU,uU,uU,uU,uU,uU,uU,uU,uU,uU,uU,uU,uU,uU,uU,uU,uU,uU,uU,uU,uU,uU,uU,uU,uU,uU,uU,uU,uU,uU,uU,uU,uU,uU,uU,uU,uU,uU,uU,uU,uU,uU,uU,uU,uU,uU,uU,uU,uU,uU,uU,uU,uU,uU,uU,uU,uU,uU,uU,uU,uU,uU,uU,uU,uU,uU,uU,uU,uU,uU,uU,uU,uU,uU,uU,uU,uU,uU,uU,uU,uU,uU,uU,uU,uU,.nils,.ref 0 0 2,tLine.lst c1_0_2,uU,.agg c21,.list 7 1 (litC 7 1 c21),.row 7 c7,.ref 0 0 2,uU,uU,uU,uU,uU,uU],[.cells [tBody.lst b.bodies,tstr.lst b.heads,.row 7 c7],.cells [tu8.lst x.deeds,tu8.lst x.words,tu8.lst x.days,.int .u8 x.many],.cells [.nils,.nils,.nils],.gone,.rows 37 1 a1_4.length c38,.cells c21,.gone,.rows 66 7 c7 (appC c1_0_2.length c39 (litC 7 1 c21))],[]⟩ true (.telb 7 7 c7 (appC c1_0_2.length c39 (litC 7 1 c21)) (rowsOf tLine c18) (.frz 7 c19 (.vle 203 (.list 7 c7 (rowsOf tLine c18)) (tLine.lst c18) (.telc 0 [tBody.lst b.bodies,tstr.lst b.heads,.list 7 c7 (rowsOf tLine c18)] [tBody.lst b.bodies,tstr.lst b.heads,tLine.lst c18] (.need c12 (.scal (fun _=>true) (.need (inR .i64 c37) (.telb 8 1 1 (litC 1 1 [tint.lst c13]) (rowsRev (tlist tint) ([c13])) (.go (.l1 c13 c3 x1_11 c37 c18 (c13::a1_4))))))))))))))))))))))))))) (.wait 2 .never)) (.br (decide ((1:Int)<=(2:Int))) (.need c36 (.scal (fun r=>(List.range 1).all fun j=>(c29 r j).scalar) (.telb 6 1 (0+x1_7.length) (appC 0 (litC 1 0 []) c29) c29 (.need c34 (.need c32 (.need c16 (.telb 6 1 (0+x1_7.length) (fun r' j=>if r'=(c4).toNat/\0<=j/\j<0+([iI c9]:List V).length then([iI c9]:List V).getD (j-0) uU else c29 r' j) c28 (.need c35 (.need c31 (.need c27 (.telb 6 1 (0+x1_7.length) (fun r' j=>if r'=(c8).toNat/\0<=j/\j<0+c11.length then c11.getD (j-0) uU else c28 r' j) (rowsOf tint c13) (.wait 2 (.drop ⟨c1,c40,[]⟩ (.frz 6 ((decide c15)&&true) (.vle 7 (.list 1 (0+x1_7.length) (rowsOf tint c13)) (tint.lst c13) (.over (regionOf Tryz.f40 44) ⟨c2,[.cells [tBody.lst b.bodies,tstr.lst b.heads,tLine.lst c1_0_2],.cells [tu8.lst x.deeds,tu8.lst x.words,tu8.lst x.days,.int .u8 x.many],.cells [.nils,.nils,.nils],.gone,.rows 37 1 a1_4.length c38,.cells c20,.gone],[]⟩ .normal ⟨[uU,uU,.ref 0 0 0,.ref 1 0 0,.ref 2 0 0,uU,iI c22,tint.lst c13,uU,.row 4 a1_4.length,iI c3,iI x1_11,iI x1_12,uU,uU,uU,uU,.ref 5 0 0,uU,uU,uU,uU,uU,uU,uU,uU,uU,uU,uU,uU,uU,uU,uU,uU,uU,uU,uU,uU,uU,uU,uU,uU,uU,uU,uU,uU,uU,uU,uU,uU,uU,uU,uU,uU,uU,uU,uU,uU,uU,uU,uU,uU,uU,uU,uU,uU,uU,uU,uU,uU,uU,uU,uU,uU,uU,uU,uU,uU,uU,uU,uU,uU,uU,uU,uU,uU,uU,uU,uU,uU,uU,uU,uU,uU,uU,uU,uU,uU,uU,uU,uU,uU,uU,uU,uU,uU,uU,uU,uU,uU,uU,uU,uU,uU,uU,uU,uU,uU,uU,uU,uU,uU,uU,uU,uU,uU,uU,uU,uU,uU,uU,uU,uU,uU,uU,uU,uU,uU,uU,uU,uU,uU,uU,uU,uU,uU,uU,uU,uU,uU,uU,uU,uU,uU,uU,uU,uU,uU,uU,uU,uU,uU,uU,uU,uU,uU,uU,uU,uU,uU,uU,uU,uU,uU,uU,uU,uU,uU,uU,uU,uU,uU,uU,uU,uU,uU,uU,uU,uU,uU,uU,uU,uU,uU,uU,uU,uU,.nils,.ref 0 0 2,tLine.lst c1_0_2,uU,.agg c20,.list 7 1 (litC 7 1 c20),.row 7 c7,.ref 0 0 2,uU,uU,uU,uU,uU,uU],[.cells [tBody.lst b.bodies,tstr.lst b.heads,.row 7 c7],.cells [tu8.lst x.deeds,tu8.lst x.words,tu8.lst x.days,.int .u8 x.many],.cells [.nils,.nils,.nils],.gone,.rows 37 1 a1_4.length c38,.cells c20,.gone,.rows 66 7 c7 (appC c1_0_2.length c39 (litC 7 1 c20))],[]⟩ true (.telb 7 7 c7 (appC c1_0_2.length c39 (litC 7 1 c20)) (rowsOf tLine c17) (.frz 7 c19 (.vle 203 (.list 7 c7 (rowsOf tLine c17)) (tLine.lst c17) (.telc 0 [tBody.lst b.bodies,tstr.lst b.heads,.list 7 c7 (rowsOf tLine c17)] [tBody.lst b.bodies,tstr.lst b.heads,tLine.lst c17] (.need c12 (.scal (fun _=>true) (.need (inR .i64 c37) (.telb 8 1 1 (litC 1 1 [tint.lst c13]) (rowsRev (tlist tint) ([c13])) (.go (.l1 c13 c3 x1_11 c37 c17 (c13::a1_4))))))))))))))))))))))))))) (.wait 2 .never)))) (.br ((kT x x1_12)==(2:Int)) (.br (decide (x1_11<(2:Int))) (.need (inR .i64 (x1_11+(1:Int))) (.need (inR .i64 (c22-(1:Int))) (.go (.l2 x1_7 x1_10 x1_11 x1_12 c1_0_2 a1_4 0 (c22-(1:Int)))))) (.br (decide ((0:Int)<=(2:Int))) (.need c36 (.scal (fun r=>(List.range 1).all fun j=>(c29 r j).scalar) (.telb 6 1 (0+x1_7.length) (appC 0 (litC 1 0 []) c29) c29 (.need c34 (.need c32 (.need c16 (.telb 6 1 (0+x1_7.length) (fun r' j=>if r'=(c4).toNat/\0<=j/\j<0+([iI c9]:List V).length then([iI c9]:List V).getD (j-0) uU else c29 r' j) c28 (.need c35 (.need c31 (.need c27 (.telb 6 1 (0+x1_7.length) (fun r' j=>if r'=(c8).toNat/\0<=j/\j<0+c11.length then c11.getD (j-0) uU else c28 r' j) (rowsOf tint c13) (.wait 2 (.drop ⟨c1,c40,[]⟩ (.frz 6 ((decide c15)&&true) (.vle 7 (.list 1 (0+x1_7.length) (rowsOf tint c13)) (tint.lst c13) (.over (regionOf Tryz.f40 44) ⟨c2,c26,[]⟩ .normal ⟨c5,c14,[]⟩ true (.telb 7 7 c7 (appC c1_0_2.length c39 (litC 7 1 [iI c3,iI 0,iI c4,iI c8,iI 0,iI 0,iI 0])) (rowsOf tLine c10) (.frz 7 c19 (.vle 203 (.list 7 c7 (rowsOf tLine c10)) (tLine.lst c10) (.telc 0 [tBody.lst b.bodies,tstr.lst b.heads,.list 7 c7 (rowsOf tLine c10)] [tBody.lst b.bodies,tstr.lst b.heads,tLine.lst c10] (.need c12 (.scal (fun _=>true) (.need (inR .i64 c37) (.telb 8 1 1 (litC 1 1 [tint.lst c13]) (rowsRev (tlist tint) ([c13])) (.go (.l1 c13 c3 x1_11 c37 c10 (c13::a1_4))))))))))))))))))))))))))) (.wait 2 .never))) (.br ((kT x x1_12)==(3:Int)) (.need c35 (.br (decide ((3:Int)<=(2:Int))) (.wait 1 .never) (.wait 2 (.drop ⟨c1,[.void,.void,.void,.void,.void,.void],[]⟩ (.over (regionOf Tryz.f40 44) ⟨c6,[.cells [tBody.lst b.bodies,tstr.lst b.heads,tLine.lst c1_0_2],.cells [tu8.lst x.deeds,tu8.lst x.words,tu8.lst x.days,.int .u8 x.many],.cells [.nils,.nils,.nils],.gone,.rows 37 1 a1_4.length c38,.cells c25],[]⟩ .normal ⟨[uU,uU,.ref 0 0 0,.ref 1 0 0,.ref 2 0 0,uU,iI c22,tint.lst x1_7,uU,.row 4 a1_4.length,iI c3,iI x1_11,iI x1_12,uU,uU,uU,uU,.ref 5 0 0,uU,uU,uU,uU,uU,uU,uU,uU,uU,uU,uU,uU,uU,uU,uU,uU,uU,uU,uU,uU,uU,uU,uU,uU,uU,uU,uU,uU,uU,uU,uU,uU,uU,uU,uU,uU,uU,uU,uU,uU,uU,uU,uU,uU,uU,uU,uU,uU,uU,uU,uU,uU,uU,uU,uU,uU,uU,uU,uU,uU,uU,uU,uU,uU,uU,uU,uU,uU,uU,uU,uU,uU,uU,uU,uU,uU,uU,uU,uU,uU,uU,uU,uU,uU,uU,uU,uU,uU,uU,uU,uU,uU,uU,uU,uU,uU,uU,uU,uU,uU,uU,uU,uU,uU,uU,uU,uU,uU,uU,uU,uU,uU,uU,uU,uU,uU,uU,uU,uU,uU,uU,uU,uU,uU,uU,uU,uU,uU,uU,uU,uU,uU,uU,uU,uU,uU,uU,uU,uU,uU,uU,uU,uU,uU,uU,uU,uU,uU,uU,uU,uU,uU,uU,uU,uU,uU,uU,uU,uU,uU,uU,uU,uU,uU,uU,uU,uU,uU,uU,uU,uU,uU,uU,uU,uU,uU,uU,uU,uU,.nils,.ref 0 0 2,tLine.lst c1_0_2,uU,.agg c25,.list 7 1 (litC 7 1 c25),.row 6 c7,.ref 0 0 2,uU,uU,uU,uU,uU,uU],[.cells [tBody.lst b.bodies,tstr.lst b.heads,.row 6 c7],.cells [tu8.lst x.deeds,tu8.lst x.words,tu8.lst x.days,.int .u8 x.many],.cells [.nils,.nils,.nils],.gone,.rows 37 1 a1_4.length c38,.cells c25,.rows 66 7 c7 (appC c1_0_2.length c39 (litC 7 1 c25))],[]⟩ true (.telb 6 7 c7 (appC c1_0_2.length c39 (litC 7 1 c25)) (rowsOf tLine c23) (.frz 6 c19 (.vle 203 (.list 7 c7 (rowsOf tLine c23)) (tLine.lst c23) (.telc 0 [tBody.lst b.bodies,tstr.lst b.heads,.list 7 c7 (rowsOf tLine c23)] [tBody.lst b.bodies,tstr.lst b.heads,tLine.lst c23] (.need c12 (.scal (fun _=>true) (.need (inR .i64 c37) (.telb 7 1 1 (litC 1 1 [tint.lst x1_7]) (rowsRev (tlist tint) ([x1_7])) (.go (.l1 x1_7 c3 x1_11 c37 c23 (x1_7::a1_4)))))))))))))))) (.br ((kT x x1_12)==(4:Int)) (.need c34 (.br (decide ((4:Int)<=(2:Int))) (.wait 1 .never) (.wait 2 (.drop ⟨c1,[.void,.void,.void,.void,.void,.void],[]⟩ (.over (regionOf Tryz.f40 44) ⟨c6,[.cells [tBody.lst b.bodies,tstr.lst b.heads,tLine.lst c1_0_2],.cells [tu8.lst x.deeds,tu8.lst x.words,tu8.lst x.days,.int .u8 x.many],.cells [.nils,.nils,.nils],.gone,.rows 37 1 a1_4.length c38,.cells c33],[]⟩ .normal ⟨[uU,uU,.ref 0 0 0,.ref 1 0 0,.ref 2 0 0,uU,iI c22,tint.lst x1_7,uU,.row 4 a1_4.length,iI c3,iI x1_11,iI x1_12,uU,uU,uU,uU,.ref 5 0 0,uU,uU,uU,uU,uU,uU,uU,uU,uU,uU,uU,uU,uU,uU,uU,uU,uU,uU,uU,uU,uU,uU,uU,uU,uU,uU,uU,uU,uU,uU,uU,uU,uU,uU,uU,uU,uU,uU,uU,uU,uU,uU,uU,uU,uU,uU,uU,uU,uU,uU,uU,uU,uU,uU,uU,uU,uU,uU,uU,uU,uU,uU,uU,uU,uU,uU,uU,uU,uU,uU,uU,uU,uU,uU,uU,uU,uU,uU,uU,uU,uU,uU,uU,uU,uU,uU,uU,uU,uU,uU,uU,uU,uU,uU,uU,uU,uU,uU,uU,uU,uU,uU,uU,uU,uU,uU,uU,uU,uU,uU,uU,uU,uU,uU,uU,uU,uU,uU,uU,uU,uU,uU,uU,uU,uU,uU,uU,uU,uU,uU,uU,uU,uU,uU,uU,uU,uU,uU,uU,uU,uU,uU,uU,uU,uU,uU,uU,uU,uU,uU,uU,uU,uU,uU,uU,uU,uU,uU,uU,uU,uU,uU,uU,uU,uU,uU,uU,uU,uU,uU,uU,uU,uU,uU,uU,uU,uU,uU,uU,.nils,.ref 0 0 2,tLine.lst c1_0_2,uU,.agg c33,.list 7 1 (litC 7 1 c33),.row 6 c7,.ref 0 0 2,uU,uU,uU,uU,uU,uU],[.cells [tBody.lst b.bodies,tstr.lst b.heads,.row 6 c7],.cells [tu8.lst x.deeds,tu8.lst x.words,tu8.lst x.days,.int .u8 x.many],.cells [.nils,.nils,.nils],.gone,.rows 37 1 a1_4.length c38,.cells c33,.rows 66 7 c7 (appC c1_0_2.length c39 (litC 7 1 c33))],[]⟩ true (.telb 6 7 c7 (appC c1_0_2.length c39 (litC 7 1 c33)) (rowsOf tLine c30) (.frz 6 c19 (.vle 203 (.list 7 c7 (rowsOf tLine c30)) (tLine.lst c30) (.telc 0 [tBody.lst b.bodies,tstr.lst b.heads,.list 7 c7 (rowsOf tLine c30)] [tBody.lst b.bodies,tstr.lst b.heads,tLine.lst c30] (.need c12 (.scal (fun _=>true) (.need (inR .i64 c37) (.telb 7 1 1 (litC 1 1 [tint.lst x1_7]) (rowsRev (tlist tint) ([x1_7])) (.go (.l1 x1_7 c3 x1_11 c37 c30 (x1_7::a1_4)))))))))))))))) (.br (decide ((0:Int)<=(2:Int))) (.need c36 (.scal (fun r=>(List.range 1).all fun j=>(c29 r j).scalar) (.telb 6 1 (0+x1_7.length) (appC 0 (litC 1 0 []) c29) c29 (.need c34 (.need c32 (.need c16 (.telb 6 1 (0+x1_7.length) (fun r' j=>if r'=(c4).toNat/\0<=j/\j<0+([iI c9]:List V).length then([iI c9]:List V).getD (j-0) uU else c29 r' j) c28 (.need c35 (.need c31 (.need c27 (.telb 6 1 (0+x1_7.length) (fun r' j=>if r'=(c8).toNat/\0<=j/\j<0+c11.length then c11.getD (j-0) uU else c28 r' j) (rowsOf tint c13) (.wait 2 (.drop ⟨c1,c40,[]⟩ (.frz 6 ((decide c15)&&true) (.vle 7 (.list 1 (0+x1_7.length) (rowsOf tint c13)) (tint.lst c13) (.over (regionOf Tryz.f40 44) ⟨c2,c26,[]⟩ .normal ⟨c5,c14,[]⟩ true (.telb 7 7 c7 (appC c1_0_2.length c39 (litC 7 1 [iI c3,iI 0,iI c4,iI c8,iI 0,iI 0,iI 0])) (rowsOf tLine c10) (.frz 7 c19 (.vle 203 (.list 7 c7 (rowsOf tLine c10)) (tLine.lst c10) (.telc 0 [tBody.lst b.bodies,tstr.lst b.heads,.list 7 c7 (rowsOf tLine c10)] [tBody.lst b.bodies,tstr.lst b.heads,tLine.lst c10] (.need c12 (.scal (fun _=>true) (.need (inR .i64 c37) (.telb 8 1 1 (litC 1 1 [tint.lst c13]) (rowsRev (tlist tint) ([c13])) (.go (.l1 c13 c3 x1_11 c37 c10 (c13::a1_4))))))))))))))))))))))))))) (.wait 2 .never))))))))))))))))))))))))))))))))))) (.out (.r0 b.bodies b.heads c1_0_2 a1_4))) (.lit false (.out (.r0 b.bodies b.heads c1_0_2 a1_4))))))
 |.l2 x1_7 x1_10 x1_11 x1_12 c1_0_2 a1_4 x2_18 x2_19=>let c1:Tr P40 R40:=.need (inR .i64 (((2:Int)*x2_18)+(1:Int))) (.need (inR .i64 (x2_19-(1:Int))) (.go (.l2 x1_7 x1_10 x1_11 x1_12 c1_0_2 a1_4 (((2:Int)*x2_18)+(1:Int)) (x2_19-(1:Int)))));let c4:=c1_0_2.length+1;let c5:=sT b x x1_7 x1_12;let c6:=([iI (hT b x x1_7 x1_12)]:List V);let c7:=([iI (gT b x x1_7 x1_12)]:List V);let c8:=pT b x x1_12;let c9:=(0+x1_7.length)<=(0+x1_7.length);let c10:=qT b x x1_12;let c12:=rowsOf tint (x1_7.set ((c8).toNat) (hT b x x1_7 x1_12));let c14:=rowsOf tint x1_7;let c15:=x1_11+(1:Int);let c17:=dT x x1_10 x1_12;let c2:List V:=[iI c17,iI 2,iI 0,iI 0,iI 0,iI 0,iI x2_18];let c3:=(⟨c17,2,0,0,0,0,x2_18⟩:Line);let c11:=c1_0_2++ [c3];let c13:=appC c1_0_2.length (rowsOf tLine c1_0_2) (litC 7 1 c2);let c16:=rowsOf tLine c11;let c18:=(decide (c4<=c4))&&true;let c19:=rowsRev (tlist tint) a1_4;(.br (decide (x2_19≥(0:Int))) (.need (inR .i64 ((2:Int)*x2_18)) (.br (x2_19==c8) (.lit true (.lit true c1)) (.br (x2_19==c10) (.lit true c1) (.br (x2_19==(cT b x x1_12)) c1 (.need (inR .i64 (x2_19-(1:Int))) (.go (.l2 x1_7 x1_10 x1_11 x1_12 c1_0_2 a1_4 ((2:Int)*x2_18) (x2_19-(1:Int))))))))) (.br (decide ((2:Int)<=(2:Int))) (.need ((decide (0=0)&&decide (0+x1_7.length<=4294967296))&&true) (.scal (fun r=>(List.range 1).all fun j=>(c14 r j).scalar) (.telb 6 1 (0+x1_7.length) (appC 0 (litC 1 0 []) c14) c14 (.need (decide (0<=c10)&&decide (c10<(x1_7.length:Int))) (.need ((decide (0<=c8)&&decide (c8<((0+x1_7.length):Int)))&&decide c9) (.need ((decide ((c8).toNat<(0+x1_7.length))&&decide (0+c6.length<=1))&&underL 0 c6) (.telb 6 1 (0+x1_7.length) (fun r' j=>if r'=(c8).toNat/\0<=j/\j<0+c6.length then c6.getD (j-0) uU else c14 r' j) c12 (.need (decide (0<=c8)&&decide (c8<(x1_7.length:Int))) (.need ((decide (0<=c10)&&decide (c10<((0+x1_7.length):Int)))&&decide c9) (.need ((decide ((c10).toNat<(0+x1_7.length))&&decide (0+c7.length<=1))&&underL 0 c7) (.telb 6 1 (0+x1_7.length) (fun r' j=>if r'=(c10).toNat/\0<=j/\j<0+c7.length then c7.getD (j-0) uU else c12 r' j) (rowsOf tint c5) (.wait 2 (.drop ⟨[uU,uU,.nil,.nil,.nil,uU,.nil,.nil,uU,.nil,.nil,.nil,.nil,uU,uU,uU,uU,.nil,uU,uU,uU,uU,uU,uU,uU,uU,uU,uU,uU,uU,uU,uU,uU,uU,uU,uU,uU,uU,uU,uU,uU,uU,uU,uU,uU,uU,uU,uU,uU,uU,uU,uU,uU,uU,uU,uU,uU,uU,uU,uU,uU,uU,uU,uU,uU,uU,uU,uU,uU,uU,uU,uU,uU,uU,uU,uU,uU,uU,uU,uU,uU,uU,uU,uU,uU,uU,uU,uU,uU,uU,uU,uU,uU,uU,uU,uU,uU,uU,uU,uU,uU,uU,uU,uU,uU,uU,uU,uU,uU,uU,uU,uU,uU,uU,uU,uU,uU,uU,uU,uU,uU,uU,uU,uU,uU,uU,uU,uU,uU,uU,uU,uU,uU,uU,uU,uU,uU,uU,uU,uU,uU,uU,uU,uU,uU,uU,uU,uU,uU,uU,uU,uU,uU,uU,uU,uU,uU,uU,uU,uU,uU,uU,uU,uU,uU,uU,uU,uU,uU,uU,uU,uU,uU,uU,uU,uU,uU,uU,uU,uU,uU,uU,uU,uU,uU,uU,uU,uU,uU,uU,uU,uU,uU,uU,uU,uU,uU,uU,uU,uU,uU,uU,uU,uU,uU,uU,uU,uU,uU,uU,uU],[.void,.void,.void,.void,.void,.void,.void],[]⟩ (.frz 6 ((decide c9)&&true) (.vle 7 (.list 1 (0+x1_7.length) (rowsOf tint c5)) (tint.lst c5) (.over (regionOf Tryz.f40 44) ⟨[uU,uU,.ref 0 0 0,.ref 1 0 0,.ref 2 0 0,uU,iI (b.bodies.length:Int),tint.lst c5,uU,.row 4 a1_4.length,iI c17,iI c15,iI x1_12,uU,uU,uU,uU,.ref 5 0 0,uU,uU,uU,uU,uU,uU,uU,uU,uU,uU,uU,uU,uU,uU,uU,uU,uU,uU,uU,uU,uU,uU,uU,uU,uU,uU,uU,uU,uU,uU,uU,uU,uU,uU,uU,uU,uU,uU,uU,uU,uU,uU,uU,uU,uU,uU,uU,uU,uU,uU,uU,uU,uU,uU,uU,uU,uU,uU,uU,uU,uU,uU,uU,uU,uU,uU,uU,uU,uU,uU,uU,uU,uU,uU,uU,uU,uU,uU,uU,uU,uU,uU,uU,uU,uU,uU,uU,uU,uU,uU,uU,uU,uU,uU,uU,uU,uU,uU,uU,uU,uU,uU,uU,uU,uU,uU,uU,uU,uU,uU,uU,uU,uU,uU,uU,uU,uU,uU,uU,uU,uU,uU,uU,uU,uU,uU,uU,uU,uU,uU,uU,uU,uU,uU,uU,uU,uU,uU,uU,uU,uU,uU,uU,uU,uU,uU,uU,uU,uU,uU,uU,uU,uU,uU,uU,uU,uU,uU,uU,uU,uU,uU,uU,uU,uU,uU,uU,uU,uU,uU,uU,uU,uU,uU,uU,uU,uU,uU,uU,uU,uU,uU,uU,uU,uU,uU,uU,uU,uU,uU,uU,uU,uU],[.cells [tBody.lst b.bodies,tstr.lst b.heads,tLine.lst c1_0_2],.cells [tu8.lst x.deeds,tu8.lst x.words,tu8.lst x.days,.int .u8 x.many],.cells [.nils,.nils,.nils],.gone,.rows 37 1 a1_4.length c19,.cells c2,.gone],[]⟩ .normal ⟨[uU,uU,.ref 0 0 0,.ref 1 0 0,.ref 2 0 0,uU,iI (b.bodies.length:Int),tint.lst c5,uU,.row 4 a1_4.length,iI c17,iI c15,iI x1_12,uU,uU,uU,uU,.ref 5 0 0,uU,uU,uU,uU,uU,uU,uU,uU,uU,uU,uU,uU,uU,uU,uU,uU,uU,uU,uU,uU,uU,uU,uU,uU,uU,uU,uU,uU,uU,uU,uU,uU,uU,uU,uU,uU,uU,uU,uU,uU,uU,uU,uU,uU,uU,uU,uU,uU,uU,uU,uU,uU,uU,uU,uU,uU,uU,uU,uU,uU,uU,uU,uU,uU,uU,uU,uU,uU,uU,uU,uU,uU,uU,uU,uU,uU,uU,uU,uU,uU,uU,uU,uU,uU,uU,uU,uU,uU,uU,uU,uU,uU,uU,uU,uU,uU,uU,uU,uU,uU,uU,uU,uU,uU,uU,uU,uU,uU,uU,uU,uU,uU,uU,uU,uU,uU,uU,uU,uU,uU,uU,uU,uU,uU,uU,uU,uU,uU,uU,uU,uU,uU,uU,uU,uU,uU,uU,uU,uU,uU,uU,uU,uU,uU,uU,uU,uU,uU,uU,uU,uU,uU,uU,uU,uU,uU,uU,uU,uU,uU,uU,uU,uU,uU,uU,uU,uU,uU,uU,uU,uU,uU,uU,uU,uU,uU,uU,uU,uU,.nils,.ref 0 0 2,tLine.lst c1_0_2,uU,.agg c2,.list 7 1 (litC 7 1 c2),.row 7 c4,.ref 0 0 2,uU,uU,uU,uU,uU,uU],[.cells [tBody.lst b.bodies,tstr.lst b.heads,.row 7 c4],.cells [tu8.lst x.deeds,tu8.lst x.words,tu8.lst x.days,.int .u8 x.many],.cells [.nils,.nils,.nils],.gone,.rows 37 1 a1_4.length c19,.cells c2,.gone,.rows 66 7 c4 c13],[]⟩ true (.telb 7 7 c4 c13 c16 (.frz 7 (c18&&(c18&&true)) (.vle 203 (.list 7 c4 c16) (tLine.lst c11) (.telc 0 [tBody.lst b.bodies,tstr.lst b.heads,.list 7 c4 c16] [tBody.lst b.bodies,tstr.lst b.heads,tLine.lst c11] (.need ((decide (a1_4.length=a1_4.length)&&decide (a1_4.length+1<=4294967296))&&decide (1<=1)) (.scal (fun _=>true) (.need (inR .i64 (x1_12+(1:Int))) (.telb 8 1 1 (litC 1 1 [tint.lst c5]) (rowsRev (tlist tint) ([c5])) (.go (.l1 c5 c17 c15 (x1_12+(1:Int)) c11 (c5::a1_4))))))))))))))))))))))))))) (.wait 2 .never)))
noncomputable def g40(b:Book)(x:Past):P40->List Item × St
 |.e=>bd Tryz.f40 [.agg (tBook.cells b),.agg [tu8.lst x.deeds,tu8.lst x.words,tu8.lst x.days,.int .u8 x.many]] 209
 |.l0 x0_8 a0_3=>(cutOf Tryz.f40 0,⟨mk 211 [(2,.ref 0 0 0),(3,.ref 1 0 0),(4,.ref 2 0 0),(6,iI (b.bodies.length:Int)),(7,.row 3 a0_3.length),(8,iI x0_8)],[.cells (cC b),.cells [tu8.lst x.deeds,tu8.lst x.words,tu8.lst x.days,.int .u8 x.many],.cells [.nils,.nils,.nils],.rows 3 1 a0_3.length (rowsRev tint a0_3)],[]⟩)
 |.l1 x1_7 x1_10 x1_11 x1_12 c1_0_2 a1_4=>(cutOf Tryz.f40 1,⟨mk 211 [(2,.ref 0 0 0),(3,.ref 1 0 0),(4,.ref 2 0 0),(6,iI (b.bodies.length:Int)),(7,tint.lst x1_7),(9,.row 4 a1_4.length),(10,iI x1_10),(11,iI x1_11),(12,iI x1_12)],[.cells [tBody.lst b.bodies,tstr.lst b.heads,tLine.lst c1_0_2],.cells [tu8.lst x.deeds,tu8.lst x.words,tu8.lst x.days,.int .u8 x.many],.cells [.nils,.nils,.nils],.gone,.rows 37 1 a1_4.length (rowsRev (tlist tint) a1_4)],[]⟩)
 |.l2 x1_7 x1_10 x1_11 x1_12 c1_0_2 a1_4 x2_18 x2_19=>(cutOf Tryz.f40 2,⟨mk 211 [(2,.ref 0 0 0),(3,.ref 1 0 0),(4,.ref 2 0 0),(6,iI (b.bodies.length:Int)),(7,tint.lst x1_7),(9,.row 4 a1_4.length),(10,iI (dT x x1_10 x1_12)),(11,iI (x1_11+(1:Int))),(12,iI x1_12),(13,iI (pT b x x1_12)),(14,iI (qT b x x1_12)),(15,iI (cT b x x1_12)),(17,.ref 5 0 0),(18,iI x2_18),(19,iI x2_19)],[.cells [tBody.lst b.bodies,tstr.lst b.heads,tLine.lst c1_0_2],.cells [tu8.lst x.deeds,tu8.lst x.words,tu8.lst x.days,.int .u8 x.many],.cells [.nils,.nils,.nils],.gone,.rows 37 1 a1_4.length (rowsRev (tlist tint) a1_4),.cells [iI (dT x x1_10 x1_12),iI 0,iI (pT b x x1_12),iI (qT b x x1_12),iI 0,iI 0,iI 0]],[]⟩)
def n40:R40->Exit × St
 |.r0 r0_0 r0_1 r0_2 r1=>(.ret,⟨mk 211 [(4,.ref 2 0 0),(5,.row 4 r1.length)],[.gone,.gone,.cells [tBody.lst r0_0,tstr.lst r0_1,tLine.lst r0_2],.gone,.rows 37 1 r1.length (rowsRev (tlist tint) r1)],[]⟩)
def v40:R40->V
 |.r0 r0_0 r0_1 r0_2 r1=>.tuple [.agg [tBody.lst r0_0,tstr.lst r0_1,tLine.lst r0_2],(tlist tint).lst r1.reverse]
theorem s40(b:Book)(x:Past):Sm 0 (g40 b x) (T40 b x) (n40)
 |.e=>⟨400,by kernel_rfl⟩
 |.l0 _ _=>⟨400,by kernel_rfl⟩
 |.l1 _ _ _ _ _ _=>⟨400,by kernel_rfl⟩
 |.l2 _ _ _ _ _ _ _ _=>⟨400,by kernel_rfl⟩
theorem q40:∀r,bodyQ Tryz.prog Tryz.f40 (·=v40 r) (n40 r).1 (n40 r).2
 |.r0 r0_0 r0_1 r0_2 r1=>⟨.inr rfl,by simp[n40],(.tuple [.agg [tBody.lst r0_0,tstr.lst r0_1,tLine.lst r0_2],.row 4 r1.length]),(.tuple [.agg [tBody.lst r0_0,tstr.lst r0_1,tLine.lst r0_2],(tlist tint).lst r1.reverse]),by kernel_rfl,(.tuple rfl fun j hj=>match j,hj with|0,_=>.imm rfl|1,_=>.weak (.row rfl (Nat.le_refl _)) (VLe.rev (tlist tint) r1)),rfl⟩
theorem w40(b:Book)(x:Past){post:V->Prop}(h:WQ (T40 b x) v40 post .e):PC 40 [.agg (tBook.cells b),.agg [tu8.lst x.deeds,tu8.lst x.words,tu8.lst x.days,.int .u8 x.many]] post:=
 PCalls.wq Tryz.func40 (s40 b x) q40 h
end
structure TS where
 hv:List Int
 d:Int
 s:Int
 L:List Line
 H:List (List Int)
def bT(b:Book)(x:Past)(i:Int)(k:Nat):Bool:=((k:Int)==pT b x i)||(((k:Int)==qT b x i)||((k:Int)==cT b x i))
def setN(f:Nat->Bool)(n:Nat):Nat->Int
 |0=>0
 |j+1=>2*setN f n j+(if f (n-1-j)=true then 1 else 0)
def ownT(b:Book)(x:Past)(hv:List Int)(d s i:Int):Line:=
 if kT x i=1 then(if(cT b x i).tmod 2=1 then⟨d,1,eT b x i,cT b x i,qT b x i,pT b x i,0⟩else⟨d,1,pT b x i,qT b x i,cT b x i,eT b x i,0⟩)
 else if kT x i=2/\s<2 then⟨d,2,0,0,0,0,setN (bT b x i) b.bodies.length b.bodies.length⟩
 else if kT x i=3 then⟨d,3,pT b x i,gT b x hv i,0,0,0⟩
 else if kT x i=4 then⟨d,4,pT b x i,hT b x hv i,0,0,0⟩
 else⟨d,0,pT b x i,qT b x i,0,0,0⟩
def nH(b:Book)(x:Past)(hv:List Int)(i:Int):List Int:=if kT x i=3\/kT x i=4 then hv else sT b x hv i
def tellT(b:Book)(x:Past)(t:TS)(i:Nat):TS:=
 ⟨nH b x t.hv i,dT x t.d i,if kT x i=2/\t.s<2 then t.s+1 else t.s,t.L++ [ownT b x t.hv (dT x t.d i) t.s i],nH b x t.hv i::t.H⟩
def runT(b:Book)(x:Past):Nat->TS
 |0=>⟨firstH b,0,0,[],[firstH b]⟩
 |i+1=>tellT b x (runT b x i) i
def manyT(b:Book)(x:Past):Nat:=if 1<b.bodies.length then(x.many.tmod 9).toNat else 0
def toldBk(b:Book)(x:Past):Book:=⟨b.bodies,b.heads,(runT b x (manyT b x)).L⟩
def hsT(b:Book)(x:Past):List (List Int):=(runT b x (manyT b x)).H.reverse
structure PastOk(x:Past):Prop where
 deeds:U8 x.deeds
 words:U8 x.words
 days:U8 x.days
 many:0<=x.many/\x.many<=255
theorem pair_in{n:Nat}(h2:2<=n){u v:Int}(hu:0<=u)(hv:0<=v):(0<=u.tmod n/\u.tmod n<n)/\(0<=((u.tmod n+1)+v.tmod ((n:Int)-1)).tmod n/\((u.tmod n+1)+v.tmod ((n:Int)-1)).tmod n<n)/\
  u.tmod n≠((u.tmod n+1)+v.tmod ((n:Int)-1)).tmod n/\0<=v.tmod ((n:Int)-1)/\v.tmod ((n:Int)-1)<(n:Int)-1:=by
 have hp:=which_in (n:=n) hu (by omega);have hr:=which_in (n:=n-1) hv (by omega);have e1:((n-1:Nat):Int)=(n:Int)-1:=by omega
 rw[e1]at hr;exact⟨hp,which_in (by omega) (by omega),mod_ne hp hr,hr⟩
structure Turns(b:Book)(x:Past)(i:Int):Prop where
 p:0<=pT b x i/\pT b x i<b.bodies.length
 q:0<=qT b x i/\qT b x i<b.bodies.length
 pq:pT b x i≠qT b x i
 c:0<=cT b x i/\cT b x i<b.bodies.length
 e:0<=eT b x i/\eT b x i<b.bodies.length
 ce:cT b x i≠eT b x i
 k:0<=kT x i/\kT x i<=4
 d:∀d,0<=d/\d<=364->d<=dT x d i/\dT x d i<=364
theorem turns_in{b:Book}{x:Past}(hx:PastOk x)(h2:2<=b.bodies.length){i:Int}(hi:0<=i):Turns b x i:=by
 have a1:=turn_in hx.deeds (n:=2*i) (by omega);have a2:=turn_in hx.deeds (n:=2*i+1) (by omega);have a3:=turn_in hx.words (n:=2*i+1) (by omega);have a4:=turn_in hx.words (n:=2*i+2) (by omega);have a5:=turn_in hx.words (n:=2*i) (by omega);have a6:=turn_in hx.days hi;obtain⟨p1,p2,p3,-⟩:=pair_in h2 a1.1 a2.1;obtain⟨c1,c2,c3,-⟩:=pair_in h2 a3.1 a4.1;have k1:=which_in (n:=5) a5.1 (by decide);have d1:=which_in (n:=40) a6.1 (by decide)
 have e5:((5:Nat):Int)=5:=rfl;have e40:((40:Nat):Int)=40:=rfl;rw[e5]at k1;rw[e40]at d1;refine⟨p1,p2,p3,c1,c2,c3,?_,fun d hd=> ?_⟩
 ·unfold kT;omega
 ·unfold dT;omega
theorem pairR_comm(p q:Int):pairR p q=pairR q p:=by unfold pairR;rw[Int.min_comm,Int.max_comm]
theorem swap_pair{h:List Int}{p q:Int}(hp:0<=p)(hq:0<=q)(hne:p≠q):swapR h (pairR p q)=(h.set p.toNat (h.getD q.toNat 0)).set q.toNat (h.getD p.toNat 0):=by
 unfold swapR pairR;by_cases q1:p<=q
 ·rw[Int.min_eq_left q1,Int.max_eq_right q1]
 ·rw[Int.min_eq_right (by omega),Int.max_eq_left (by omega)];exact List.set_comm _ _ (by simp only;omega)
theorem pairs_either{x:Line}(hk:x.kind=1):pairR x.a x.b∈pairsR x/\pairR x.c x.d∈pairsR x:=by
 unfold pairsR;rw[if_neg (by omega),if_pos hk];split
 ·rename_i h;simp[h]
 split<;>simp
theorem pairs_some{s p q:Int}(hp:p∈bitsR s)(hq:q∈bitsR s)(hlt:p<q):(⟨p,q⟩:Pair)∈somePairs (bitsR s):=by
 obtain⟨i,hi,rfl⟩:=mem_getD 0 hp;obtain⟨k,hk,rfl⟩:=mem_getD 0 hq
 have hik:i<k:=by
  rcases Nat.lt_trichotomy i k with z|z|z
  ·exact z
  ·subst z;omega
  ·have:=bitsR_mono s z hi;omega
 simp only[somePairs,List.mem_flatMap,List.mem_map,List.mem_range];refine⟨i,hi,k,?_,rfl⟩;rw[List.mem_iff_getElem?];refine⟨k-(i+1),?_⟩;rw[List.getElem?_drop,show i+1+(k-(i+1))=k by omega,List.getElem?_range hk]
theorem two_mem{l:List Int}{p q:Int}(hp:p∈l)(hq:q∈l)(hne:p≠q):2<=l.length:=by
 match l,hp,hq with
 |[a],hp,hq=>rw[List.mem_singleton]at hp hq;omega
 |_::_::_,_,_=>simp
theorem setN_congr{f g:Nat->Bool}{n:Nat}(h:∀k,k<n->f k=g k):∀j,j<=n->setN f n j=setN g n j
 |0,_=>rfl
 |j+1,hj=>by
  unfold setN;rw[setN_congr h j (by omega),h (n-1-j) (by omega)]
theorem setN_le(f:Nat->Bool)(n:Nat):∀j,j<=5->0<=setN f n j/\setN f n j<=1000:=fun j hj=>by
 have key:∀j,0<=setN f n j/\setN f n j+1<=(2:Int)^j:=by
  intro j
  induction j with
  |zero=>exact⟨Int.le_refl 0,by show(0:Int)+1<=1;decide⟩
  |succ j ih=>
   unfold setN;rw[Int.pow_succ];split<;>omega
 have h:=key j;rcases show j=0\/j=1\/j=2\/j=3\/j=4\/j=5 by omega with rfl|rfl|rfl|rfl|rfl|rfl<;>omega
theorem setN_small:∀n:Fin 6,∀a b c d e:Bool,(0<=setN (fun k=>[a,b,c,d,e].getD k false) n n/\setN (fun k=>[a,b,c,d,e].getD k false) n n<=(2:Int)^(n:Nat)-1)/\∀k:Fin 5,(k:Nat)<n->bitH (setN (fun k=>[a,b,c,d,e].getD k false) n n) k=[a,b,c,d,e].getD k false:=by decide+kernel
theorem set_in(f:Nat->Bool){n:Nat}(hn:n<=5):(0<=setN f n n/\setN f n n<=(2:Int)^n-1)/\∀k,k<n->bitH (setN f n n) k=f k:=by
 have e:∀k,k<5->f k=[f 0,f 1,f 2,f 3,f 4].getD k false:=fun k hk=>by
  match k,hk with
  |0,_=>rfl
  |1,_=>rfl
  |2,_=>rfl
  |3,_=>rfl
  |4,_=>rfl
 obtain⟨h1,h2⟩:=setN_small ⟨n,by omega⟩ (f 0) (f 1) (f 2) (f 3) (f 4);rw[setN_congr (fun k hk=>e k (by omega)) n (Nat.le_refl _)];refine⟨h1,fun k hk=> ?_⟩;rw[e k (by omega)];exact h2 ⟨k,by omega⟩ hk
theorem bits_has{f:Nat->Bool}{n:Nat}(hn:n<=5){p:Int}(hp:0<=p/\p<n)(hf:f p.toNat=true):p∈bitsR (setN f n n):=by
 unfold bitsR;refine List.mem_map.2 ⟨p.toNat,List.mem_filter.2 ⟨List.mem_range.2 (by omega),?_⟩,by omega⟩;rw[(set_in f hn).2 _ (by omega)];exact hf
theorem own_ok{b:Book}{x:Past}{i:Int}(t:Turns b x i)(h5:b.bodies.length<=5){hv:List Int}(hp:hv.Perm (firstH b)){d s:Int}(hd:0<=d/\d<=364):OkLine b.bodies.length (ownT b x hv d s i):=by
 obtain⟨-,-,hg,-⟩:=perm_get hp;have g1:0<=gT b x hv i/\gT b x hv i<b.bodies.length:=hg _ (by have:=t.p;omega);have g2:0<=hT b x hv i/\hT b x hv i<b.bodies.length:=hg _ (by have:=t.q;omega);have b1:pT b x i∈bitsR (setN (bT b x i) b.bodies.length b.bodies.length):=bits_has h5 t.p (by have:=t.p;unfold bT;rw[Int.toNat_of_nonneg t.p.1];simp);have b2:qT b x i∈bitsR (setN (bT b x i) b.bodies.length b.bodies.length):=bits_has h5 t.q (by have:=t.q;unfold bT;rw[Int.toNat_of_nonneg t.q.1];simp)
 have b3:=two_mem b1 b2 t.pq;have b4:=(set_in (bT b x i) h5).1;have h1:=t.p;have h2:=t.q;have h3:=t.c;have h4:=t.e;have n1:=t.pq;have n2:=t.ce;unfold ownT;split
 ·split
  ·exact⟨hd,by simp,fun _=>⟨h4,h3⟩,fun _=>⟨⟨h2,h1⟩,fun e=>n1 e.symm⟩,fun _ e=>n2 e.symm,fun e=>by simp at e,fun _=>rfl,fun _ e=>absurd rfl e⟩
  ·exact⟨hd,by simp,fun _=>⟨h1,h2⟩,fun _=>⟨⟨h3,h4⟩,n2⟩,fun _=>n1,fun e=>by simp at e,fun _=>rfl,fun _ e=>absurd rfl e⟩
 split
 ·exact⟨hd,by simp,fun e=>absurd rfl e,fun e=>by simp at e,fun e=>by simp at e,fun _=>⟨b4,b3,rfl,rfl,rfl,rfl⟩,fun e=>absurd rfl e,fun e=>absurd rfl e⟩
 split
 ·exact⟨hd,by simp,fun _=>⟨h1,g1⟩,fun e=>by simp at e,fun e=>by simp at e,fun e=>by simp at e,fun _=>rfl,fun _ _=>⟨rfl,rfl⟩⟩
 split
 ·exact⟨hd,by simp,fun _=>⟨h1,g2⟩,fun e=>by simp at e,fun e=>by simp at e,fun e=>by simp at e,fun _=>rfl,fun _ _=>⟨rfl,rfl⟩⟩
 ·exact⟨hd,by simp,fun _=>⟨h1,h2⟩,fun e=>by simp at e,fun _=>n1,fun e=>by simp at e,fun _=>rfl,fun _ _=>⟨rfl,rfl⟩⟩
theorem own_step{b:Book}{x:Past}{i:Int}(t:Turns b x i)(h5:b.bodies.length<=5){hv:List Int}(hp:hv.Perm (firstH b))(d s:Int):Step1 (ownT b x hv d s i) hv (nH b x hv i):=by
 obtain⟨hl,hnd,-,-⟩:=perm_get hp;have h1:=t.p;have h2:=t.q;have n1:=t.pq;have hs:swapR hv (pairR (pT b x i) (qT b x i))=sT b x hv i:=swap_pair h1.1 h2.1 n1;have b1:pT b x i∈bitsR (setN (bT b x i) b.bodies.length b.bodies.length):=bits_has h5 t.p (by have:=t.p;unfold bT;rw[Int.toNat_of_nonneg t.p.1];simp);have b2:qT b x i∈bitsR (setN (bT b x i) b.bodies.length b.bodies.length):=bits_has h5 t.q (by have:=t.q;unfold bT;rw[Int.toNat_of_nonneg t.q.1];simp)
 have key:∀y:Line,y.kind<=2->pairR (pT b x i) (qT b x i)∈pairsR y->¬(kT x i=3\/kT x i=4)->Step1 y hv (nH b x hv i):=fun y hy hm hk=>by
  rw[step_swap hy];refine⟨_,hm,?_⟩;unfold nH;rw[if_neg hk,hs]
 unfold ownT;split
 ·rename_i k1;split
  ·refine key _ (by simp) ?_ (by omega);rw[pairR_comm];exact(pairs_either (x:=⟨d,1,eT b x i,cT b x i,qT b x i,pT b x i,0⟩) rfl).2
  ·exact key _ (by simp) (pairs_either (x:=⟨d,1,pT b x i,qT b x i,cT b x i,eT b x i,0⟩) rfl).1 (by omega)
 split
 ·rename_i k2;refine key _ (by simp) ?_ (by omega);have e:pairsR ⟨d,2,0,0,0,0,setN (bT b x i) b.bodies.length b.bodies.length⟩=somePairs (bitsR (setN (bT b x i) b.bodies.length b.bodies.length)):=rfl;rw[e];unfold pairR;by_cases q1:pT b x i<=qT b x i
  ·rw[Int.min_eq_left q1,Int.max_eq_right q1];exact pairs_some b1 b2 (by omega)
  ·rw[Int.min_eq_right (by omega),Int.max_eq_left (by omega)];exact pairs_some b2 b1 (by omega)
 split
 ·rename_i k3;refine⟨zPair,List.mem_singleton.2 rfl,?_⟩;unfold doneR nH;rw[if_pos rfl,if_pos (.inl k3)];unfold gT;simp
 split
 ·rename_i k4;refine⟨zPair,List.mem_singleton.2 rfl,?_⟩;unfold doneR nH;rw[if_neg (by simp),if_pos rfl,if_pos (.inr k4)]
  have:hv.getD (pT b x i).toNat 0≠hT b x hv i:=fun e=>by
   have:=nodup_get hnd (by omega) (by omega) e;omega
  simp only[Prod.mk.injEq,true_and];exact bne_iff_ne.2 this
 ·rename_i k1 k2 k3 k4;exact key _ (by simp) (List.mem_singleton.2 rfl) (by omega)
structure TOk(b:Book)(t:TS)(i:Nat):Prop where
 perm:t.hv.Perm (firstH b)
 day:0<=t.d/\t.d<=364
 some:t.s=(t.L.countP isSome2:Int)/\t.s<=2
 len:t.L.length=i
 ok:∀l∈t.L,OkLine b.bodies.length l
 srt:Sorted t.L
 le:∀l∈t.L,l.day<=t.d
 run:∃hs,t.H.reverse=firstH b::hs/\Run (firstH b) (all0 t.L) hs/\lastH (firstH b) hs=t.hv
theorem own_day(b:Book)(x:Past)(hv:List Int)(d s i:Int):(ownT b x hv d s i).day=d:=by
 unfold ownT;split
 ·split<;>rfl
 split
 ·rfl
 split
 ·rfl
 split<;>rfl
theorem own_kind(b:Book)(x:Past)(hv:List Int)(d s i:Int):isSome2 (ownT b x hv d s i)=decide (kT x i=2/\s<2):=by
 unfold ownT isSome2;split
 ·rename_i h;split<;>simp[h]
 split
 ·rename_i h;simp[h]
 split
 ·rename_i h;simp[h]
 split
 ·rename_i h;simp[h]
 ·rename_i h _ _;simpa using h
theorem tell_ok{b:Book}{x:Past}(hx:PastOk x)(h2:2<=b.bodies.length)(h5:b.bodies.length<=5){t:TS}{i:Nat}(h:TOk b t i):TOk b (tellT b x t i) (i+1):=by
 have ht:=turns_in (b:=b) hx h2 (i:=(i:Int)) (by omega);obtain⟨d1,d2⟩:=ht.d t.d h.day
 have hd:0<=dT x t.d i/\dT x t.d i<=364:=⟨by have:=h.day;omega,d2⟩
 have o1:=own_ok ht h5 h.perm (s:=t.s) hd;have o2:=own_step ht h5 h.perm (dT x t.d i) t.s;obtain⟨hs,r1,r2,r3⟩:=h.run;have e1:=own_day b x t.hv (dT x t.d i) t.s i;refine⟨?_,hd,?_,?_,?_,?_,?_,?_⟩
 ·obtain⟨p,p1,p2⟩:=o2;have:=doneR_perm o1 p1 (h:=t.hv) (by have:=(perm_get h.perm).1;exact this);rw[p2]at this;exact this.trans h.perm
 ·have hs1:=h.some;have hk:=own_kind b x t.hv (dT x t.d i) t.s i;unfold tellT;simp only;rw[List.countP_append,List.countP_singleton,hk];by_cases q:kT x i=2/\t.s<2
  ·rw[if_pos q,if_pos (decide_eq_true q)];omega
  ·rw[if_neg q,if_neg (by simpa using q)];omega
 ·unfold tellT;simp only;rw[List.length_append,List.length_singleton,h.len]
 ·intro l hl;rcases List.mem_append.1 hl with q|q
  ·exact h.ok l q
  ·rw[List.mem_singleton.1 q];exact o1
 ·refine List.pairwise_append.2 ⟨h.srt,List.pairwise_singleton _ _,fun y hy z hz=> ?_⟩;rw[List.mem_singleton.1 hz,e1];have:=h.le y hy;omega
 ·intro l hl;show l.day<=dT x t.d i;rcases List.mem_append.1 hl with q|q
  ·have:=h.le l q;omega
  ·rw[List.mem_singleton.1 q,e1];exact Int.le_refl _
 ·refine⟨hs++ [nH b x t.hv i],?_,?_,lastH_snoc _ _ _⟩
  ·unfold tellT;simp only;rw[List.reverse_cons,r1];rfl
  ·unfold tellT;simp only;rw[all0_append,run_append];exact⟨hs,_,rfl,r2,.cons (step_one.2 (by rw[r3];exact o2)) (.nil _)⟩
theorem run_zero(b:Book)(x:Past):TOk b (runT b x 0) 0:=⟨List.Perm.refl _,⟨Int.le_refl 0,by show(0:Int)<=364;decide⟩,⟨rfl,by show(0:Int)<=2;decide⟩,rfl,fun l hl=>absurd hl List.not_mem_nil,List.Pairwise.nil,fun l hl=>absurd hl List.not_mem_nil,[],rfl,.nil _,rfl⟩
theorem run_ok{b:Book}{x:Past}(hx:PastOk x)(h2:2<=b.bodies.length)(h5:b.bodies.length<=5):∀i,TOk b (runT b x i) i
 |0=>run_zero b x
 |i+1=>tell_ok hx h2 h5 (run_ok hx h2 h5 i)
theorem manyT_le{x:Past}(b:Book)(hx:PastOk x):manyT b x<=8:=by
 have:=which_in (n:=9) hx.many.1 (by decide);have e:((9:Nat):Int)=9:=rfl;rw[e]at this;unfold manyT;split<;>omega
theorem run_all{b:Book}{x:Past}(hx:PastOk x)(hb:OkBook b):TOk b (runT b x (manyT b x)) (manyT b x):=by
 by_cases h:1<b.bodies.length
 ·exact run_ok hx (by omega) hb.nb _
 ·have:manyT b x=0:=by unfold manyT;rw[if_neg h]
  rw[this];exact run_zero b x
theorem toldT_ok{b:Book}{x:Past}(hx:PastOk x)(hb:OkBook b):OkBook (toldBk b x)/\∃t∈truthsR (toldBk b x) [],t.haves=hsT b x:=by
 have h:=run_all hx hb;have hm:=manyT_le b hx;have hok:OkBook (toldBk b x):=okBook_of hb rfl rfl ⟨by show(runT b x (manyT b x)).L.length<=8;rw[h.len];exact hm,h.ok,h.srt,by have:=h.some;show(runT b x (manyT b x)).L.countP isSome2<=2;omega⟩;obtain⟨hs,r1,r2,-⟩:=h.run;refine⟨hok,?_⟩;obtain⟨t,t1,t2⟩:=hs_truth (b:=toldBk b x) hok (hs:=hs) r2;exact⟨t,t1,t2.trans r1.symm⟩
end Go.Proofs.YtemgodefhcbleaaGreat
