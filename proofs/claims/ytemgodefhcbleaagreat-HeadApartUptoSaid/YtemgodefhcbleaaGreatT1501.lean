/-
  Part of the proof of HeadApart. Conditions: those that stand in each theorem.
-/
import Derived.Test.YtemgodefhcbleaaGreatB16
set_option linter.unusedSimpArgs false
set_option linter.unusedVariables false
set_option maxRecDepth 100000
namespace Go.Proofs.YtemgodefhcbleaaGreat
open Ab Go
noncomputable section
inductive P99
 |e
inductive R99
 |r0 (r0_0:Int) (r0_1:Int)
noncomputable def T99(n:Int)(m:Int):P99→Tr P99 R99
 |.e=>(.out (.r0 (min n m) (max n m)))
noncomputable def g99(n:Int)(m:Int):P99→List Item × St
 |.e=>bd Tryz.f99 [iI n,iI m] 10
noncomputable def n99:R99→Exit × St
 |.r0 r0_0 r0_1=>(.ret,⟨mk 12 [(4,.ref 0 0 0)],[.cells [iI r0_0,iI r0_1]],[]⟩)
noncomputable def v99:R99→V
 |.r0 r0_0 r0_1=>.agg [iI r0_0,iI r0_1]
theorem s99(n:Int)(m:Int):Sm 0 (g99 n m) (T99 n m) (n99)
 |.e=>⟨400,by kernel_rfl⟩
theorem q99:∀r,bodyQ Tryz.prog Tryz.f99 (·=v99 r) (n99 r).1 (n99 r).2
 |.r0 r0_0 r0_1=>bq (.agg [iI r0_0,iI r0_1]) (by kernel_rfl)
theorem w99(n:Int)(m:Int){post:V→Prop}(h:WQ (T99 n m) v99 post .e):PC 99 [iI n,iI m] post:=
 PCalls.wq Tryz.func99 (s99 n m) q99 h
theorem c99(n m:Int):PC 99 [iI n,iI m] (·=.agg (tPair.cells (pairR n m))):=by
 refine w99 _ _ (WP.step ?_)
 simp only[T99,Go,Ends',v99,Tr.sure,SS]
 repeat' with_reducible first|intro _|apply And.intro
 all_goals simp[pairR,tPair,Go,Ends',v99,-List.getD_eq_getElem?_getD, *]
inductive P100
 |e
inductive R100
 |r0 (r0:Bool)
noncomputable def T100(p:Pair)(q:Pair):P100→Tr P100 R100
 |.e=>(.br (decide (p.a<q.a)) (.lit true (.out (.r0 true))) (.br (p.a==q.a) (.lit false (.out (.r0 (decide (p.b<q.b))))) (.lit false (.out (.r0 false)))))
noncomputable def g100(p:Pair)(q:Pair):P100→List Item × St
 |.e=>bd Tryz.f100 [.agg [iI p.a,iI p.b],.agg [iI q.a,iI q.b]] 22
noncomputable def n100:R100→Exit × St
 |.r0 r0=>(.ret,⟨mk 24 [(4,.bool r0)],[],[]⟩)
noncomputable def v100:R100→V
 |.r0 r0=>.bool r0
theorem s100(p:Pair)(q:Pair):Sm 0 (g100 p q) (T100 p q) (n100)
 |.e=>⟨400,by kernel_rfl⟩
theorem q100:∀r,bodyQ Tryz.prog Tryz.f100 (·=v100 r) (n100 r).1 (n100 r).2
 |.r0 r0=>bq (.bool r0) (by kernel_rfl)
theorem w100(p:Pair)(q:Pair){post:V→Prop}(h:WQ (T100 p q) v100 post .e):PC 100 [.agg [iI p.a,iI p.b],.agg [iI q.a,iI q.b]] post:=
 PCalls.wq Tryz.func100 (s100 p q) q100 h
theorem c100(p q:Pair):PC 100 [.agg (tPair.cells p),.agg (tPair.cells q)] (·=.bool (beforeR p q)):=by
 refine w100 _ _ (WP.step ?_)
 simp only[T100,Go,Ends',v100,Tr.sure,SS]
 repeat' with_reducible first|intro _|apply And.intro
 all_goals simp[beforeR,Go,Ends',v100,-List.getD_eq_getElem?_getD, *]
theorem someAt_next(l:List Int)(i k:Nat)(h:i<k):someAt l i (k+1)=someAt l i k++ [⟨l.getD i 0,l.getD k 0⟩]:=by
 unfold someAt;rw[List.range_succ,List.drop_append_of_le_length (by rw[List.length_range];omega),List.map_append];rfl
theorem someAt_len(l:List Int)(i k:Nat):(someAt l i k).length≤k:=by unfold someAt;simp only[List.length_map,List.length_drop,List.length_range];omega
theorem someTo2_len(l:List Int)(h:l.length≤5):∀i,(someTo2 l i).length≤5*i
 |0=>by simp[someTo2]
 |i+1=>by
  rw[someTo2_next,List.length_append]
  have:=someTo2_len l h i
  have:=someAt_len l i l.length
  omega
inductive P56
 |e
 |l0 (x0_7:Int) (a0_1:List Pair)
 |l1 (x0_7:Int) (x1_8:Int) (a1_1:List Pair)
inductive R56
 |r0 (r0_0:Int) (r0_1:Int)
 |r1 (r0_0:Int) (r0_1:Int)
 |r2 (r0_0:Int) (r0_1:Int) (r0_2:Int) (r0_3:Int)
 |r3 (r0:List Pair)
noncomputable def T56(x:Line):P56→Tr P56 R56
 |.e=>let c1:=pairR x.a x.b;let c2:=pairR x.c x.d;let c3:List V:=[iI (c1.a),iI (c1.b)];(.br (x.kind==(0:Int)) (.call 99 [iI x.a,iI x.b] (.agg c3) true true (.out (.r0 (c1.a) (c1.b)))) (.br (x.kind==(1:Int)) (.front [(4,99,[iI x.a,iI x.b],.agg c3),(9,99,[iI x.c,iI x.d],.agg [iI (c2.a),iI (c2.b)])] [] true true (.br ((c1.a==c2.a)&&((c1.b==c2.b)&&true)) (.out (.r1 (c1.a) (c1.b))) (.call 100 [.agg [iI (c2.a),iI (c2.b)],.agg c3] (.bool (beforeR c2 c1)) true true (.br (beforeR c2 c1) (.out (.r2 (c2.a) (c2.b) (c1.a) (c1.b))) (.out (.r2 (c1.a) (c1.b) (c2.a) (c2.b))))))) (.br (x.kind==(2:Int)) (.wait 2 (.own 5 95 2 (.call 101 [iI x.set] (tint.lst (bitsR x.set)) true true (.go (.l0 0 ([])))))) (.out (.r0 0 0)))))
 |.l0 x0_7 a0_1=>(.br (decide (x0_7<(((bitsR x.set).length):Int))) (.need (inR .i64 (x0_7+(1:Int))) (.go (.l1 x0_7 (x0_7+(1:Int)) a0_1))) (.out (.r3 a0_1)))
 |.l1 x0_7 x1_8 a1_1=>let c1:=(((bitsR x.set).length):Int);(.br (decide (x1_8<c1)) (.front [] [] (((decide (0≤x0_7)&&decide (x0_7<c1))&&((decide (0≤x1_8)&&decide (x1_8<c1))&&true))&&true) true (.need ((decide (a1_1.length=a1_1.length)&&decide (a1_1.length+1≤4294967296))&&true) (.scal (fun _=>true) (.need (inR .i64 (x1_8+(1:Int))) (.go (.l1 x0_7 (x1_8+(1:Int)) ((⟨((bitsR x.set).getD (x0_7).toNat tint.zero),((bitsR x.set).getD (x1_8).toNat tint.zero)⟩:Pair)::a1_1))))))) (.need (inR .i64 (x0_7+(1:Int))) (.go (.l0 (x0_7+(1:Int)) a1_1))))
noncomputable def g56(x:Line):P56→List Item × St
 |.e=>bd Tryz.f56 [.agg [iI x.day,iI x.kind,iI x.a,iI x.b,iI x.c,iI x.d,iI x.set]] 78
 |.l0 x0_7 a0_1=>(cutOf Tryz.f56 0,⟨mk 79 [(5,.row 1 a0_1.length),(6,tint.lst (bitsR x.set)),(7,iI x0_7)],[.gone,.rows 95 2 a0_1.length (rowsRev tPair a0_1)],[]⟩)
 |.l1 x0_7 x1_8 a1_1=>(cutOf Tryz.f56 1,⟨mk 79 [(5,.row 1 a1_1.length),(6,tint.lst (bitsR x.set)),(7,iI x0_7),(8,iI x1_8)],[.gone,.rows 95 2 a1_1.length (rowsRev tPair a1_1)],[]⟩)
noncomputable def n56:R56→Exit × St
 |.r0 r0_0 r0_1=>(.ret,⟨mk 79 [(2,.row 1 1)],[.gone,.rows 95 2 1 (litC 2 1 [iI r0_0,iI r0_1])],[]⟩)
 |.r1 r0_0 r0_1=>(.ret,⟨mk 79 [(2,.row 3 1)],[.gone,.gone,.gone,.rows 95 2 1 (litC 2 1 [iI r0_0,iI r0_1])],[]⟩)
 |.r2 r0_0 r0_1 r0_2 r0_3=>(.ret,⟨mk 79 [(2,.row 3 2)],[.gone,.gone,.gone,.rows 95 2 2 (litC 2 2 [iI r0_0,iI r0_1,iI r0_2,iI r0_3])],[]⟩)
 |.r3 r0=>(.ret,⟨mk 79 [(2,.row 1 r0.length)],[.gone,.rows 95 2 r0.length (rowsRev tPair r0)],[]⟩)
noncomputable def v56:R56→V
 |.r0 r0_0 r0_1=>tPair.lst ([(⟨r0_0,r0_1⟩:Pair)]:List Pair)
 |.r1 r0_0 r0_1=>tPair.lst ([(⟨r0_0,r0_1⟩:Pair)]:List Pair)
 |.r2 r0_0 r0_1 r0_2 r0_3=>tPair.lst ([(⟨r0_0,r0_1⟩:Pair),(⟨r0_2,r0_3⟩:Pair)]:List Pair)
 |.r3 r0=>tPair.lst r0.reverse
theorem s56(x:Line):Sm 0 (g56 x) (T56 x) (n56)
 |.e=>⟨400,by kernel_rfl⟩
 |.l0 _ _=>⟨400,by kernel_rfl⟩
 |.l1 _ _ _=>⟨400,by kernel_rfl⟩
theorem q56:∀r,bodyQ Tryz.prog Tryz.f56 (·=v56 r) (n56 r).1 (n56 r).2
 |.r0 r0_0 r0_1=>⟨.inr rfl,by simp[n56],(.row 1 1),(tPair.lst ([(⟨r0_0,r0_1⟩:Pair)]:List Pair)),by kernel_rfl,(.weak (.row rfl (Nat.le_refl _)) (VLe.lit tPair _ rfl rfl (fun _=>rfl))),rfl⟩
 |.r1 r0_0 r0_1=>⟨.inr rfl,by simp[n56],(.row 3 1),(tPair.lst ([(⟨r0_0,r0_1⟩:Pair)]:List Pair)),by kernel_rfl,(.weak (.row rfl (Nat.le_refl _)) (VLe.lit tPair _ rfl rfl (fun _=>rfl))),rfl⟩
 |.r2 r0_0 r0_1 r0_2 r0_3=>⟨.inr rfl,by simp[n56],(.row 3 2),(tPair.lst ([(⟨r0_0,r0_1⟩:Pair),(⟨r0_2,r0_3⟩:Pair)]:List Pair)),by kernel_rfl,(.weak (.row rfl (Nat.le_refl _)) (VLe.lit tPair _ rfl rfl (fun _=>rfl))),rfl⟩
 |.r3 r0=>⟨.inr rfl,by simp[n56],(.row 1 r0.length),(tPair.lst r0.reverse),by kernel_rfl,(.weak (.row rfl (Nat.le_refl _)) (VLe.rev tPair r0)),rfl⟩
theorem w56(x:Line){post:V→Prop}(h:WQ (T56 x) v56 post .e):PC 56 [.agg [iI x.day,iI x.kind,iI x.a,iI x.b,iI x.c,iI x.d,iI x.set]] post:=
 PCalls.wq Tryz.func56 (s56 x) q56 h
theorem c56(x:Line):PC 56 [.agg (tLine.cells x)] (·=tPair.lst (pairsR x)):=by
 by_cases h0:x.kind=0
 ·have e:pairsR x=[pairR x.a x.b]:=by unfold pairsR;rw[if_pos h0]
  rw[e]
  refine w56 _ (WP.step ?_)
  simp only[T56,Go,Ends',v56,Tr.sure,SS]
  repeat' with_reducible first|intro _|apply And.intro
  all_goals first|exact c99 _ _|(simp_all [h0,Go,Ends',v56,-List.getD_eq_getElem?_getD];done)
 by_cases h1:x.kind=1
 ·have e:pairsR x=if pairR x.a x.b=pairR x.c x.d then[pairR x.a x.b]else if beforeR (pairR x.c x.d) (pairR x.a x.b)=true then[pairR x.c x.d,pairR x.a x.b]else[pairR x.a x.b,pairR x.c x.d]:=by unfold pairsR;rw[if_neg h0,if_pos h1]
  have k1:=c99 x.a x.b
  have k2:=c99 x.c x.d
  generalize hp:pairR x.a x.b=p at*
  generalize hq:pairR x.c x.d=q at*
  obtain⟨p1,p2⟩:=p
  obtain⟨q1,q2⟩:=q
  have hpe:((⟨p1,p2⟩:Pair)=⟨q1,q2⟩)↔(p1=q1∧p2=q2):=by simp
  have k3:=c100 ⟨q1,q2⟩ ⟨p1,p2⟩
  rw[e]
  simp only[hpe]
  refine w56 _ (WP.step ?_)
  simp only[T56,Go,Ends',v56,Tr.sure,SS,hp,hq]
  repeat' with_reducible first|intro _|apply And.intro
  all_goals first|exact k1|exact k2|exact k3|(simp[h0,h1,Go,Ends',v56,-List.getD_eq_getElem?_getD, *];done)|(simp_all [h0,h1,Go,Ends',v56,-List.getD_eq_getElem?_getD];done)|skip
  all_goals
   rename_i g1 g2
   have g:¬(p1=q1∧p2=q2):=fun h=>by rw[h.1,h.2]at g1;simp at g1
   rw[if_neg g];simp[g2]
 by_cases h2:x.kind=2
 ·have e:pairsR x=(someTo2 (bitsR x.set) (bitsR x.set).length):=by unfold pairsR;rw[if_neg h0,if_neg h1,if_pos h2];rfl
  rw[e]
  have hb:=bitsR_len x.set
  have k1:=c101 x.set
  refine w56 _ (WP.step ?_)
  simp only[T56,Go,Ends',v56,Tr.sure,SS]
  repeat' with_reducible first|intro _|apply And.intro
  all_goals first|exact k1|(simp_all [h0,h1,h2,Go,Ends',v56,-List.getD_eq_getElem?_getD];done)|skip
  generalize hl:bitsR x.set=l at*
  refine WP.run (fun i=>.l0 (i:Int) (someTo2 l i).reverse) rfl l.length (fun i hi=> ?_) ?_
  ·have hr:inR .i64 ((i:Int)+1)=true:=inR64 (by omega) (by omega)
   have hi':(i:Int)<l.length:=by omega
   have hl2:=someTo2_len l hb i
   refine WP.step ?_
   simp only[T56,Go,Ends',v56,Tr.sure,SS,hl,hi']
   repeat' with_reducible first|intro _|apply And.intro
   all_goals first|(simp[hr,Go,Ends',v56,-List.getD_eq_getElem?_getD, *];done)|skip
   refine WP.run (fun q=>.l1 (i:Int) ((i:Int)+1+(q:Int)) ((someAt l i (i+1+q)).reverse++(someTo2 l i).reverse)) (by simp[someAt]) (l.length-(i+1)) (fun q hq=> ?_) ?_
   ·have hr2:inR .i64 ((i:Int)+1+(q:Int)+1)=true:=inR64 (by omega) (by omega)
    have hq':(i:Int)+1+(q:Int)<l.length:=by omega
    have hq0:(0:Int)≤(i:Int)+1+(q:Int):=by omega
    have hqn:((i:Int)+1+(q:Int)).toNat=i+1+q:=by omega
    have hl3:=someAt_len l i (i+1+q)
    have hlen:((someAt l i (i+1+q)).reverse++(someTo2 l i).reverse).length+1≤4294967296:=by simp only[List.length_append,List.length_reverse];omega
    have hcast:(i:Int)+1+((q+1:Nat):Int)=(i:Int)+1+(q:Int)+1:=by omega
    have hnx:(someAt l i (i+1+(q+1))).reverse++(someTo2 l i).reverse=(⟨l.getD i 0,l.getD (i+1+q) 0⟩:Pair)::((someAt l i (i+1+q)).reverse++(someTo2 l i).reverse):=by
     rw[show i+1+(q+1)=i+1+q+1 by omega,someAt_next l i (i+1+q) (by omega),List.reverse_append];rfl
    rw[hcast,hnx]
    generalize(someAt l i (i+1+q)).reverse++(someTo2 l i).reverse=B at*
    refine WP.once ?_
    simp only[T56,Tr.sure,SS,hl,hi',hq',hq0,hqn,z1]
    repeat' with_reducible first|intro _|apply And.intro
    all_goals simp[hr2,hlen,Go,Ends',v56,-List.getD_eq_getElem?_getD, *]
   ·have hno:¬(i:Int)+1+((l.length-(i+1):Nat):Int)<l.length:=by omega
    have he:(someAt l i (i+1+(l.length-(i+1)))).reverse++(someTo2 l i).reverse=(someTo2 l (i+1)).reverse:=by rw[show i+1+(l.length-(i+1))=l.length by omega,someTo2_next,List.reverse_append]
    rw[he]
    refine WP.once ?_
    simp only[T56,Tr.sure,SS,hl,hno]
    repeat' with_reducible first|intro _|apply And.intro
    all_goals simp[hr,Go,Ends',v56,-List.getD_eq_getElem?_getD, *]
  ·refine WP.step ?_
   simp only[T56,Go,Ends',v56,Tr.sure,SS,hl,Int.lt_irrefl,List.reverse_reverse]
   repeat' with_reducible first|intro _|apply And.intro
 ·have e:pairsR x=[zPair]:=by unfold pairsR;rw[if_neg h0,if_neg h1,if_neg h2]
  rw[e]
  refine w56 _ (WP.step ?_)
  simp only[T56,Go,Ends',v56,Tr.sure,SS]
  repeat' with_reducible first|intro _|apply And.intro
  all_goals first|(simp[h0,h1,h2,zPair,Go,Ends',v56,-List.getD_eq_getElem?_getD, *];done)|(simp_all [h0,h1,h2,zPair,Go,Ends',v56,-List.getD_eq_getElem?_getD];done)
theorem VLe.app0{c0 c:Nat→Nat→V}(r j:Nat):VLe (appC 0 c0 c r j) (c r j):=by
 have:appC 0 c0 c r j=c r j:=by unfold appC;simp
 rw[this];exact VLe.refl _
end
theorem firstE_all{τ:Type}{of:Nat→τ→Int}(d:τ):∀ {l:List τ} {i:Nat},(∀j,j<l.length→of (i+j) (l.getD j d)=0)→firstE of i l=none
 |[],_,_=>rfl
 |x::l,i,h=>by
  have h0:=h 0 (by simp)
  simp only[Nat.add_zero,List.getD_cons_zero]at h0
  simp only[firstE,h0,if_true]
  refine firstE_all d fun j hj=> ?_
  have:=h (j+1) (by simpa using hj)
  rw[show i+(j+1)=i+1+j by omega]at this
  simpa using this
theorem bookCheck_of{b:Book}(h:OkBook b):bookCheck b=(0,0,0):=by
 have e1:firstE (bodyAt b.bodies) 0 b.bodies=none:=firstE_all zBody fun j hj=>by rw[Nat.zero_add];exact h.body j hj
 have e2:firstE (headAt b.heads) 0 b.heads=none:=firstE_all ByteArray.empty fun j hj=>by rw[Nat.zero_add];exact h.head j hj
 have e3:firstE (lineErr b) 0 b.lines=none:=firstE_all zLine fun j hj=>by rw[Nat.zero_add];exact h.lineE j hj
 unfold bookCheck
 have h1:=h.nb
 have h2:=h.nh
 have h3:=h.nl
 rw[if_neg (by omega),e1]
 simp only
 rw[if_neg (by omega),e2]
 simp only
 rw[if_neg (by omega),e3]
def Step1(x:Line)(h h':List Int):Prop:=∃p∈pairsR x,doneR h x p=(h',true)
def Step2(f:Bool)(x:Line)(h h':List Int):Prop:=if f=true then h'=h else Step1 x h h'
inductive Run:List Int→List (Line × Bool)→List (List Int)→Prop
 |nil (h:List Int):Run h [] []
 |cons {h h':List Int} {x:Line} {f:Bool} {L:List (Line × Bool)} {hs:List (List Int)}:Step2 f x h h'→Run h' L hs→Run h ((x,f)::L) (h'::hs)
def lastH(h:List Int)(hs:List (List Int)):List Int:=(h::hs).getD hs.length []
theorem lastH_cons(h h':List Int)(hs:List (List Int)):lastH h (h'::hs)=lastH h' hs:=by simp[lastH]
theorem Run.len{h:List Int}{L:List (Line × Bool)}{hs:List (List Int)}(r:Run h L hs):hs.length=L.length:=by
 induction r with
 |nil=>rfl
 |cons _ _ ih=>simp[ih]
theorem run_nil{h:List Int}{hs:List (List Int)}:Run h [] hs↔hs=[]:=⟨fun r=>by cases r;rfl,fun e=>e▸Run.nil h⟩
theorem run_cons{h:List Int}{x:Line}{f:Bool}{L:List (Line × Bool)}{hs:List (List Int)}:Run h ((x,f)::L) hs↔∃h' r,hs=h'::r∧Step2 f x h h'∧Run h' L r:=by
 constructor
 ·intro r;cases r with
  |cons s r=>exact⟨_,_,rfl,s,r⟩
 ·rintro⟨h',r,rfl,s,q⟩;exact .cons s q
theorem run_append{L2:List (Line × Bool)}:∀(L1:List (Line × Bool)) (h:List Int) (hs:List (List Int)),Run h (L1++L2) hs↔∃h1 h2,hs=h1++h2∧Run h L1 h1∧Run (lastH h h1) L2 h2
 |[],h,hs=>by
  constructor
  ·intro r;exact⟨[],hs,rfl,.nil h,r⟩
  ·rintro⟨h1,h2,rfl,r1,r2⟩;rw[run_nil]at r1;subst r1;exact r2
 |(x,f)::L1,h,hs=>by
  rw[List.cons_append,run_cons]
  constructor
  ·rintro⟨h',r,rfl,s,q⟩
   obtain⟨h1,h2,rfl,r1,r2⟩:=(run_append L1 h' r).1 q
   exact⟨h'::h1,h2,rfl,.cons s r1,by rw[lastH_cons];exact r2⟩
  ·rintro⟨h1,h2,rfl,r1,r2⟩
   obtain⟨h',r,rfl,s,q⟩:=run_cons.1 r1
   rw[lastH_cons]at r2
   exact⟨h',r++h2,rfl,s,(run_append L1 h' _).2 ⟨r,h2,rfl,q,r2⟩⟩
def flags(b:Book)(but:List Int)(i:Nat):List (Line × Bool):=(List.range i).map fun k=>(b.lines.getD k zLine,hasN but (k:Int))
theorem flags_succ(b:Book)(but:List Int)(i:Nat):flags b but (i+1)=flags b but i++ [(b.lines.getD i zLine,hasN but (i:Int))]:=by unfold flags;rw[List.range_succ,List.map_append];rfl
theorem mem_step{b:Book}{but:List Int}{i:Nat}{t:Truth}(hp:0<(pairsR (b.lines.getD i zLine)).length)(hv:List (List Int)):(∃u∈stepT b but i t,u.haves=hv)↔∃h',hv=t.haves++ [h']∧Step2 (hasN but (i:Int)) (b.lines.getD i zLine) (t.haves.getD i []) h':=by
 unfold stepT Step2 Step1 waysR
 generalize b.lines.getD i zLine=x at*
 constructor
 ·rintro⟨u,hu,rfl⟩
  obtain⟨k,hk,hu⟩:=List.mem_flatMap.1 hu
  rw[List.mem_range]at hk
  by_cases hb:hasN but (i:Int)=true
  ·rw[if_pos hb]at hu
   split at hu
   ·rw[List.mem_singleton.1 hu];exact⟨_,rfl,by rw[if_pos hb]⟩
   ·exact absurd hu List.not_mem_nil
  ·rw[if_neg hb]at hu
   split at hu
   ·rename_i hd
    rw[List.mem_singleton.1 hu]
    exact⟨_,rfl,by rw[if_neg hb];exact⟨_,getD_mem zPair _ k hk,Prod.ext rfl hd⟩⟩
   ·exact absurd hu List.not_mem_nil
 ·rintro⟨h',rfl,hs⟩
  by_cases hb:hasN but (i:Int)=true
  ·rw[if_pos hb]at hs
   subst hs
   exact⟨_,List.mem_flatMap.2 ⟨0,List.mem_range.2 hp,by rw[if_pos hb,if_pos rfl];exact List.mem_singleton.2 rfl⟩,rfl⟩
  ·rw[if_neg hb]at hs
   obtain⟨p,hp2,e⟩:=hs
   obtain⟨k,hk,rfl⟩:=mem_getD zPair hp2
   exact⟨_,List.mem_flatMap.2 ⟨k,List.mem_range.2 hk,by rw[if_neg hb,if_pos (by rw[e])];exact List.mem_singleton.2 rfl⟩,by simp only[e]⟩
theorem truth_run{b:Book}(h:OkBook b)(but:List Int):∀i,i≤b.lines.length→∀hv,(∃t∈truthsTo b but i,t.haves=hv)↔∃hs,hv=firstH b::hs∧Run (firstH b) (flags b but i) hs
 |0,_,hv=>by
  constructor
  ·rintro⟨t,ht,rfl⟩
   rw[truthsTo,List.mem_singleton]at ht
   subst ht
   exact⟨[],rfl,.nil _⟩
  ·rintro⟨hs,rfl,r⟩
   have:flags b but 0=[]:=rfl
   rw[this,run_nil]at r
   subst r
   exact⟨_,List.mem_singleton.2 rfl,rfl⟩
 |i+1,hi,hv=>by
  have hp:=pairs_pos (h.line (i:=i) (by omega))
  rw[flags_succ]
  have ih:=truth_run h but i (by omega)
  constructor
  ·rintro⟨t,ht,rfl⟩
   rw[truthsTo,List.mem_flatMap]at ht
   obtain⟨u,hu,ht⟩:=ht
   obtain⟨h',e,s⟩:=(mem_step hp t.haves).1 ⟨t,ht,rfl⟩
   obtain⟨hs,e2,r⟩:=(ih u.haves).1 ⟨u,hu,rfl⟩
   have hl:=r.len
   rw[flags,List.length_map,List.length_range]at hl
   refine⟨hs++ [h'],by rw[e,e2];rfl,(run_append _ _ _).2 ⟨hs,[h'],rfl,r,.cons ?_ (.nil _)⟩⟩
   rw[e2]at s
   unfold lastH;rw[hl];exact s
  ·rintro⟨hs,rfl,r⟩
   obtain⟨h1,h2,rfl,r1,r2⟩:=(run_append _ _ _).1 r
   obtain⟨h',r3,rfl,s,q⟩:=run_cons.1 r2
   rw[run_nil]at q
   subst q
   obtain⟨u,hu,e⟩:=(ih (firstH b::h1)).2 ⟨h1,rfl,r1⟩
   have hl:=r1.len
   rw[flags,List.length_map,List.length_range]at hl
   unfold lastH at s
   rw[hl,←e]at s
   obtain⟨t,ht,e3⟩:=(mem_step (b:=b) hp (u.haves++ [h'])).2 ⟨h',rfl,s⟩
   exact⟨t,by rw[truthsTo,List.mem_flatMap];exact⟨u,hu,ht⟩,by rw[e3,e];rfl⟩
def all0(l:List Line):List (Line × Bool):=l.map fun x=>(x,false)
theorem flags_all(b:Book):flags b [] b.lines.length=all0 b.lines:=by
 apply List.ext_getElem
 ·simp[flags,all0]
 ·intro i h1 h2
  have:i<b.lines.length:=by simpa[all0]using h2
  simp[flags,all0,hasN,List.getD_eq_getElem?_getD,this]
theorem truths_run{b:Book}(h:OkBook b)(hv:List (List Int)):(∃t∈truthsR b [],t.haves=hv)↔∃hs,hv=firstH b::hs∧Run (firstH b) (all0 b.lines) hs:=by
 rw[←flags_all];exact truth_run h [] _ (Nat.le_refl _) hv
theorem truth_hs{b:Book}(h:OkBook b){t:Truth}(ht:t∈truthsR b []):∃hs,t.haves=firstH b::hs∧Run (firstH b) (all0 b.lines) hs:=(truths_run h _).1 ⟨t,ht,rfl⟩
theorem hs_truth{b:Book}(h:OkBook b){hs:List (List Int)}(r:Run (firstH b) (all0 b.lines) hs):∃t∈truthsR b [],t.haves=firstH b::hs:=(truths_run h _).2 ⟨hs,rfl,r⟩
theorem run0_len{h:List Int}{L:List Line}{hs:List (List Int)}(r:Run h (all0 L) hs):hs.length=L.length:=by rw[r.len];simp[all0]
def atL(d:Int):List Int→List Line→List (List Int)→List Int
 |h,x::L,h'::hs=>if x.day≤d then atL d h' L hs else h
 |h,_,_=>h
theorem atL_split{d:Int}{B:List Line}(hB:∀x∈B,d<x.day):∀(A:List Line) (h:List Int) (hs:List (List Int)),(∀x∈A,x.day≤d)→A.length≤hs.length→atL d h (A++B) hs=(h::hs).getD A.length []
 |[],h,hs,_,_=>by
  cases B with
  |nil=>cases hs<;>rfl
  |cons x B=>
   cases hs with
   |nil=>rfl
   |cons h' hs=>
    have:=hB x (by simp)
    simp only[List.nil_append,atL]
    rw[if_neg (by omega)];rfl
 |x::A,h,[],_,hl=>by simp at hl
 |x::A,h,h'::hs,hA,hl=>by
  simp only[List.cons_append,atL]
  rw[if_pos (hA x (by simp)),atL_split hB A h' hs (fun y hy=>hA y (by simp[hy])) (by simpa using hl)]
  simp
def Sorted(l:List Line):Prop:=l.Pairwise fun x y=>x.day≤y.day
theorem sorted_split(d:Int):∀l:List Line,Sorted l→∃A B,l=A++B∧(∀x∈A,x.day≤d)∧∀x∈B,d<x.day
 |[],_=>⟨[],[],rfl,by simp,by simp⟩
 |x::l,h=>by
  obtain⟨h1,h2⟩:=List.pairwise_cons.1 h
  by_cases hx:x.day≤d
  ·obtain⟨A,B,e,hA,hB⟩:=sorted_split d l h2
   refine⟨x::A,B,by rw[e];rfl,fun y hy=> ?_,hB⟩
   rcases List.mem_cons.1 hy with rfl|q
   ·exact hx
   ·exact hA y q
  ·refine⟨[],x::l,rfl,by simp,fun y hy=> ?_⟩
   rcases List.mem_cons.1 hy with rfl|q
   ·omega
   ·have:=h1 y q;omega
theorem OkBook.sorted{b:Book}(h:OkBook b):Sorted b.lines:=by
 refine List.pairwise_iff_getElem.2 fun i j hi hj hij=> ?_
 have:=days_mono h (j-i) i (by omega)
 rw[show i+(j-i)=j by omega,List.getD_eq_getElem?_getD,List.getD_eq_getElem?_getD,List.getElem?_eq_getElem hi,List.getElem?_eq_getElem hj]at this
 exact this
theorem at_atL{b:Book}(h:OkBook b){t:Truth}{hs:List (List Int)}(ht:t.haves=firstH b::hs)(hl:hs.length=b.lines.length)(d:Int):atR b t d=atL d (firstH b) b.lines hs:=by
 obtain⟨A,B,e,hA,hB⟩:=sorted_split d b.lines h.sorted
 have hn:lineN b d=(A.length:Int):=by
  refine lineN_eq h (by rw[e];simp) (fun i hi=> ?_) (fun hn=> ?_)
  ·rw[e,List.getD_eq_getElem?_getD,List.getElem?_append_left hi,List.getElem?_eq_getElem hi]
   exact hA _ (List.getElem_mem hi)
  ·rw[e,List.length_append]at hn
   rw[e,List.getD_eq_getElem?_getD,List.getElem?_append_right (Nat.le_refl _),Nat.sub_self,List.getElem?_eq_getElem (by omega)]
   exact hB _ (List.getElem_mem (by omega))
 unfold atR
 rw[hn,ht,Int.toNat_natCast,e,atL_split hB A _ _ hA (by rw[hl,e,List.length_append];omega)]
def Sim(b b':Book)(D:Int→Prop):Prop:=∀t'∈truthsR b' [],∃t∈truthsR b [],∀d,D d→atR b' t' d=atR b t d
theorem sim_of{b b':Book}{D:Int→Prop}(h:OkBook b)(h':OkBook b')(hf:firstH b'=firstH b)(hr:∀hs',Run (firstH b) (all0 b'.lines) hs'→∃hs,Run (firstH b) (all0 b.lines) hs∧∀d,D d→atL d (firstH b) b'.lines hs'=atL d (firstH b) b.lines hs):Sim b b' D:=fun t' ht'=>by
 obtain⟨hs',e',r'⟩:=truth_hs h' ht'
 rw[hf]at r'
 obtain⟨hs,r,ha⟩:=hr hs' r'
 obtain⟨t,ht,e⟩:=hs_truth h r
 exact⟨t,ht,fun d hd=>by rw[at_atL h' e' (run0_len r') d,at_atL h e (run0_len r) d,hf];exact ha d hd⟩
theorem all0_append(l m:List Line):all0 (l++m)=all0 l++all0 m:=List.map_append
theorem atL_pre{d:Int}{B B':List Line}{hB hB':List (List Int)}:∀(A:List Line) (h:List Int) (hA:List (List Int)),hA.length=A.length→atL d (lastH h hA) B hB=atL d (lastH h hA) B' hB'→atL d h (A++B) (hA++hB)=atL d h (A++B') (hA++hB')
 |[],h,[],_,e=>e
 |[],h,_::_,hl,_=>by simp at hl
 |x::A,h,[],hl,_=>by simp at hl
 |x::A,h,h'::hA,hl,e=>by
  simp only[List.cons_append,atL]
  rw[lastH_cons]at e
  rw[atL_pre A h' hA (by simpa using hl) e]
theorem step_one{x:Line}{h h':List Int}:Step2 false x h h'↔Step1 x h h':=by unfold Step2;rw[if_neg (by decide)]
theorem step_swap{x:Line}(hk:x.kind≤2){h h':List Int}:Step1 x h h'↔∃p∈pairsR x,h'=swapR h p:=by
 unfold Step1 doneR
 have h3:¬x.kind=3:=by omega
 have h4:¬x.kind=4:=by omega
 simp only[h3,h4,if_false]
 constructor
 ·rintro⟨p,hp,e⟩;exact⟨p,hp,(Prod.ext_iff.1 e).1.symm⟩
 ·rintro⟨p,hp,rfl⟩;exact⟨p,hp,rfl⟩
theorem sim_apart{b b':Book}(h:OkBook b)(h':OkBook b')(hb:b'.bodies=b.bodies){A B:List Line}{x y:Line}(e:b.lines=A++x::B)(e':b'.lines=A++y::B)(hk:x.kind≤2)(hk':y.kind≤2)(hd:y.day=x.day)(hp:∀p∈pairsR y,p∈pairsR x):Sim b b' fun _=>True:=by
 refine sim_of h h' (by unfold firstH;rw[hb]) fun hs' r=> ?_
 rw[e',all0_append]at r
 obtain⟨hA,hB,rfl,r1,r2⟩:=(run_append _ _ _).1 r
 obtain⟨h1,hB,rfl,s,r3⟩:=run_cons.1 r2
 obtain⟨p,hp1,e3⟩:=(step_swap hk').1 (step_one.1 s)
 refine⟨hA++h1::hB,?_,fun d _=> ?_⟩
 ·rw[e,all0_append]
  exact(run_append _ _ _).2 ⟨hA,_,rfl,r1,.cons (step_one.2 ((step_swap hk).2 ⟨p,hp p hp1,e3⟩)) r3⟩
 ·rw[e,e']
  refine atL_pre A _ hA (run0_len r1) ?_
  simp only[atL,hd]
theorem outside_no{lo hi:Int}{l:List Int}(h:∀n∈l,lo≤n∧n≤hi):outside lo hi l=false:=by
 unfold outside
 cases e:l.any fun n=> !within n lo hi with
 |false=>rfl
 |true=>
  obtain⟨n,hn,q⟩:=List.any_eq_true.1 e
  rw[not_iff_false]at q
  have:=within_iff.2 (h n hn)
  rw[q]at this;cases this
theorem told_val{b:Book}(h:OkBook b){ns:List Int}(hn:∀n∈ns,0≤n∧n<b.bodies.length){d:Int}(hd:0≤d∧d≤364):toldR b ns d=if(truthsR b []).length=0 then([],8)else(truthsR b [],0):=by
 have e:toldE b ns d=0:=by
  unfold toldE
  rw[bookCheck_of h,if_neg (by decide),outside_no (fun n hm=>by have:=hn n hm;omega),if_neg (by decide),within_iff.2 hd,if_pos rfl]
 unfold toldR
 rw[e,if_neg (by decide)]
theorem told_zero{b:Book}(h:OkBook b){ns:List Int}(hn:∀n∈ns,0≤n∧n<b.bodies.length){d:Int}(hd:0≤d∧d≤364)(ht:0<(truthsR b []).length):(toldR b ns d).2=0:=by
 rw[told_val h hn hd,if_neg (by omega)]
theorem told_eight{b:Book}(h:OkBook b){ns:List Int}(hn:∀n∈ns,0≤n∧n<b.bodies.length){d:Int}(hd:0≤d∧d≤364)(ht:(truthsR b []).length=0):toldR b ns d=([],8):=by
 rw[told_val h hn hd,if_pos ht]
section
variable {b b':Book} {D:Int→Prop}
theorem Sim.pos(s:Sim b b' D)(h:0<(truthsR b' []).length):0<(truthsR b []).length:=by
 obtain⟨t,ht⟩:=List.exists_mem_of_length_pos h
 obtain⟨u,hu,_⟩:=s t ht
 exact List.length_pos_of_mem hu
theorem many_is{d:Int}(h0:(toldR b [] d).2=0):manyR b d=(((((truthsR b []).map fun t=>atR b t d).foldl metN []).length:Int),0):=by unfold manyR;rw[if_neg (fun q=>q h0)]
theorem mem_met{x:List Int}:∀ {l met:List (List Int)},x∈l.foldl metN met↔x∈met∨x∈l
 |[],met=>by simp
 |y::l,met=>by
  rw[List.foldl_cons,mem_met,List.mem_cons]
  unfold metN
  split
  ·rename_i q
   obtain⟨z,hz,e⟩:=List.any_eq_true.1 q
   have e:z=y:=by simpa[sameI]using e
   subst e
   constructor
   ·rintro(a|a)
    ·exact .inl a
    ·exact .inr (.inr a)
   ·rintro(a|rfl|a)
    ·exact .inl a
    ·exact .inl hz
    ·exact .inr a
  ·rw[List.mem_append,List.mem_singleton,or_assoc]
theorem met_nodup:∀ {l met:List (List Int)},met.Nodup→(l.foldl metN met).Nodup
 |[],_,h=>h
 |y::l,met,h=>by
  rw[List.foldl_cons]
  refine met_nodup ?_
  unfold metN
  split
  ·exact h
  ·rename_i q
   rw[List.nodup_append]
   refine⟨h,by simp,fun a ha c hc=> ?_⟩
   rw[List.mem_singleton.1 hc]
   intro e
   subst e
   exact q (List.any_eq_true.2 ⟨_,ha,by simp[sameI]⟩)
theorem met_le{l l':List (List Int)}(h:∀x∈l',x∈l):(l'.foldl metN []).length≤(l.foldl metN []).length:=
 nodup_len (met_nodup List.nodup_nil) fun x hx=>by
  rcases mem_met.1 hx with q|q
  ·exact absurd q List.not_mem_nil
  ·exact mem_met.2 (.inr (h x q))
theorem Sim.met(s:Sim b b' D){d:Int}(hd:D d):∀x∈(truthsR b' []).map (fun t=>atR b' t d),x∈(truthsR b []).map fun t=>atR b t d:=fun x hx=>by
 obtain⟨t,ht,rfl⟩:=List.mem_map.1 hx
 obtain⟨u,hu,e⟩:=s t ht
 exact List.mem_map.2 ⟨u,hu,(e d hd).symm⟩
theorem Sim.many(s:Sim b b' D){d:Int}(hd:D d)(h0:(toldR b [] d).2=0)(h0':(toldR b' [] d).2=0):(manyR b' d).1≤(manyR b d).1:=by
 rw[many_is h0,many_is h0']
 have:=met_le (s.met hd)
 simp only;omega
theorem many_pos{d:Int}(h:OkBook b)(h0:(toldR b [] d).2=0):1≤(manyR b d).1:=by
 obtain⟨_,_,_,ht,_⟩:=told_ok h0
 rw[many_is h0]
 obtain⟨t,ht⟩:=List.exists_mem_of_length_pos ht
 have:=List.length_pos_of_mem (mem_met.2 (.inr (List.mem_map.2 ⟨t,ht,rfl⟩)):atR b t d∈((truthsR b []).map fun t=>atR b t d).foldl metN [])
 simp only;omega
end
noncomputable section
def dayR(n:Int):Int:=n.tmod 365
theorem valid_ok{b:Book}(h:validR b=true):OkBook b:=okBook (by simpa[validR]using h)
inductive P41
 |e
inductive R41
 |r0 (r0:Int)
noncomputable def T41(n:Int):P41→Tr P41 R41
 |.e=>(.need (inR .i64 n) (.need (decide ((365:Int)≠0)) (.out (.r0 (n.tmod (365:Int))))))
noncomputable def g41(n:Int):P41→List Item × St
 |.e=>bd Tryz.f41 [.int .u16 n] 5
noncomputable def n41:R41→Exit × St
 |.r0 r0=>(.ret,⟨mk 6 [(2,iI r0)],[],[]⟩)
noncomputable def v41:R41→V
 |.r0 r0=>iI r0
theorem s41(n:Int):Sm 0 (g41 n) (T41 n) (n41)
 |.e=>⟨400,by kernel_rfl⟩
theorem q41:∀r,bodyQ Tryz.prog Tryz.f41 (·=v41 r) (n41 r).1 (n41 r).2
 |.r0 r0=>bq (iI r0) (by kernel_rfl)
theorem w41(n:Int){post:V→Prop}(h:WQ (T41 n) v41 post .e):PC 41 [.int .u16 n] post:=
 PCalls.wq Tryz.func41 (s41 n) q41 h
theorem c41(n:Int)(h:inR .i64 n=true):PC 41 [.int .u16 n] (·=iI (dayR n)):=by
 refine w41 n (WP.step ?_)
 simp only[T41,Go,Ends',v41,Tr.sure,SS]
 repeat' with_reducible first|intro _|apply And.intro
 all_goals simp[h,dayR,Go,Ends',v41,-List.getD_eq_getElem?_getD, *]
end
noncomputable section
theorem which_in{w:Int}{n:Nat}(hw:0≤w)(hn:0<n):0≤w.tmod (n:Int)∧w.tmod (n:Int)<(n:Int):=by
 rw[Int.tmod_eq_emod_of_nonneg hw]
 exact⟨Int.emod_nonneg _ (by omega),Int.emod_lt_of_pos _ (by omega)⟩
theorem day_in{w:Int}(hw:0≤w):0≤dayR w∧dayR w≤364:=by
 have:=which_in (n:=365) hw (by decide)
 unfold dayR
 have e:((365:Nat):Int)=365:=rfl
 rw[e]at this
 omega
theorem many_bad{b:Book}{d:Int}(h:(toldR b [] d).2≠0):manyR b d=(0,(toldR b [] d).2):=by unfold manyR;rw[if_pos h]
end
noncomputable section
def isSome2(x:Line):Bool:=decide (x.kind=2)
structure OkLs(n:Nat)(l:List Line):Prop where
 len:l.length≤8
 ok:∀x∈l,OkLine n x
 srt:Sorted l
 some:l.countP isSome2≤2
theorem someTo_count(l:List Line):∀n,n≤l.length→someTo l n=((l.take n).countP isSome2:Int)
 |0,_=>by simp[someTo,natF]
 |n+1,hn=>by
  have e:someTo l (n+1)=if(l.getD n zLine).kind=2 then someTo l n+1 else someTo l n:=rfl
  rw[e,someTo_count l n (by omega),take_snoc zLine l n hn,List.countP_append,List.countP_singleton]
  unfold isSome2
  by_cases q:(l.getD n zLine).kind=2
  ·rw[if_pos q,if_pos (decide_eq_true q)];omega
  ·rw[if_neg q,if_neg (by simpa using q)];omega
theorem okLs{b:Book}(h:OkBook b):OkLs b.bodies.length b.lines:=by
 refine⟨h.nl,fun x hx=> ?_,h.sorted,?_⟩
 ·obtain⟨i,hi,rfl⟩:=mem_getD zLine hx;exact h.line hi
 ·have key:∀n,n≤b.lines.length→someTo b.lines n≤2:=by
   intro n
   induction n with
   |zero=>intro _;show(0:Int)≤2;decide
   |succ n ih=>
    intro hn
    have e:someTo b.lines (n+1)=if(b.lines.getD n zLine).kind=2 then someTo b.lines n+1 else someTo b.lines n:=rfl
    by_cases q:(b.lines.getD n zLine).kind=2
    ·exact(line_iff.1 (h.lineE n (by omega))).2.2 q
    ·rw[e,if_neg q];exact ih (by omega)
  have:=key _ (Nat.le_refl _)
  rw[someTo_count _ _ (Nat.le_refl _),List.take_length]at this
  omega
theorem okBook_of{b b':Book}(h:OkBook b)(hb:b'.bodies=b.bodies)(hh:b'.heads=b.heads)(hl:OkLs b.bodies.length b'.lines):OkBook b':=by
 refine⟨by rw[hb];exact h.nb,by rw[hb,hh];exact h.nh,hl.len,?_,?_,fun i hi=> ?_⟩
 ·rw[hb];exact h.body
 ·rw[hh];exact h.head
 ·refine line_iff.2 ⟨by rw[hb];exact hl.ok _ (getD_mem zLine _ i hi),fun h0=> ?_,fun _=> ?_⟩
  ·rw[List.getD_eq_getElem?_getD,List.getD_eq_getElem?_getD,List.getElem?_eq_getElem hi,List.getElem?_eq_getElem (by omega)]
   exact List.pairwise_iff_getElem.1 hl.srt (i-1) i (by omega) hi (by omega)
  ·rw[someTo_count _ _ (by omega)]
   have h1:=List.Sublist.countP_le (p:=isSome2) (List.take_sublist (i+1) b'.lines)
   have h2:=hl.some
   omega
end
noncomputable section
def iA(b:Book)(x:Nat→Int):Int:=(x 0).tmod (b.lines.length:Int)
def oA(b:Book)(x:Nat→Int):Line:=b.lines.getD (iA b x).toNat zLine
def kA(b:Book)(x:Nat→Int):Int:=(x 1).tmod ((pairsR (oA b x)).length:Int)
def pA(b:Book)(x:Nat→Int):Pair:=(pairsR (oA b x)).getD (kA b x).toNat zPair
def sA(b:Book)(x:Nat→Int):Line:=⟨(oA b x).day,0,(pA b x).a,(pA b x).b,0,0,0⟩
def lA(b:Book)(x:Nat→Int):List Line:=b.lines.set (iA b x).toNat (sA b x)
def zA(b:Book)(x:Nat→Int):Book:=⟨b.bodies,b.heads,lA b x⟩
inductive P15
 |e
inductive R15
 |r0 (r0:Bool)
noncomputable def T15(b:Book)(x:Nat→Int)(y:Int):P15→Tr P15 R15
 |.e=>let c1:Tr P15 R15:=.call 21 [] (.bool true) true true (.out (.r0 true));let c2:=manyR (zA b x) (dayR y);let c3:=(0+b.lines.length)≤(0+b.lines.length);let c4:=((tLine.cells (sA b x)):List V);let c5:Tr P15 R15:=.lit false (.out (.r0 false));let c6:=manyR b (dayR y);let c7:=rowsOf tLine (lA b x);let c8:=rowsOf tLine b.lines;let c9:=(b.lines.length:Int);let c10:=(((pairsR (oA b x)).length):Int);let c11:V:=.list 7 (0+b.lines.length) c7;let c12:Tr P15 R15:=.lit false c5;(.call 39 [.agg (tBook.cells b)] (.bool (validR b)) true true (.br (!(validR b)) (.lit true c1) (.br (c9==(0:Int)) c1 (.need (decide (0≤(0:Int))&&decide ((0:Int)<(2:Int))) (.need (decide (((0:Int)).toNat<2)&&decide (0<1)) (.need (inR .i64 (x (((0:Int)).toNat))) (.need (decide (c9≠0)) (.need (decide (0≤(iA b x))&&decide ((iA b x)<c9)) (.br (decide ((oA b x).kind>(2:Int))) c1 (.call 56 [.agg (tLine.cells (oA b x))] (tPair.lst (pairsR (oA b x))) true true (.need (decide (0≤(1:Int))&&decide ((1:Int)<(2:Int))) (.need (decide (((1:Int)).toNat<2)&&decide (0<1)) (.need (inR .i64 (x (((1:Int)).toNat))) (.need (decide (c10≠0)) (.need (decide (0≤(kA b x))&&decide ((kA b x)<c10)) (.need ((decide (0=0)&&decide (0+b.lines.length≤4294967296))&&true) (.scal (fun r=>(List.range 7).all fun j=>(c8 r j).scalar) (.telb 5 7 (0+b.lines.length) (appC 0 (litC 7 0 []) c8) c8 (.need ((decide (0≤(iA b x))&&decide ((iA b x)<((0+b.lines.length):Int)))&&decide c3) (.need ((decide (((iA b x)).toNat<(0+b.lines.length))&&decide (0+c4.length≤7))&&underL 0 c4) (.telb 5 7 (0+b.lines.length) (fun r' j=>if r'=((iA b x)).toNat∧0≤j∧j<0+c4.length then c4.getD (j-0) uU else c8 r' j) c7 (.wait 1 (.frz 5 (((decide c3)&&((decide c3)&&true))&&(((decide c3)&&true)&&true)) (.vle 57 c11 (tLine.lst (lA b x)) (.vle 60 c11 (tLine.lst (lA b x)) (.telc 4 [tBody.lst b.bodies,tstr.lst b.heads,.list 7 (0+b.lines.length) c7] [tBody.lst b.bodies,tstr.lst b.heads,tLine.lst (lA b x)] (.front [(2,41,[.int .u16 y],iI (dayR y)),(3,27,[.agg (tBook.cells b),iI (dayR y)],.tuple [iI (c6.1),iI (c6.2)])] [] true true (.front [(2,41,[.int .u16 y],iI (dayR y)),(3,27,[.agg (tBook.cells (zA b x)),iI (dayR y)],.tuple [iI (c2.1),iI (c2.2)])] [] true true (.br (c2.2 !=(0:Int)) (.br (c2.2==(8:Int)) (.br (c2.1==(0:Int)) (.br (c6.2==(0:Int)) (.lit true (.lit true c1)) (.lit true (.br (c6.2==c2.2) c1 (.out (.r0 false))))) c12) (.lit false c12)) (.br (c6.2==(0:Int)) (.br (decide (c2.1≤c6.1)) (.br (decide (c2.1≥(1:Int))) c1 (.out (.r0 false))) c5) c12))))))))))))))))))))))))))))))
noncomputable def g15(b:Book)(x:Nat→Int)(y:Int):P15→List Item × St
 |.e=>bd Tryz.f15 [.agg (tBook.cells b),.arr 1 2 (rowsFn tu8 x),.int .u16 y] 115
noncomputable def n15:R15→Exit × St
 |.r0 r0=>(.ret,⟨mk 118 [(6,.bool r0)],[],[]⟩)
noncomputable def v15:R15→V
 |.r0 r0=>.bool r0
theorem s15(b:Book)(x:Nat→Int)(y:Int):Sm 0 (g15 b x y) (T15 b x y) (n15)
 |.e=>⟨400,by kernel_rfl⟩
theorem q15:∀r,bodyQ Tryz.prog Tryz.f15 (·=v15 r) (n15 r).1 (n15 r).2
 |.r0 r0=>bq (.bool r0) (by kernel_rfl)
theorem w15(b:Book)(x:Nat→Int)(y:Int){post:V→Prop}(h:WQ (T15 b x y) v15 post .e):PC 15 [.agg (tBook.cells b),.arr 1 2 (rowsFn tu8 x),.int .u16 y] post:=
 PCalls.wq Tryz.func15 (s15 b x y) q15 h
theorem OkLs.swap{n:Nat}{A B:List Line}{x y:Line}(h:OkLs n (A++x::B))(hy:OkLine n y)(hk:y.kind≠2)(hd:y.day=x.day):OkLs n (A++y::B):=by
 refine⟨by have:=h.len;simp at this⊢;omega,fun z hz=> ?_,?_,?_⟩
 ·rcases List.mem_append.1 hz with q|q
  ·exact h.ok z (List.mem_append_left _ q)
  ·rcases List.mem_cons.1 q with rfl|q
   ·exact hy
   ·exact h.ok z (List.mem_append_right _ (List.mem_cons_of_mem _ q))
 ·obtain⟨h1,h2,h3⟩:=List.pairwise_append.1 h.srt
  obtain⟨h4,h5⟩:=List.pairwise_cons.1 h2
  refine List.pairwise_append.2 ⟨h1,List.pairwise_cons.2 ⟨fun z hz=>by rw[hd];exact h4 z hz,h5⟩,fun a ha z hz=> ?_⟩
  rcases List.mem_cons.1 hz with rfl|q
  ·rw[hd];exact h3 a ha x (by simp)
  ·exact h3 a ha z (by simp[q])
 ·have:=h.some
  rw[List.countP_append]at this⊢
  have e:(y::B).countP isSome2=B.countP isSome2:=List.countP_cons_of_neg (by unfold isSome2;simpa using hk)
  have e2:B.countP isSome2≤(x::B).countP isSome2:=List.Sublist.countP_le (List.sublist_cons_self _ _)
  rw[e];omega
theorem apart_law{b:Book}(h:OkBook b){x:Nat→Int}(hi:0≤iA b x∧iA b x<b.lines.length)(hk:(oA b x).kind≤2)(hp:0≤kA b x∧kA b x<(pairsR (oA b x)).length){d:Int}(hd:0≤d∧d≤364):
  ((manyR (zA b x) d)=(0,8)∧((manyR b d).2=0∨(manyR b d).2=8))∨((manyR (zA b x) d).2=0∧(manyR b d).2=0∧(manyR (zA b x) d).1≤(manyR b d).1∧1≤(manyR (zA b x) d).1):=by
 have hil:(iA b x).toNat<b.lines.length:=by omega
 have hox:=h.line hil
 have hpm:pA b x∈pairsR (oA b x):=getD_mem zPair _ _ (by omega)
 have hin:=pairs_in (x:=oA b x) hox hpm hk
 have e:b.lines=b.lines.take (iA b x).toNat++oA b x::b.lines.drop ((iA b x).toNat+1):=by
  have:=drop_cons zLine b.lines (iA b x).toNat hil
  conv=>lhs;rw[←List.take_append_drop (iA b x).toNat b.lines,this]
  rfl
 have e':(zA b x).lines=b.lines.take (iA b x).toNat++sA b x::b.lines.drop ((iA b x).toNat+1):=by
  show b.lines.set (iA b x).toNat (sA b x)=_
  rw[List.set_eq_take_append_cons_drop,if_pos hil]
 have hs:OkLine b.bodies.length (sA b x):=by
  refine⟨hox.day,by show(0:Int)≤0∧(0:Int)≤4;decide,fun _=>⟨⟨hin.1,by show(pA b x).a<_;omega⟩,by show 0≤(pA b x).b;omega,hin.2.2⟩,fun q=>absurd q (show¬(0:Int)=1 by decide),fun _=>by show(pA b x).a≠(pA b x).b;omega,fun q=>absurd q (show¬(0:Int)=2 by decide),fun _=>rfl,fun _ _=>⟨rfl,rfl⟩⟩
 have hls:=okLs h
 rw[e]at hls
 have h':OkBook (zA b x):=okBook_of (b:=b) h rfl rfl (by rw[e'];exact hls.swap hs (show¬(0:Int)=2 by decide) rfl)
 have hpp:pairsR (sA b x)=[pA b x]:=by
  have:pairsR (sA b x)=[pairR (pA b x).a (pA b x).b]:=by unfold pairsR;rw[if_pos (show(sA b x).kind=0 from rfl)];rfl
  rw[this]
  unfold pairR
  rw[show min (pA b x).a (pA b x).b=(pA b x).a by omega,show max (pA b x).a (pA b x).b=(pA b x).b by omega]
 have s:=sim_apart (b:=b) (b':=zA b x) h h' rfl e e' hk (show(0:Int)≤2 by decide) rfl fun p hp=>by
  rw[hpp,List.mem_singleton]at hp;rw[hp];exact hpm
 by_cases ht:(truthsR (zA b x) []).length=0
 ·left
  have e1:=told_eight h' (ns:=[]) (by simp) hd ht
  refine⟨?_,?_⟩
  ·have:=many_bad (b:=zA b x) (d:=d) (by rw[e1];decide)
   rw[e1]at this;exact this
  ·by_cases hb:(truthsR b []).length=0
   ·right
    have e2:=told_eight h (ns:=[]) (by simp) hd hb
    have:=many_bad (b:=b) (d:=d) (by rw[e2];decide)
    rw[e2]at this;rw[this]
   ·left;rw[many_is (told_zero h (ns:=[]) (by simp) hd (by omega))]
 ·right
  have z':=told_zero h' (ns:=[]) (by simp) hd (by omega)
  have z:=told_zero h (ns:=[]) (by simp) hd (s.pos (by omega))
  exact⟨by rw[many_is z'],by rw[many_is z],s.many trivial z z',many_pos h' z'⟩
set_option maxHeartbeats 4000000 in
theorem c15(b:Book)(x:Nat→Int)(y:Int)(hx:∀i,i<2→0≤x i∧x i≤255)(hy:0≤y∧y≤65535):PC 15 [.agg (tBook.cells b),.arr 1 2 (rowsFn tu8 x),.int .u16 y] (·=.bool true):=by
 have x0:=hx 0 (by omega)
 have x1:=hx 1 (by omega)
 have r0:inR .i64 (x 0)=true:=inR64 (by omega) (by omega)
 have r1:inR .i64 (x 1)=true:=inR64 (by omega) (by omega)
 have q0:inR .i64 y=true:=inR64 (by omega) (by omega)
 have k41:=c41 y q0
 have k39:=c39 b
 by_cases hv:validR b=true
 ·have hok:=valid_ok hv
  rw[hv]at k39
  have hnl:=hok.nl
  by_cases hl:b.lines.length=0
  ·have hl':((b.lines.length:Int)==0)=true:=by simp[hl]
   refine w15 b x y (WP.step ?_)
   simp only[T15,Go,Ends',v15,Tr.sure,SS,hv,hl']
   repeat' with_reducible first|intro _|apply And.intro
   all_goals first|exact k39|exact c21
  ·have hl':((b.lines.length:Int)==0)=false:=beq_eq_false_iff_ne.2 (by omega)
   have z1:¬(b.lines.length:Int)=0:=by omega
   have hi:0≤iA b x∧iA b x<b.lines.length:=which_in x0.1 (by omega)
   have hil:(iA b x).toNat<b.lines.length:=by omega
   have hox:OkLine b.bodies.length (oA b x):=hok.line hil
   by_cases hk:(oA b x).kind>2
   ·refine w15 b x y (WP.step ?_)
    simp only[T15,Go,Ends',v15,Tr.sure,SS,hv,hl',hk,i0]
    repeat' with_reducible first|intro _|apply And.intro
    all_goals first|exact k39|exact c21|(simp[r0,z1,hi,Go,Ends',v15,-List.getD_eq_getElem?_getD, *];done)
   ·have hpos:=pairs_pos hox
    have z2:¬((pairsR (oA b x)).length:Int)=0:=by omega
    have hp:0≤kA b x∧kA b x<(pairsR (oA b x)).length:=which_in x1.1 (by omega)
    have hD:=day_in hy.1
    have k56:=c56 (oA b x)
    have k27:=c27 b (dayR y)
    have k27z:=c27 (zA b x) (dayR y)
    have hle:0+b.lines.length≤4294967296:=by omega
    have i4:(tLine.cells (sA b x)).length=7:=rfl
    have i5:underL 0 (tLine.cells (sA b x))=true:=rfl
    have hr:∀r j,VLe (appC 0 (litC 7 0 []) (rowsOf tLine b.lines) r j) (rowsOf tLine b.lines r j):=fun r j=>VLe.app0 r j
    have hset:∀r j,r<0+b.lines.length→j<7→VLe (if r=(iA b x).toNat∧0≤j∧j<0+(tLine.cells (sA b x)).length then(tLine.cells (sA b x)).getD (j-0) uU else rowsOf tLine b.lines r j) (rowsOf tLine (lA b x) r j):=fun r j hr hj=>tel_set tLine b.lines (iA b x).toNat (sA b x) _ rfl rfl (Nat.zero_add _) r j hr hj
    have hll:0+b.lines.length=(lA b x).length:=by unfold lA;simp
    have hlst:VLe (.list 7 (0+b.lines.length) (rowsOf tLine (lA b x))) (tLine.lst (lA b x)):=by rw[hll];exact VLe.refl _
    have hat:∀j,VLe (([tBody.lst b.bodies,tstr.lst b.heads,.list 7 (0+b.lines.length) (rowsOf tLine (lA b x))]:List V).getD j uU) (([tBody.lst b.bodies,tstr.lst b.heads,tLine.lst (lA b x)]:List V).getD j uU):=fun j=>VLe.at hlst [tBody.lst b.bodies,tstr.lst b.heads] [] j
    have i6:(0:Int)+(b.lines.length:Int)=b.lines.length:=Int.zero_add _
    rcases apart_law hok hi (by omega) hp hD with⟨w1,w2⟩|⟨w1,w2,w3,w4⟩
    ·rw[w1]at k27z
     rcases w2 with w2|w2
     ·rw[w2]at k27
      refine w15 b x y (WP.step ?_)
      simp only[T15,Go,Ends',v15,Tr.sure,SS,hv,hl',hk,i0,i1,w1,w2,i6]
      repeat' with_reducible first|intro _|apply And.intro
      all_goals first|exact k39|exact k27|exact k27z|exact k41|exact k56|exact(hr _ _)|exact(hset _ _ (by with_reducible assumption) (by with_reducible assumption))|exact hlst|exact(hat _)|exact c21|(simp[r0,r1,q0,z1,z2,hi,hil,hp,hle,i4,i5,Go,Ends',v15,-List.getD_eq_getElem?_getD, *];done)|(simp_all [r0,r1,q0,z1,z2,hi,hil,hp,hle,i4,i5,Go,Ends',v15,-List.getD_eq_getElem?_getD];done)|skip
      all_goals exact rfl
     ·rw[w2]at k27
      refine w15 b x y (WP.step ?_)
      simp only[T15,Go,Ends',v15,Tr.sure,SS,hv,hl',hk,i0,i1,w1,w2,i6]
      repeat' with_reducible first|intro _|apply And.intro
      all_goals first|exact k39|exact k27|exact k27z|exact k41|exact k56|exact(hr _ _)|exact(hset _ _ (by with_reducible assumption) (by with_reducible assumption))|exact hlst|exact(hat _)|exact c21|(simp[r0,r1,q0,z1,z2,hi,hil,hp,hle,i4,i5,Go,Ends',v15,-List.getD_eq_getElem?_getD, *];done)|(simp_all [r0,r1,q0,z1,z2,hi,hil,hp,hle,i4,i5,Go,Ends',v15,-List.getD_eq_getElem?_getD];done)|skip
      all_goals exact rfl
    ·rw[w1]at k27z
     rw[w2]at k27
     have w4':(manyR (zA b x) (dayR y)).1≥1:=w4
     refine w15 b x y (WP.step ?_)
     simp only[T15,Go,Ends',v15,Tr.sure,SS,hv,hl',hk,i0,i1,w1,w2,w3,w4',i6]
     repeat' with_reducible first|intro _|apply And.intro
     all_goals first|exact k39|exact k27|exact k27z|exact k41|exact k56|exact(hr _ _)|exact(hset _ _ (by with_reducible assumption) (by with_reducible assumption))|exact hlst|exact(hat _)|exact c21|(simp[r0,r1,q0,z1,z2,hi,hil,hp,hle,i4,i5,Go,Ends',v15,-List.getD_eq_getElem?_getD, *];done)|(simp_all [r0,r1,q0,z1,z2,hi,hil,hp,hle,i4,i5,Go,Ends',v15,-List.getD_eq_getElem?_getD];done)|skip
     all_goals exact rfl
 ·have hv':validR b=false:=by simpa using hv
  rw[hv']at k39
  refine w15 b x y (WP.step ?_)
  simp only[T15,Go,Ends',v15,Tr.sure,SS,hv']
  repeat' with_reducible first|intro _|apply And.intro
  all_goals first|exact k39|exact c21
end
end Go.Proofs.YtemgodefhcbleaaGreat
