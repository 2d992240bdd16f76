/-
  Part of the proof of the Head laws. Conditions: those that stand in each theorem.
-/
import Derived.Laws.Strings
import Derived.Laws.RangeAny
import Derived.Test.YtemgodefhcbleaaGreatB08
set_option linter.unusedSimpArgs false
set_option linter.unusedVariables false
set_option maxRecDepth 100000
namespace Go.Proofs.YtemgodefhcbleaaGreat
open Ab Go
noncomputable section
theorem same_iff{a b:ByteArray}:same a b=true↔a=b:=by
 unfold same;rw[beq_iff_eq];exact⟨ba_inj,fun h=>by rw[h]⟩
theorem toList_beq{a b:ByteArray}:(a.toList==b.toList)=decide (a=b):=by
 rw[Bool.eq_iff_iff,beq_iff_eq,decide_eq_true_eq];exact⟨ba_inj,fun h=>by rw[h]⟩
theorem told_ok{b:Book}{ns:List Int}{day:Int}(h:(toldR b ns day).2=0):OkBook b∧(∀n∈ns,0≤n∧n<b.bodies.length)∧(0≤day∧day≤364)∧0<(truthsR b []).length∧(toldR b ns day).1=truthsR b []:=by
 unfold toldR at h⊢
 by_cases h1:toldE b ns day=0
 ·rw[if_neg (fun q=>q h1)]at h⊢
  by_cases h2:(truthsR b []).length=0
  ·rw[if_pos h2]at h;cases h
  ·rw[if_neg h2]
   unfold toldE at h1
   by_cases g1:(bookCheck b).2.2=0
   ·rw[if_neg (fun q=>q g1)]at h1
    by_cases g2:outside 0 ((b.bodies.length:Int)-1) ns=true
    ·rw[if_pos g2]at h1;cases h1
    ·rw[if_neg g2]at h1
     by_cases g3:within day 0 364=true
     ·refine⟨okBook g1,fun n hn=> ?_,within_iff.1 g3,by omega,rfl⟩
      simp only[outside,List.any_eq_true,not_exists,not_and,not_iff_false,Bool.not_eq_false]at g2
      have:=within_iff.1 (g2 n hn);omega
     ·rw[if_neg g3]at h1;cases h1
   ·rw[if_pos g1]at h1;exact absurd h1 g1
 ·rw[if_pos h1]at h;exact absurd h h1
def namedTo(x:Body)(day:Int)(i:Nat):ByteArray:=natF (fun i s=>if(x.shown.getD i zShown).day≤day then(x.shown.getD i zShown).as_ else s) ByteArray.empty i
theorem bodyOf_in{l:List Int}{n:Int}(h:n∈l):0≤bodyOf l n∧bodyOf l n<l.length∧l.getD (bodyOf l n).toNat 0=n:=by
 have key:∀(l:List Int) (i:Nat),n∈l→∃j,firstI (fun x=>x==n) i l=some (i+j)∧j<l.length∧l.getD j 0=n:=by
  intro l
  induction l with
  |nil=>intro i hm;simp at hm
  |cons x l ih=>
   intro i hm
   simp only[firstI]
   by_cases e:x=n
   ·subst e;exact⟨0,by simp,by simp,rfl⟩
   ·have hx:(x==n)=false:=by simpa using e
    simp only[hx,Bool.false_eq_true,if_false]
    obtain⟨j,h1,h2,h3⟩:=ih (i+1) (by rcases List.mem_cons.1 hm with q|q;exact absurd q.symm e;exact q)
    exact⟨j+1,by rw[h1];congr 1;omega,by simpa using h2,h3⟩
 obtain⟨j,h1,h2,h3⟩:=key l 0 h
 have e:bodyOf l n=(j:Int):=by unfold bodyOf;rw[h1];simp
 rw[e]
 exact⟨by omega,by omega,by rw[Int.toNat_natCast];exact h3⟩
theorem shown_iff{l:List Shown}:shownErr l=0↔l.length≤3∧∀i,i<l.length→shownAt l i (l.getD i zShown)=0:=by
 unfold shownErr firstR
 constructor
 ·intro h
  split at h
  ·cases h
  rename_i g
  refine⟨by omega,fun i hi=> ?_⟩
  split at h
  ·rename_i j e he
   simp only at h
   exact absurd h (firstE_ne he)
  ·rename_i he
   have:=firstE_none_at zShown he i hi
   rwa[Nat.zero_add]at this
 ·rintro⟨h1,h2⟩
  rw[if_neg (by omega)]
  split
  ·rename_i j e he
   exfalso
   have:∀(m:List Shown) (i:Nat),firstE (shownAt l) i m=some (j,e)→∃k,k<m.length∧j=i+k∧shownAt l j (m.getD k zShown)=e∧e≠0:=by
    intro m
    induction m with
    |nil=>intro i q;simp[firstE]at q
    |cons x m ih=>
     intro i q
     simp only[firstE]at q
     split at q
     ·obtain⟨k,k1,k2,k3⟩:=ih (i+1) q
      exact⟨k+1,by simpa using k1,by omega,k3⟩
     ·rename_i hne
      simp only[Option.some.injEq,Prod.mk.injEq]at q
      obtain⟨rfl,rfl⟩:=q
      exact⟨0,by simp,by omega,rfl,hne⟩
   obtain⟨k,k1,k2,k3,k4⟩:=this l 0 he
   rw[Nat.zero_add]at k2;subst k2
   rw[h2 j k1]at k3;exact k4 k3.symm
  ·rfl
theorem OkBook.shown{b:Book}(h:OkBook b){i:Nat}(hi:i<b.bodies.length):shownErr (b.bodies.getD i zBody).shown=0:=by
 have:=h.body i hi
 unfold bodyAt at this
 split at this
 ·rename_i g;exact absurd this g
 ·exact this
end
noncomputable section
def picks(below:Int):Nat→List (List Int)
 |0=>[[]]
 |n+1=>(picks below n).flatMap fun l=>(List.range (below-((if l.length=0 then-1 else l.getD (l.length-1) 0)+1)).toNat).map fun(k:Nat)=>l++ [(if l.length=0 then-1 else l.getD (l.length-1) 0)+1+(k:Int)]
def lastI(l:List Int):Int:=if l.length=0 then-1 else l.getD (l.length-1) 0
def pickF(b:Int)(l:List Int):List (List Int):=(List.range (b-(lastI l+1)).toNat).map fun(k:Nat)=>l++ [lastI l+1+(k:Int)]
theorem picks_succ(b:Int)(n:Nat):picks b (n+1)=(picks b n).flatMap (pickF b):=rfl
theorem lastI_mem{l:List Int}(h:l≠ []):lastI l∈l:=by
 have:l.length≠0:=by simpa using h
 rw[lastI,if_neg this,List.getD_eq_getElem?_getD,List.getElem?_eq_getElem (by omega)];exact List.getElem_mem _
structure Pick(b:Int)(n:Nat)(l:List Int):Prop where
 len:l.length=n
 asc:l.Pairwise (·<·)
 lo:∀x∈l,0≤x
 hi:∀x∈l,x<b
theorem Pick.last{b:Int}{n:Nat}{l:List Int}(h:Pick b n l): -1≤lastI l:=by
 by_cases e:l=[]
 ·subst e;decide
 ·have:=h.lo _ (lastI_mem e);omega
theorem le_last{l:List Int}(h:l.Pairwise (·<·)):∀x∈l,x≤lastI l:=by
 intro x hx
 obtain⟨i,hi,rfl⟩:=List.getElem_of_mem hx
 have hn:l.length≠0:=by omega
 rw[lastI,if_neg hn,List.getD_eq_getElem?_getD,List.getElem?_eq_getElem (show l.length-1<l.length by omega),Option.getD_some]
 rcases Nat.lt_or_ge i (l.length-1)with q|q
 ·exact Int.le_of_lt (List.pairwise_iff_getElem.1 h i (l.length-1) hi (by omega) q)
 ·have:i=l.length-1:=by omega
  subst this;exact Int.le_refl _
theorem mem_pickF{b:Int}{l m:List Int}:m∈pickF b l↔∃x,lastI l<x∧x<b∧m=l++ [x]:=by
 simp only[pickF,List.mem_map,List.mem_range]
 constructor
 ·rintro⟨k,hk,rfl⟩;exact⟨_,by omega,by omega,rfl⟩
 ·rintro⟨x,h1,h2,rfl⟩;exact⟨(x-(lastI l+1)).toNat,by omega,by congr 2;omega⟩
theorem picks_ok(b:Int):∀(n:Nat) (l:List Int),l∈picks b n↔Pick b n l
 |0,l=>by
  simp only[picks,List.mem_singleton]
  exact⟨fun h=>by subst h;exact⟨rfl,.nil,by simp,by simp⟩,fun h=>List.eq_nil_of_length_eq_zero h.len⟩
 |n+1,l=>by
  rw[picks_succ,List.mem_flatMap]
  constructor
  ·rintro⟨m,hm,hl⟩
   obtain⟨x,h1,h2,rfl⟩:=mem_pickF.1 hl
   have hp:=(picks_ok b n m).1 hm
   refine⟨by simp[hp.len],?_,fun y hy=> ?_,fun y hy=> ?_⟩
   ·rw[List.pairwise_append]
    exact⟨hp.asc,by simp,fun a ha c hc=>by simp only[List.mem_singleton]at hc;subst hc;have:=le_last hp.asc a ha;omega⟩
   ·rcases List.mem_append.1 hy with q|q
    ·exact hp.lo y q
    ·simp only[List.mem_singleton]at q;subst q;have:=hp.last;omega
   ·rcases List.mem_append.1 hy with q|q
    ·exact hp.hi y q
    ·simp only[List.mem_singleton]at q;subst q;exact h2
  ·intro h
   have hne:l≠ []:=by intro e;subst e;have:=h.len;simp at this
   obtain⟨m,x,rfl⟩:∃m x,l=m++ [x]:=⟨l.dropLast,l.getLast hne,(List.dropLast_concat_getLast hne).symm⟩
   have hp:=List.pairwise_append.1 h.asc
   have hm:Pick b n m:=⟨by have:=h.len;simp at this;exact this,hp.1,fun y hy=>h.lo y (List.mem_append_left _ hy),fun y hy=>h.hi y (List.mem_append_left _ hy)⟩
   refine⟨m,(picks_ok b n m).2 hm,mem_pickF.2 ⟨x,?_,h.hi x (by simp),rfl⟩⟩
   by_cases e:m=[]
   ·subst e
    have:=h.lo x (by simp)
    simp[lastI];omega
   ·exact hp.2.2 _ (lastI_mem e) x (by simp)
inductive P20
 |e
 |l0 (x0_5:Bool) (x0_6:Int)
inductive R20
 |r0 (r0:Bool)
noncomputable def T20(l:List Pair)(m:List Pair):P20→Tr P20 R20
 |.e=>(.go (.l0 ((l.length:Int)==(m.length:Int)) 0))
 |.l0 x0_5 x0_6=>let c1:=m.getD (x0_6).toNat tPair.zero;let c2:=l.getD (x0_6).toNat tPair.zero;(.br x0_5 (.br (decide (x0_6<(l.length:Int))) (.front [] [] (((decide (0≤x0_6)&&decide (x0_6<(l.length:Int)))&&((decide (0≤x0_6)&&decide (x0_6<(m.length:Int)))&&true))&&true) true (.need (inR .i64 (x0_6+(1:Int))) (.go (.l0 ((c2.a==c1.a)&&((c2.b==c1.b)&&true)) (x0_6+(1:Int)))))) (.out (.r0 x0_5))) (.lit false (.out (.r0 x0_5))))
noncomputable def g20(l:List Pair)(m:List Pair):P20→List Item × St
 |.e=>bd Tryz.f20 [tPair.lst l,tPair.lst m] 29
 |.l0 x0_5 x0_6=>(cutOf Tryz.f20 0,⟨mk 31 [(0,tPair.lst l),(1,tPair.lst m),(5,.bool x0_5),(6,iI x0_6)],[],[]⟩)
noncomputable def n20:R20→Exit × St
 |.r0 r0=>(.ret,⟨mk 31 [(4,.bool r0)],[],[]⟩)
noncomputable def v20:R20→V
 |.r0 r0=>.bool r0
theorem s20(l:List Pair)(m:List Pair):Sm 0 (g20 l m) (T20 l m) (n20)
 |.e=>⟨400,by kernel_rfl⟩
 |.l0 _ _=>⟨400,by kernel_rfl⟩
theorem q20:∀r,bodyQ Tryz.prog Tryz.f20 (·=v20 r) (n20 r).1 (n20 r).2
 |.r0 r0=>bq (.bool r0) (by kernel_rfl)
theorem w20(l:List Pair)(m:List Pair){post:V→Prop}(h:WQ (T20 l m) v20 post .e):PC 20 [tPair.lst l,tPair.lst m] post:=
 PCalls.wq Tryz.func20 (s20 l m) q20 h
theorem e20:∀xs w,(callFunc 20 xs).run Tryz.prog w=.ok (.enter 20 xs) w:=PCalls.enters Tryz.func20 (c:=Tryz.f20.body.getD .skip) (by kernel_rfl) (by kernel_rfl)
theorem pair_beq(p q:Pair):((p.a==q.a)&&((p.b==q.b)&&true))=decide (p=q):=by
 obtain⟨a,b⟩:=p;obtain⟨c,d⟩:=q
 rw[Bool.eq_iff_iff];simp
theorem c20(l m:List Pair):PC 20 [tPair.lst l,tPair.lst m] (·=.bool (sameP l m)):=by
 refine PCalls.assume e20 0 (by simp) .list fun hl=> ?_
 have hfalse:l≠m→∀i,WP Tryz.prog ⟨none,0⟩ (T20 l m) (Ends' fun r=>v20 r=.bool (sameP l m)) (.l0 false i):=fun h i=>by
  have hs:sameP l m=false:=by simpa[sameP]using h
  refine WP.step ?_
  simp only[T20,Go,Ends',v20,Tr.sure,SS]
  repeat' with_reducible first|intro _|apply And.intro
  all_goals simp[hs,Go,Ends',v20,-List.getD_eq_getElem?_getD, *]
 refine w20 _ _ (WP.step ?_)
 simp only[T20,Tr.sure,Go]
 by_cases he:l.length=m.length
 ·have e1:((l.length:Int)==(m.length:Int))=true:=by simp[he]
  rw[e1]
  refine WP.count (fun i=>.l0 true (i:Int)) rfl l.length (fun i=>l.take i=m.take i) rfl (fun i hi hI=> ?_) fun hI=> ?_
  ·have hb:i<m.length:=by omega
   have hr:=inRi hi hl
   have hi':(i:Int)<l.length:=by omega
   have hb':(i:Int)<m.length:=by omega
   have hq:=pair_beq (l.getD i zPair) (m.getD i zPair)
   by_cases hx:l.getD i zPair=m.getD i zPair
   ·have hn:=take_eq_snoc zPair hi hb hI hx
    have hx1:((l.getD i zPair).a==(m.getD i zPair).a&&((l.getD i zPair).b==(m.getD i zPair).b&&true))=true:=by rw[hq];simpa using hx
    refine WP.once ?_
    simp only[T20,Tr.sure,SS,hi',hb',z8,hx1]
    repeat' with_reducible first|intro _|apply And.intro
    all_goals simp[hr,hn,Go,Ends',v20,-List.getD_eq_getElem?_getD, *]
   ·have hne:l≠m:=fun h=>hx (by rw[h])
    have hx2:((l.getD i zPair).a==(m.getD i zPair).a&&((l.getD i zPair).b==(m.getD i zPair).b&&true))=false:=by rw[hq];simpa using hx
    have hgo:=hfalse hne ((i:Int)+1)
    refine WP.once ?_
    simp only[T20,Tr.sure,SS,hi',hb',z8,hx2]
    repeat' with_reducible first|intro _|apply And.intro
    all_goals first|exact(Or.inr hgo)|(simp[hr,Go,Ends',v20,-List.getD_eq_getElem?_getD, *];done)
  ·have heq:l=m:=by rw[List.take_length,he,List.take_length]at hI;exact hI
   have hs:sameP l m=true:=by simpa[sameP]using heq
   refine WP.step ?_
   simp only[T20,Go,Ends',v20,Tr.sure,SS,Int.lt_irrefl]
   repeat' with_reducible first|intro _|apply And.intro
   all_goals simp_all [hs,Go,Ends',v20,-List.getD_eq_getElem?_getD]
 ·have e1:((l.length:Int)==(m.length:Int))=false:=by simp;omega
  rw[e1]
  exact hfalse (fun h=>he (by rw[h])) 0
def sameS(a b:List ByteArray):Bool:=decide (a=b)
inductive P31
 |e
 |l0 (x0_5:Bool) (x0_6:Int)
inductive R31
 |r0 (r0:Bool)
noncomputable def T31(l:List ByteArray)(m:List ByteArray):P31→Tr P31 R31
 |.e=>(.go (.l0 ((l.length:Int)==(m.length:Int)) 0))
 |.l0 x0_5 x0_6=>(.br x0_5 (.br (decide (x0_6<(l.length:Int))) (.front [] [] (((decide (0≤x0_6)&&decide (x0_6<(l.length:Int)))&&((decide (0≤x0_6)&&decide (x0_6<(m.length:Int)))&&true))&&true) true (.need (inR .i64 (x0_6+(1:Int))) (.go (.l0 ((l.getD (x0_6).toNat tstr.zero).toList==(m.getD (x0_6).toNat tstr.zero).toList) (x0_6+(1:Int)))))) (.out (.r0 x0_5))) (.lit false (.out (.r0 x0_5))))
noncomputable def g31(l:List ByteArray)(m:List ByteArray):P31→List Item × St
 |.e=>bd Tryz.f31 [tstr.lst l,tstr.lst m] 29
 |.l0 x0_5 x0_6=>(cutOf Tryz.f31 0,⟨mk 31 [(0,tstr.lst l),(1,tstr.lst m),(5,.bool x0_5),(6,iI x0_6)],[],[]⟩)
noncomputable def n31:R31→Exit × St
 |.r0 r0=>(.ret,⟨mk 31 [(4,.bool r0)],[],[]⟩)
noncomputable def v31:R31→V
 |.r0 r0=>.bool r0
theorem s31(l:List ByteArray)(m:List ByteArray):Sm 0 (g31 l m) (T31 l m) (n31)
 |.e=>⟨400,by kernel_rfl⟩
 |.l0 _ _=>⟨400,by kernel_rfl⟩
theorem q31:∀r,bodyQ Tryz.prog Tryz.f31 (·=v31 r) (n31 r).1 (n31 r).2
 |.r0 r0=>bq (.bool r0) (by kernel_rfl)
theorem w31(l:List ByteArray)(m:List ByteArray){post:V→Prop}(h:WQ (T31 l m) v31 post .e):PC 31 [tstr.lst l,tstr.lst m] post:=
 PCalls.wq Tryz.func31 (s31 l m) q31 h
theorem e31:∀xs w,(callFunc 31 xs).run Tryz.prog w=.ok (.enter 31 xs) w:=PCalls.enters Tryz.func31 (c:=Tryz.f31.body.getD .skip) (by kernel_rfl) (by kernel_rfl)
theorem c31(l m:List ByteArray):PC 31 [tstr.lst l,tstr.lst m] (·=.bool (sameS l m)):=by
 refine PCalls.assume e31 0 (by simp) .list fun hl=> ?_
 have hfalse:l≠m→∀i,WP Tryz.prog ⟨none,0⟩ (T31 l m) (Ends' fun r=>v31 r=.bool (sameS l m)) (.l0 false i):=fun h i=>by
  have hs:sameS l m=false:=by simpa[sameS]using h
  refine WP.step ?_
  simp only[T31,Go,Ends',v31,Tr.sure,SS]
  repeat' with_reducible first|intro _|apply And.intro
  all_goals simp[hs,Go,Ends',v31,-List.getD_eq_getElem?_getD, *]
 refine w31 _ _ (WP.step ?_)
 simp only[T31,Tr.sure,Go]
 by_cases he:l.length=m.length
 ·have e1:((l.length:Int)==(m.length:Int))=true:=by simp[he]
  rw[e1]
  refine WP.count (fun i=>.l0 true (i:Int)) rfl l.length (fun i=>l.take i=m.take i) rfl (fun i hi hI=> ?_) fun hI=> ?_
  ·have hb:i<m.length:=by omega
   have hr:=inRi hi hl
   have hi':(i:Int)<l.length:=by omega
   have hb':(i:Int)<m.length:=by omega
   by_cases hx:l.getD i ByteArray.empty=m.getD i ByteArray.empty
   ·have hn:=take_eq_snoc ByteArray.empty hi hb hI hx
    have hx1:((l.getD i ByteArray.empty).toList==(m.getD i ByteArray.empty).toList)=true:=by rw[toList_beq];simpa using hx
    refine WP.once ?_
    simp only[T31,Tr.sure,SS,hi',hb',z12,hx1]
    repeat' with_reducible first|intro _|apply And.intro
    all_goals simp[hr,hn,Go,Ends',v31,-List.getD_eq_getElem?_getD, *]
   ·have hne:l≠m:=fun h=>hx (by rw[h])
    have hx2:((l.getD i ByteArray.empty).toList==(m.getD i ByteArray.empty).toList)=false:=by rw[toList_beq];simpa using hx
    have hgo:=hfalse hne ((i:Int)+1)
    refine WP.once ?_
    simp only[T31,Tr.sure,SS,hi',hb',z12,hx2]
    repeat' with_reducible first|intro _|apply And.intro
    all_goals first|exact(Or.inr hgo)|(simp[hr,Go,Ends',v31,-List.getD_eq_getElem?_getD, *];done)
  ·have heq:l=m:=by rw[List.take_length,he,List.take_length]at hI;exact hI
   have hs:sameS l m=true:=by simpa[sameS]using heq
   refine WP.step ?_
   simp only[T31,Go,Ends',v31,Tr.sure,SS,Int.lt_irrefl]
   repeat' with_reducible first|intro _|apply And.intro
   all_goals simp_all [hs,Go,Ends',v31,-List.getD_eq_getElem?_getD]
 ·have e1:((l.length:Int)==(m.length:Int))=false:=by simp;omega
  rw[e1]
  exact hfalse (fun h=>he (by rw[h])) 0
theorem truths_len8{b:Book}(h:OkBook b)(but:List Int):(truthsR b but).length≤100000000:=truthsTo_small b but h.nl
end
noncomputable section
theorem app_at{τ:Type}(E:Ty τ)(L:List τ)(x:τ){n w:Nat}{cs:List V}(hc:cs=E.cells x)(hn:n=L.length)(r j:Nat)(hr:r<n+1):VLe (appC n (rowsOf E L) (litC w 1 cs) r j) (rowsOf E (L++ [x]) r j):=by
 subst hc;subst hn
 unfold appC
 by_cases h:r<L.length
 ·rw[if_pos h];simp only[rowsOf,List.getD_eq_getElem?_getD,List.getElem?_append_left h];exact VLe.refl _
 ·have e:r=L.length:=by omega
  subst e
  rw[if_neg h,Nat.sub_self]
  simp only[rowsOf,List.getD_eq_getElem?_getD,List.getElem?_append_right (Nat.le_refl _),Nat.sub_self]
  exact VLe.refl _
end
noncomputable section
theorem isEmpty_eq(s:ByteArray):(s.toList==(ByteArray.mk #[]).toList)=decide (s=ByteArray.empty):=toList_beq
def namesOf(x:Body):List ByteArray:=x.shown.map (·.as_)
theorem allNames_ne{b:Book}(h:OkBook b):∀s∈allNames b,s≠ByteArray.empty:=by
 intro s hs e
 subst e
 unfold allNames at hs
 rw[List.mem_flatMap]at hs
 obtain⟨x,hx,hs⟩:=hs
 rw[List.mem_map]at hs
 obtain⟨z,hz,e⟩:=hs
 obtain⟨i,hi,rfl⟩:=mem_getD zBody hx
 have:=(shown_iff.1 (h.shown hi)).2
 obtain⟨q,hq,rfl⟩:=mem_getD zShown hz
 have h2:=this q hq
 unfold shownAt at h2
 rw[e]at h2
 split at h2
 ·cases h2
 split at h2
 ·cases h2
 ·have e2:nameOk ByteArray.empty=false:=by decide
  rw[e2]at h2;cases h2
theorem allNames_len{b:Book}(h:OkBook b):(allNames b).length≤15:=by
 have h1:=flat_le (l:=b.bodies) (f:=namesOf) (b:=3) fun x hx=>by
  obtain⟨i,hi,rfl⟩:=mem_getD zBody hx
  have:=(shown_iff.1 (h.shown hi)).1
  unfold namesOf;simpa using this
 have h2:=h.nb
 have e:allNames b=b.bodies.flatMap namesOf:=rfl
 rw[e];omega
theorem persons_len{b:Book}(h:OkBook b):(personsR b).length≤15:=Nat.le_trans (sortU_len _) (allNames_len h)
end
noncomputable section
def asR(b:Book)(head day:Int):List ByteArray × Int:=
 if(toldR b [head] day).2≠0 then([],(toldR b [head] day).2)else((personsR b).filter fun s=>(truthsR b []).any fun t=>same (seenR b t head day) s,0)
def manyS(b:Book)(L:List Truth)(head:Int)(s:ByteArray):Nat:=(L.filter fun t=>shownR b t head s (daysR b)).length
def everR(b:Book)(head:Int):List ByteArray × List ByteArray × Int:=
 if(toldR b [head] 0).2≠0 then([],[],(toldR b [head] 0).2)else
  ((personsR b).filter fun s=>manyS b (truthsR b []) head s==(truthsR b []).length,(personsR b).filter fun s=>decide (0<manyS b (truthsR b []) head s),0)
end
noncomputable section
def anyS(b:Book)(L:List Truth)(head:Int)(as_:ByteArray)(d:Int):Bool:=L.any fun t=>same (seenR b t head d) as_
def meetS(s:Span)(d:Int):Span:=⟨if s.lo<0 then d else s.lo,d⟩
def spanG(b:Book)(L:List Truth)(head:Int)(as_:ByteArray)(s:Span)(d:Int):Span:=if anyS b L head as_ d=true then meetS s d else s
def spanOf(b:Book)(L:List Truth)(head:Int)(as_:ByteArray):Span:=(daysR b).foldl (spanG b L head as_) ⟨-1,0⟩
def betweenR(b:Book)(head:Int)(as_:ByteArray):Span × Int:=
 if(toldR b [head] 0).2≠0 then(zSpan,(toldR b [head] 0).2)else if nameOk as_=false then(zSpan,6)
 else if(spanOf b (truthsR b []) head as_).lo<0 then(zSpan,4)else(spanOf b (truthsR b []) head as_,0)
theorem days_in{b:Book}{d:Int}(h:d∈daysR b):0≤d∧d≤364:=by
 unfold daysR at h
 rw[List.mem_map]at h
 obtain⟨i,hi,rfl⟩:=h
 have:=List.mem_range.1 (List.mem_filter.1 hi).1
 omega
def canR(b:Book)(l:List Int):Bool:=decide (0<(truthsR b l).length)
def wrongFrom(b:Book)(n:Int):Nat→Nat→List Int
 |0,many=>(picks n many).getD 0 []
 |k+1,many=>match(picks n many).find? (canR b)with|some l=>l|none=>wrongFrom b n k (many+1)
def wrongR(b:Book):List Int × Int:=if(bookCheck b).2.2≠0 then([],(bookCheck b).2.2)else(wrongFrom b b.lines.length b.lines.length 0,0)
theorem picks_pos(n:Nat):0<(picks n n).length:=by
 have:((List.range n).map fun(i:Nat)=>(i:Int))∈picks n n:=by
  rw[picks_ok]
  refine⟨by simp,?_,fun x hx=> ?_,fun x hx=> ?_⟩
  ·rw[List.pairwise_map];exact(List.pairwise_lt_range).imp fun h=>by omega
  ·obtain⟨i,hi,rfl⟩:=List.mem_map.1 hx;omega
  ·obtain⟨i,hi,rfl⟩:=List.mem_map.1 hx;rw[List.mem_range]at hi;omega
 exact List.length_pos_of_mem this
end
noncomputable section
inductive P104
 |e
inductive R104
 |r0 (r0:Bool)
noncomputable def T104(n:Int)(lo:Int)(hi:Int):P104→Tr P104 R104
 |.e=>(.br (decide (n<lo)) (.out (.r0 true)) (.out (.r0 (decide (n>hi)))))
noncomputable def g104(n:Int)(lo:Int)(hi:Int):P104→List Item × St
 |.e=>bd Tryz.f104 [iI n,rR (iI lo),rR (iI hi)] 10
noncomputable def n104:R104→Exit × St
 |.r0 r0=>(.ret,⟨mk 13 [(4,.bool r0)],[],[]⟩)
noncomputable def v104:R104→V
 |.r0 r0=>.bool r0
theorem s104(n:Int)(lo:Int)(hi:Int):Sm 0 (g104 n lo hi) (T104 n lo hi) (n104)
 |.e=>⟨400,by kernel_rfl⟩
theorem q104:∀r,bodyQ Tryz.prog Tryz.f104 (·=v104 r) (n104 r).1 (n104 r).2
 |.r0 r0=>bq (.bool r0) (by kernel_rfl)
theorem w104(n:Int)(lo:Int)(hi:Int){post:V→Prop}(h:WQ (T104 n lo hi) v104 post .e):PC 104 [iI n,rR (iI lo),rR (iI hi)] post:=
 PCalls.wq Tryz.func104 (s104 n lo hi) q104 h
theorem c104(n lo hi:Int):PC 104 [iI n,rR (iI lo),rR (iI hi)] (·=.bool (!within n lo hi)):=by
 refine w104 _ _ _ (WP.step ?_)
 simp only[T104,Go,Ends',v104,Tr.sure,SS]
 repeat' with_reducible first|intro _|apply And.intro
 all_goals first|(simp[within,Go,Ends',v104,-List.getD_eq_getElem?_getD, *];done)|skip
 all_goals(simp only[within,V.bool.injEq];rw[Bool.eq_iff_iff];simp;omega)
def Asks2(g:Nat)(lo hi:Int)(p:Int→Bool):Prop:=∀n,PC g [iI n,rR (iI lo),rR (iI hi)] (·=.bool (p n))
def place(o:Option Nat):Int:=match o with|some i=>i|none=> -1
theorem place_ge(o:Option Nat):(0≤place o)↔o.isSome=true:=by cases o<;>simp[place]
inductive P121
 |e
 |l0 (x0_8:Int)
inductive R121
 |r0 (r0:Int)
noncomputable def T121(g:Nat)(lo:Int)(hi:Int)(p:Int→Bool)(s:List Int):P121→Tr P121 R121
 |.e=>(.go (.l0 0))
 |.l0 x0_8=>let c1:=s.getD (x0_8).toNat tint.zero;(.br (decide (x0_8<(s.length:Int))) (.need (decide (0≤x0_8)&&decide (x0_8<(s.length:Int))) (.call g [iI c1,rR (iI lo),rR (iI hi)] (.bool (p c1)) true true (.br (p c1) (.out (.r0 x0_8)) (.need (inR .i64 (x0_8+(1:Int))) (.go (.l0 (x0_8+(1:Int)))))))) (.out (.r0 (-1))))
noncomputable def g121(g:Nat)(lo:Int)(hi:Int)(p:Int→Bool)(s:List Int):P121→List Item × St
 |.e=>bd Tryz.f121 [tint.lst s,.func (.func g) [] [rR (iI lo),rR (iI hi)]] 17
 |.l0 x0_8=>(cutOf Tryz.f121 0,⟨mk 19 [(0,tint.lst s),(1,.func (.func g) [] [rR (iI lo),rR (iI hi)]),(7,iI (s.length:Int)),(8,iI x0_8)],[],[]⟩)
noncomputable def n121:R121→Exit × St
 |.r0 r0=>(.ret,⟨mk 19 [(4,iI r0)],[],[]⟩)
noncomputable def v121:R121→V
 |.r0 r0=>iI r0
theorem s121(g:Nat)(lo:Int)(hi:Int)(p:Int→Bool)(s:List Int):Sm 0 (g121 g lo hi p s) (T121 g lo hi p s) (n121)
 |.e=>⟨400,by kernel_rfl⟩
 |.l0 _=>⟨400,by kernel_rfl⟩
theorem q121:∀r,bodyQ Tryz.prog Tryz.f121 (·=v121 r) (n121 r).1 (n121 r).2
 |.r0 r0=>bq (iI r0) (by kernel_rfl)
theorem w121(g:Nat)(lo:Int)(hi:Int)(p:Int→Bool)(s:List Int){post:V→Prop}(h:WQ (T121 g lo hi p s) v121 post .e):PC 121 [tint.lst s,.func (.func g) [] [rR (iI lo),rR (iI hi)]] post:=
 PCalls.wq Tryz.func121 (s121 g lo hi p s) q121 h
theorem e121:∀xs w,(callFunc 121 xs).run Tryz.prog w=.ok (.enter 121 xs) w:=PCalls.enters Tryz.func121 (c:=Tryz.f121.body.getD .skip) (by kernel_rfl) (by kernel_rfl)
theorem c121{g:Nat}{lo hi:Int}{p:Int→Bool}(s:List Int)(hg:Asks2 g lo hi p):PC 121 [tint.lst s,.func (.func g) [] [rR (iI lo),rR (iI hi)]]
  (·=iI (place (firstI p 0 s))):=by
 refine PCalls.assume e121 0 (by simp) .list fun hs=> ?_
 refine w121 g lo hi p s (WP.step ?_)
 simp only[T121,Go,Ends',v121,Tr.sure,SS]
 repeat' with_reducible first|intro _|apply And.intro
 refine WP.findI (fun i=>.l0 i) rfl s 0 p (fun i hi=> ?_) fun hI=> ?_
 ·have hr:=inRi hi hs
  refine WP.once ?_
  simp only[T121,Tr.sure,SS,hi,z1]
  repeat' with_reducible first|intro _|apply And.intro
  all_goals first|exact hg _|(simp[hr,place,Go,Ends',v121,-List.getD_eq_getElem?_getD, *];done)|(simp_all [hr,place,Go,Ends',v121,-List.getD_eq_getElem?_getD];done)
 ·refine WP.step ?_
  simp only[T121,Go,Ends',v121,Tr.sure,SS]
  repeat' with_reducible first|intro _|apply And.intro
  all_goals simp[hI,place,Go,Ends',v121,-List.getD_eq_getElem?_getD, *]
inductive P103
 |e
inductive R103
 |r0 (r0:Bool)
noncomputable def T103(g:Nat)(lo:Int)(hi:Int)(p:Int→Bool)(s:List Int):P103→Tr P103 R103
 |.e=>(.call 121 [tint.lst s,.func (.func g) [] [rR (iI lo),rR (iI hi)]] (iI (place (firstI p 0 s))) true true (.out (.r0 (decide ((place (firstI p 0 s))≥(0:Int))))))
noncomputable def g103(g:Nat)(lo:Int)(hi:Int)(p:Int→Bool)(s:List Int):P103→List Item × St
 |.e=>bd Tryz.f103 [tint.lst s,.func (.func g) [] [rR (iI lo),rR (iI hi)]] 7
noncomputable def n103:R103→Exit × St
 |.r0 r0=>(.ret,⟨mk 9 [(4,.bool r0)],[],[]⟩)
noncomputable def v103:R103→V
 |.r0 r0=>.bool r0
theorem s103(g:Nat)(lo:Int)(hi:Int)(p:Int→Bool)(s:List Int):Sm 0 (g103 g lo hi p s) (T103 g lo hi p s) (n103)
 |.e=>⟨400,by kernel_rfl⟩
theorem q103:∀r,bodyQ Tryz.prog Tryz.f103 (·=v103 r) (n103 r).1 (n103 r).2
 |.r0 r0=>bq (.bool r0) (by kernel_rfl)
theorem w103(g:Nat)(lo:Int)(hi:Int)(p:Int→Bool)(s:List Int){post:V→Prop}(h:WQ (T103 g lo hi p s) v103 post .e):PC 103 [tint.lst s,.func (.func g) [] [rR (iI lo),rR (iI hi)]] post:=
 PCalls.wq Tryz.func103 (s103 g lo hi p s) q103 h
theorem c103{g:Nat}{lo hi:Int}{p:Int→Bool}(s:List Int)(hg:Asks2 g lo hi p):PC 103 [tint.lst s,.func (.func g) [] [rR (iI lo),rR (iI hi)]]
  (·=.bool (s.any p)):=by
 have h1:decide (0≤place (firstI p 0 s))=s.any p:=by rw[←firstI_any p s 0,Bool.eq_iff_iff,decide_eq_true_iff];exact place_ge _
 refine w103 g lo hi p s (WP.step ?_)
 simp only[T103,Go,Ends',v103,Tr.sure,SS]
 repeat' with_reducible first|intro _|apply And.intro
 all_goals first|exact c121 s hg|(simp[h1,Go,Ends',v103,-List.getD_eq_getElem?_getD, *];done)
inductive P64
 |e
inductive R64
 |r0 (r0:Bool)
noncomputable def T64(p0:Int)(p1:Int)(p2:List Int):P64→Tr P64 R64
 |.e=>(.call 103 [tint.lst p2,fG 104 [rR (iI p0),rR (iI p1)]] (.bool (outside p0 p1 p2)) true true (.out (.r0 (outside p0 p1 p2))))
noncomputable def g64(p0:Int)(p1:Int)(p2:List Int):P64→List Item × St
 |.e=>bd Tryz.f64 [iI p0,iI p1,tint.lst p2] 7
noncomputable def n64:R64→Exit × St
 |.r0 r0=>(.ret,⟨mk 10 [(6,.bool r0)],[],[]⟩)
noncomputable def v64:R64→V
 |.r0 r0=>.bool r0
theorem s64(p0:Int)(p1:Int)(p2:List Int):Sm 0 (g64 p0 p1 p2) (T64 p0 p1 p2) (n64)
 |.e=>⟨400,by kernel_rfl⟩
theorem q64:∀r,bodyQ Tryz.prog Tryz.f64 (·=v64 r) (n64 r).1 (n64 r).2
 |.r0 r0=>bq (.bool r0) (by kernel_rfl)
theorem w64(p0:Int)(p1:Int)(p2:List Int){post:V→Prop}(h:WQ (T64 p0 p1 p2) v64 post .e):PC 64 [iI p0,iI p1,tint.lst p2] post:=
 PCalls.wq Tryz.func64 (s64 p0 p1 p2) q64 h
theorem c64(lo hi:Int)(l:List Int):PC 64 [iI lo,iI hi,tint.lst l] (·=.bool (outside lo hi l)):=by
 refine w64 _ _ _ (WP.step ?_)
 simp only[T64,Go,Ends',v64,Tr.sure,SS]
 repeat' with_reducible first|intro _|apply And.intro
 all_goals exact c103 l fun n=>c104 n lo hi
theorem outside1(lo hi a:Int):outside lo hi [a]= !within a lo hi:=by simp[outside]
theorem c64l(lo hi a:Int){c:Nat→Nat→V}(hc:c 0 0=iI a):PC 64 [iI lo,iI hi,.list 1 1 c] (·=.bool (!within a lo hi)):=by
 rw[←outside1]
 exact PCalls.arg (pre:=[iI lo,iI hi]) (c64 lo hi [a]) (VLe.list fun i j hi hj=>by
  obtain rfl:i=0:=by omega
  obtain rfl:j=0:=by omega
  rw[hc];rfl)
theorem byte_at(s:ByteArray)(i:Nat)(hi:i<s.size):s[i]'hi=s.data.toList.getD i 0:=by
 simp only[List.getD_eq_getElem?_getD,List.getElem?_eq_getElem (show i<s.data.toList.length from hi),Option.getD_some];rfl
inductive P59
 |e
 |l0 (o0_0:Nat)
inductive R59
 |r0 (r0:Bool)
noncomputable def T59(p0:ByteArray):P59→Tr P59 R59
 |.e=>(.sem (opAt Tryz.f59 1 1) [(.tmp 6,.str p0)] [] (.ref 0 0 0) [.obj (.stringIter p0 0)] true (.go (.l0 0)))
 |.l0 o0_0=>let c2:=Utf8.decode p0 o0_0;let c1:Tr P59 R59:=.br ((o0_0:Int)==(0:Int)) (.lit true (.lit true (.lit true (.out (.r0 false))))) (.br ((c2.1:Int) !=(46:Int)) (.br (decide ((c2.1:Int)<(48:Int))) (.lit true (.lit false (.lit true (.lit true (.out (.r0 false)))))) (.lit true (.lit false (.lit true (.br (decide ((c2.1:Int)>(57:Int))) (.out (.r0 false)) (.go (.l0 (o0_0+c2.2)))))))) (.lit false (.lit false (.lit true (.lit false (.go (.l0 (o0_0+c2.2))))))));let c3:List Blk:=[.obj (.stringIter p0 o0_0)];(.wait 1 (.cas (decide (o0_0<p0.size)) (.sem (opAt Tryz.f59 2 0) [(.tmp 7,.ref 0 0 0)] c3 (.tuple [.bool true,iI (o0_0:Int),.int .i32 (c2.1:Int)]) [.obj (.stringIter p0 (o0_0+c2.2))] true (.lit true (.br (decide ((97:Int)≤(c2.1:Int))) (.br (!(decide ((c2.1:Int)≤(122:Int)))) c1 (.lit false (.lit false (.go (.l0 (o0_0+c2.2)))))) (.lit true c1)))) (.sem (opAt Tryz.f59 2 0) [(.tmp 7,.ref 0 0 0)] c3 (.tuple [.bool false]) c3 true (.lit false (.br (!(p0.toList==(ByteArray.mk #[]).toList)) (.out (.r0 (decide ((p0.size:Int)≤(16:Int))))) (.out (.r0 false)))))))
noncomputable def g59(p0:ByteArray):P59→List Item × St
 |.e=>bd Tryz.f59 [.str p0] 42
 |.l0 o0_0=>(cutOf Tryz.f59 0,⟨mk 43 [(0,.str p0),(2,.bool false),(7,.ref 0 0 0)],[.obj (.stringIter p0 o0_0)],[]⟩)
noncomputable def n59:R59→Exit × St
 |.r0 r0=>(.ret,⟨mk 43 [(2,.bool r0)],[],[]⟩)
noncomputable def v59:R59→V
 |.r0 r0=>.bool r0
theorem s59(p0:ByteArray):Sm 0 (g59 p0) (T59 p0) (n59)
 |.e=>⟨400,by kernel_rfl⟩
 |.l0 _=>⟨400,by kernel_rfl⟩
theorem q59:∀r,bodyQ Tryz.prog Tryz.f59 (·=v59 r) (n59 r).1 (n59 r).2
 |.r0 r0=>bq (.bool r0) (by kernel_rfl)
theorem w59(p0:ByteArray){post:V→Prop}(h:WQ (T59 p0) v59 post .e):PC 59 [.str p0] post:=
 PCalls.wq Tryz.func59 (s59 p0) q59 h
theorem c59(s:ByteArray):PC 59 [.str s] (·=.bool (nameOk s)):=by
 refine w59 _ (WP.step ?_)
 simp only[T59,Go,Ends',v59,Tr.sure,SS]
 repeat' with_reducible first|intro _|apply And.intro
 all_goals first|exact sem_rangeStr (by kernel_rfl)|skip
 refine WP.count (fun i=>.l0 i) rfl s.size (fun i=>nameFrom true s.data.toList=nameFrom (i==0) (s.data.toList.drop i)) rfl (fun i hi hI=> ?_) fun hI=> ?_
 ·have hd:=drop_cons 0 s.data.toList i hi
  rw[hd]at hI
  have hb:=byte_at s i hi
  have hsem:SemOK Tryz.prog (opAt Tryz.f59 2 0) _ _ _ _:=sem_nextStr (P:=Tryz.prog) (x:=.tmp 7) (i:=0) (h:=[.obj (.stringIter s i)]) rfl hi
  have hgo:(97≤(s.data.toList.getD i 0).toNat∧(s.data.toList.getD i 0).toNat≤122∨i≠0∧(48≤(s.data.toList.getD i 0).toNat∧(s.data.toList.getD i 0).toNat≤57∨(s.data.toList.getD i 0).toNat=46))→
    nameFrom true s.data.toList=nameFrom (i+1==0) (s.data.toList.drop (i+1)):=fun h=>by
   rw[hI];simp only[nameFrom,letter,other,within]
   have:(decide ((97:Int)≤((s.data.toList.getD i 0).toNat:Int))&&decide (((s.data.toList.getD i 0).toNat:Int)≤122)|| !(i==0)&&(decide ((48:Int)≤((s.data.toList.getD i 0).toNat:Int))&&decide (((s.data.toList.getD i 0).toNat:Int)≤57)||((s.data.toList.getD i 0).toNat:Int)==46))=true:=by
    simp only[Bool.or_eq_true,Bool.and_eq_true,decide_eq_true_eq,Bool.not_eq_eq_eq_not,Bool.not_true,beq_eq_false_iff_ne,beq_iff_eq];omega
   rw[this];simp
  have hx:¬(97≤(s.data.toList.getD i 0).toNat∧(s.data.toList.getD i 0).toNat≤122∨i≠0∧(48≤(s.data.toList.getD i 0).toNat∧(s.data.toList.getD i 0).toNat≤57∨(s.data.toList.getD i 0).toNat=46))→
    nameOk s=false:=fun h=>by
   have:nameFrom true s.data.toList=false:=by
    rw[hI];simp only[nameFrom,letter,other,within]
    have:(decide ((97:Int)≤((s.data.toList.getD i 0).toNat:Int))&&decide (((s.data.toList.getD i 0).toNat:Int)≤122)|| !(i==0)&&(decide ((48:Int)≤((s.data.toList.getD i 0).toNat:Int))&&decide (((s.data.toList.getD i 0).toNat:Int)≤57)||((s.data.toList.getD i 0).toNat:Int)==46))=false:=by
     rw[Bool.eq_false_iff];simp only[ne_eq,Bool.or_eq_true,Bool.and_eq_true,decide_eq_true_eq,Bool.not_eq_eq_eq_not,Bool.not_true,beq_eq_false_iff_ne,beq_iff_eq];omega
    rw[this];simp
   simp[nameOk,this]
  have hen:∀x:Bool,nameOk s=false→x=false→V.bool x=V.bool (nameOk s):=fun x h1 h2=>by rw[h1,h2]
  by_cases ha:(s.data.toList.getD i 0).toNat<128
  ·have hu:=decode_ascii s i hi (by rw[hb];exact ha)
   rw[hb]at hu
   rw[hu]at hsem
   generalize hg:s.data.toList.getD i 0=c at*
   refine WP.once ?_
   simp only[T59,Tr.sure,SS,hi,hu]
   repeat' with_reducible first|intro _|apply And.intro
   all_goals first|exact hsem|exact .inl (hgo (by omega))|exact .inr (hen _ (hx (by omega)) rfl)
  ·have hu:=(decode_high s i hi (by rw[hb];omega)).1
   have hx':=hx (by omega)
   refine WP.once ?_
   simp only[T59,Tr.sure,SS,hi]
   repeat' with_reducible first|intro _|apply And.intro
   all_goals first|exact hsem|exact .inr (hen _ hx' rfl)|exact(by omega)
   all_goals(exfalso;omega)
 ·have he:nameFrom (s.size==0) (s.data.toList.drop s.size)=true:=by rw[←data_len,List.drop_length];rfl
  have hz:s.toList=(ByteArray.mk #[]).toList↔s.size=0:=by
   rw[ByteArray.toList_eq,ByteArray.toList_eq,←data_len]
   exact⟨fun h=>by rw[h];rfl,fun h=>List.eq_nil_of_length_eq_zero h⟩
  have h16:((s.size:Int)≤16)↔s.size≤16:=by omega
  refine WP.step ?_
  simp only[T59,Go,Ends',v59,Tr.sure,SS,Nat.lt_irrefl,hz]
  repeat' with_reducible first|intro _|apply And.intro
  all_goals first|exact sem_nextStr0 rfl (Nat.lt_irrefl _)|(simp[hI,he,nameOk,hz,h16,Go,Ends',v59,-List.getD_eq_getElem?_getD, *];done)
end
noncomputable section
inductive P61
 |e
inductive R61
 |r0 (r0:Bool)
noncomputable def T61(y:Body)(x:Body):P61→Tr P61 R61
 |.e=>(.out (.r0 (y.name.toList==x.name.toList)))
noncomputable def g61(y:Body)(x:Body):P61→List Item × St
 |.e=>bd Tryz.f61 [.agg [.str y.name,tShown.lst y.shown],.cref 2 fun q=>([.str x.name,tShown.lst x.shown]:List V).getD q uU] 7
noncomputable def n61:R61→Exit × St
 |.r0 r0=>(.ret,⟨mk 9 [(3,.bool r0)],[],[]⟩)
noncomputable def v61:R61→V
 |.r0 r0=>.bool r0
theorem s61(y:Body)(x:Body):Sm 0 (g61 y x) (T61 y x) (n61)
 |.e=>⟨400,by kernel_rfl⟩
theorem q61:∀r,bodyQ Tryz.prog Tryz.f61 (·=v61 r) (n61 r).1 (n61 r).2
 |.r0 r0=>bq (.bool r0) (by kernel_rfl)
theorem w61(y:Body)(x:Body){post:V→Prop}(h:WQ (T61 y x) v61 post .e):PC 61 [.agg [.str y.name,tShown.lst y.shown],.cref 2 fun q=>([.str x.name,tShown.lst x.shown]:List V).getD q uU] post:=
 PCalls.wq Tryz.func61 (s61 y x) q61 h
abbrev xB(x:Body):V:=.cref 2 fun q=>(tBody.cells x).getD q uU
theorem c61(y x:Body):PC 61 [.agg (tBody.cells y),xB x] (·=.bool (same y.name x.name)):=by
 refine w61 _ _ (WP.step ?_)
 simp only[T61,Go,Ends',v61,Tr.sure,SS]
 repeat' with_reducible first|intro _|apply And.intro
 all_goals simp[same,Go,Ends',v61,-List.getD_eq_getElem?_getD, *]
inductive P102
 |e
 |l0 (x0_8:Int)
inductive R102
 |r0 (r0:Int)
noncomputable def T102(s:List Body)(x:Body):P102→Tr P102 R102
 |.e=>(.go (.l0 0))
 |.l0 x0_8=>let c1:=s.getD (x0_8).toNat tBody.zero;(.br (decide (x0_8<(s.length:Int))) (.need (decide (0≤x0_8)&&decide (x0_8<(s.length:Int))) (.call 61 [.agg [.str (c1.name),tShown.lst (c1.shown)],.cref 2 fun q=>([.str x.name,tShown.lst x.shown]:List V).getD q uU] (.bool (same (c1.name) x.name)) true true (.br (same (c1.name) x.name) (.out (.r0 x0_8)) (.need (inR .i64 (x0_8+(1:Int))) (.go (.l0 (x0_8+(1:Int)))))))) (.out (.r0 (-1))))
noncomputable def g102(s:List Body)(x:Body):P102→List Item × St
 |.e=>bd Tryz.f102 [tBody.lst s,fG 61 [.cref 2 fun q=>([.str x.name,tShown.lst x.shown]:List V).getD q uU]] 17
 |.l0 x0_8=>(cutOf Tryz.f102 0,⟨mk 19 [(0,tBody.lst s),(1,fG 61 [.cref 2 fun q=>([.str x.name,tShown.lst x.shown]:List V).getD q uU]),(7,iI (s.length:Int)),(8,iI x0_8)],[],[]⟩)
noncomputable def n102:R102→Exit × St
 |.r0 r0=>(.ret,⟨mk 19 [(4,iI r0)],[],[]⟩)
noncomputable def v102:R102→V
 |.r0 r0=>iI r0
theorem s102(s:List Body)(x:Body):Sm 0 (g102 s x) (T102 s x) (n102)
 |.e=>⟨400,by kernel_rfl⟩
 |.l0 _=>⟨400,by kernel_rfl⟩
theorem q102:∀r,bodyQ Tryz.prog Tryz.f102 (·=v102 r) (n102 r).1 (n102 r).2
 |.r0 r0=>bq (iI r0) (by kernel_rfl)
theorem w102(s:List Body)(x:Body){post:V→Prop}(h:WQ (T102 s x) v102 post .e):PC 102 [tBody.lst s,fG 61 [.cref 2 fun q=>([.str x.name,tShown.lst x.shown]:List V).getD q uU]] post:=
 PCalls.wq Tryz.func102 (s102 s x) q102 h
theorem e102:∀xs w,(callFunc 102 xs).run Tryz.prog w=.ok (.enter 102 xs) w:=PCalls.enters Tryz.func102 (c:=Tryz.f102.body.getD .skip) (by kernel_rfl) (by kernel_rfl)
theorem c102(s:List Body)(x:Body):PC 102 [tBody.lst s,fG 61 [xB x]] (·=iI (place (firstI (fun y=>same y.name x.name) 0 s))):=by
 refine PCalls.assume e102 0 (by simp) .list fun hs=> ?_
 refine w102 _ _ (WP.step ?_)
 simp only[T102,Go,Ends',v102,Tr.sure,SS]
 repeat' with_reducible first|intro _|apply And.intro
 refine WP.findI (fun i=>.l0 i) rfl s zBody (fun y=>same y.name x.name) (fun i hi=> ?_) fun hI=> ?_
 ·have hr:=inRi hi hs
  have k61:=c61 (s.getD i zBody) x
  refine WP.once ?_
  simp only[T102,Tr.sure,SS,hi,z2]
  repeat' with_reducible first|intro _|apply And.intro
  all_goals first|exact k61|(simp[hr,place,Go,Ends',v102,-List.getD_eq_getElem?_getD, *];done)|(simp_all [hr,place,Go,Ends',v102,-List.getD_eq_getElem?_getD];done)
 ·refine WP.step ?_
  simp only[T102,Go,Ends',v102,Tr.sure,SS]
  repeat' with_reducible first|intro _|apply And.intro
  all_goals simp[hI,place,Go,Ends',v102,-List.getD_eq_getElem?_getD, *]
inductive P60
 |e
inductive R60
 |r0 (r0:Bool)
noncomputable def T60(s:List Body)(x:Body):P60→Tr P60 R60
 |.e=>(.call 102 [tBody.lst s,fG 61 [.cref 2 fun q=>([.str x.name,tShown.lst x.shown]:List V).getD q uU]] (iI (place (firstI (fun y=>same y.name x.name) 0 s))) true true (.out (.r0 (decide ((place (firstI (fun y=>same y.name x.name) 0 s))≥(0:Int))))))
noncomputable def g60(s:List Body)(x:Body):P60→List Item × St
 |.e=>bd Tryz.f60 [tBody.lst s,fG 61 [.cref 2 fun q=>([.str x.name,tShown.lst x.shown]:List V).getD q uU]] 7
noncomputable def n60:R60→Exit × St
 |.r0 r0=>(.ret,⟨mk 9 [(4,.bool r0)],[],[]⟩)
noncomputable def v60:R60→V
 |.r0 r0=>.bool r0
theorem s60(s:List Body)(x:Body):Sm 0 (g60 s x) (T60 s x) (n60)
 |.e=>⟨400,by kernel_rfl⟩
theorem q60:∀r,bodyQ Tryz.prog Tryz.f60 (·=v60 r) (n60 r).1 (n60 r).2
 |.r0 r0=>bq (.bool r0) (by kernel_rfl)
theorem w60(s:List Body)(x:Body){post:V→Prop}(h:WQ (T60 s x) v60 post .e):PC 60 [tBody.lst s,fG 61 [.cref 2 fun q=>([.str x.name,tShown.lst x.shown]:List V).getD q uU]] post:=
 PCalls.wq Tryz.func60 (s60 s x) q60 h
theorem c60(s:List Body)(x:Body):PC 60 [tBody.lst s,fG 61 [xB x]] (·=.bool (s.any fun y=>same y.name x.name)):=by
 have h1:decide (0≤place (firstI (fun y=>same y.name x.name) 0 s))=s.any fun y=>same y.name x.name:=by rw[←firstI_any _ s 0,Bool.eq_iff_iff,decide_eq_true_iff];exact place_ge _
 refine w60 _ _ (WP.step ?_)
 simp only[T60,Go,Ends',v60,Tr.sure,SS]
 repeat' with_reducible first|intro _|apply And.intro
 all_goals first|exact c102 _ _|(simp[h1,Go,Ends',v60,-List.getD_eq_getElem?_getD, *];done)
theorem VLe.take{τ:Type}(E:Ty τ)(l:List τ){i:Nat}(h:i≤l.length):VLe (.list E.w i (fun r j=>rowsOf E l (0+r) j)) (E.lst (l.take i)):=by
 show VLe _ (.list E.w (l.take i).length (rowsOf E (l.take i)))
 rw[List.length_take,Nat.min_eq_left h]
 refine VLe.list fun r j hr hj=> ?_
 have:(l.take i).getD r E.zero=l.getD r E.zero:=by rw[List.getD_eq_getElem?_getD,List.getD_eq_getElem?_getD,List.getElem?_take,if_pos hr]
 simp only[rowsOf,Nat.zero_add,this]
theorem c60t(l:List Body)(x:Body){i:Nat}(h:i≤l.length):PC 60 [.list 2 i (fun r j=>rowsOf tBody l (0+r) j),fG 61 [xB x]] (·=.bool ((l.take i).any fun y=>same y.name x.name)):=
 PCalls.arg (pre:=[]) (c60 (l.take i) x) (VLe.take tBody l h)
inductive P63
 |e
inductive R63
 |r0 (r0:Int)
noncomputable def T63(q:Int)(s:Shown)(x:Body):P63→Tr P63 R63
 |.e=>let c1:Tr P63 R63:=.call 59 [.str s.as_] (.bool (nameOk s.as_)) true true (.br (!(nameOk s.as_)) (.out (.r0 6)) (.out (.r0 0)));let c2:=decide (q>(0:Int));let c3:=q-(1:Int);(.call 64 [iI 0,iI 364,.list 1 1 (litC 1 1 [iI s.day])] (.bool (!within s.day 0 364)) ((decide (1≤1))&&true) true (.br (!within s.day 0 364) (.out (.r0 7)) (.br c2 (.front [] [(2,true)] (((c2==true)&&((inR .i64 c3)&&((decide (0≤c3)&&decide (c3<(x.shown.length:Int)))&&true)))&&true) true (.br (decide (s.day≤(x.shown.getD (c3).toNat tShown.zero).day)) (.out (.r0 2)) c1)) (.front [] [(2,false)] (((c2==false)&&true)&&true) true (.lit false c1)))))
noncomputable def g63(q:Int)(s:Shown)(x:Body):P63→List Item × St
 |.e=>bd Tryz.f63 [iI q,.agg [iI s.day,.str s.as_],.cref 2 fun q=>([.str x.name,tShown.lst x.shown]:List V).getD q uU] 28
noncomputable def n63:R63→Exit × St
 |.r0 r0=>(.ret,⟨mk 31 [(5,iI r0)],[],[]⟩)
noncomputable def v63:R63→V
 |.r0 r0=>iI r0
theorem s63(q:Int)(s:Shown)(x:Body):Sm 0 (g63 q s x) (T63 q s x) (n63)
 |.e=>⟨400,by kernel_rfl⟩
theorem q63:∀r,bodyQ Tryz.prog Tryz.f63 (·=v63 r) (n63 r).1 (n63 r).2
 |.r0 r0=>bq (iI r0) (by kernel_rfl)
theorem w63(q:Int)(s:Shown)(x:Body){post:V→Prop}(h:WQ (T63 q s x) v63 post .e):PC 63 [iI q,.agg [iI s.day,.str s.as_],.cref 2 fun q=>([.str x.name,tShown.lst x.shown]:List V).getD q uU] post:=
 PCalls.wq Tryz.func63 (s63 q s x) q63 h
theorem c63(x:Body)(k:Nat)(s:Shown)(hk:k<x.shown.length)(hl:x.shown.length≤3):PC 63 [iI (k:Int),.agg (tShown.cells s),xB x] (·=iI (shownAt x.shown k s)):=by
 have k64:=c64l 0 364 s.day (c:=litC 1 1 [iI s.day]) rfl
 by_cases h0:(0:Int)<k
 ·have h0':0<k:=by omega
  have hr2:inR .i64 ((k:Int)-1)=true:=inR64 (by omega) (by omega)
  have h02:(0:Int)≤(k:Int)-1:=by omega
  have h03:(k:Int)-1<x.shown.length:=by omega
  have hn:((k:Int)-1).toNat=k-1:=by omega
  have e:shownAt x.shown k s=if !within s.day 0 364 then 7 else if s.day≤(x.shown.getD (k-1) zShown).day then 2 else if !nameOk s.as_ then 6 else 0:=by
   unfold shownAt;simp only[h0',true_and]
  refine w63 _ _ _ (WP.step ?_)
  simp only[T63,Go,Ends',v63,Tr.sure,SS,z3,h0,hn]
  repeat' with_reducible first|intro _|apply And.intro
  all_goals first|exact k64|exact c59 _|(simp[hr2,h02,h03,e,Go,Ends',v63,-List.getD_eq_getElem?_getD, *];done)|(simp_all [hr2,h02,h03,e,Go,Ends',v63,-List.getD_eq_getElem?_getD];done)
 ·have h0':¬0<k:=by omega
  have e:shownAt x.shown k s=if !within s.day 0 364 then 7 else if !nameOk s.as_ then 6 else 0:=by
   unfold shownAt;simp only[h0',false_and,if_false]
  refine w63 _ _ _ (WP.step ?_)
  simp only[T63,Go,Ends',v63,Tr.sure,SS,z3,h0]
  repeat' with_reducible first|intro _|apply And.intro
  all_goals first|exact k64|exact c59 _|(simp[e,Go,Ends',v63,-List.getD_eq_getElem?_getD, *];done)
theorem firstR_some{τ:Type}{of:Nat→τ→Int}{l:List τ}{i:Nat}{e:Int}(h:firstE of 0 l=some (i,e)):firstR of l=((i:Int),e):=by unfold firstR;rw[h]
theorem firstR_none{τ:Type}{of:Nat→τ→Int}{l:List τ}(h:firstE of 0 l=none):firstR of l=(0,0):=by unfold firstR;rw[h]
inductive P62
 |e
 |l0 (x0_11:Int)
inductive R62
 |r0 (r0:Int) (r1:Int)
noncomputable def T62(x:Body):P62→Tr P62 R62
 |.e=>(.go (.l0 0))
 |.l0 x0_11=>let c1:=x.shown.getD (x0_11).toNat tShown.zero;let c2:=shownAt x.shown (x0_11).toNat c1;let c3:=x0_11<(x.shown.length:Int);(.br (decide c3) (.need (decide (0≤x0_11)&&decide c3) (.call 63 [iI x0_11,.agg [iI (c1.day),.str (c1.as_)],.cref 2 fun q=>([.str x.name,tShown.lst x.shown]:List V).getD q uU] (iI c2) true true (.br (c2 !=(0:Int)) (.out (.r0 x0_11 c2)) (.need (inR .i64 (x0_11+(1:Int))) (.go (.l0 (x0_11+(1:Int)))))))) (.out (.r0 0 0)))
noncomputable def g62(x:Body):P62→List Item × St
 |.e=>bd Tryz.f62 [tShown.lst x.shown,fG 63 [.cref 2 fun q=>([.str x.name,tShown.lst x.shown]:List V).getD q uU]] 23
 |.l0 x0_11=>(cutOf Tryz.f62 0,⟨mk 25 [(1,fG 63 [.cref 2 fun q=>([.str x.name,tShown.lst x.shown]:List V).getD q uU]),(9,tShown.lst x.shown),(10,iI (x.shown.length:Int)),(11,iI x0_11)],[],[]⟩)
noncomputable def n62:R62→Exit × St
 |.r0 r0 r1=>(.ret,⟨mk 25 [(4,iI r0),(5,iI r1)],[],[]⟩)
noncomputable def v62:R62→V
 |.r0 r0 r1=>.tuple [iI r0,iI r1]
theorem s62(x:Body):Sm 0 (g62 x) (T62 x) (n62)
 |.e=>⟨400,by kernel_rfl⟩
 |.l0 _=>⟨400,by kernel_rfl⟩
theorem q62:∀r,bodyQ Tryz.prog Tryz.f62 (·=v62 r) (n62 r).1 (n62 r).2
 |.r0 r0 r1=>bq (.tuple [iI r0,iI r1]) (by kernel_rfl)
theorem w62(x:Body){post:V→Prop}(h:WQ (T62 x) v62 post .e):PC 62 [tShown.lst x.shown,fG 63 [.cref 2 fun q=>([.str x.name,tShown.lst x.shown]:List V).getD q uU]] post:=
 PCalls.wq Tryz.func62 (s62 x) q62 h
theorem c62(x:Body)(hl:x.shown.length≤3):PC 62 [tShown.lst x.shown,fG 63 [xB x]] (·=.tuple [iI (firstR (shownAt x.shown) x.shown).1,iI (firstR (shownAt x.shown) x.shown).2]):=by
 refine w62 _ (WP.step ?_)
 simp only[T62,Go,Ends',v62,Tr.sure,SS]
 repeat' with_reducible first|intro _|apply And.intro
 refine WP.findE (fun i=>.l0 i) rfl x.shown zShown (shownAt x.shown) (fun i hi=> ?_) fun hI=> ?_
 ·have hr:inR .i64 ((i:Int)+1)=true:=inR64 (by omega) (by omega)
  have hi':(i:Int)<x.shown.length:=by omega
  have k63:=c63 x i (x.shown.getD i zShown) hi hl
  have hR:=fun(e:Int) (he:firstE (shownAt x.shown) 0 x.shown=some (i,e))=>firstR_some he
  generalize hZ:shownAt x.shown i (x.shown.getD i zShown)=Z at*
  refine WP.once ?_
  simp only[T62,Tr.sure,SS,hi',z3,hZ]
  repeat' with_reducible first|intro _|apply And.intro
  all_goals first|exact k63|(simp[hr,firstR,Go,Ends',v62,-List.getD_eq_getElem?_getD, *];done)|(simp_all [hr,firstR,Go,Ends',v62,-List.getD_eq_getElem?_getD];done)
 ·have hR:=firstR_none hI
  refine WP.step ?_
  simp only[T62,Go,Ends',v62,Tr.sure,SS,Int.lt_irrefl]
  repeat' with_reducible first|intro _|apply And.intro
  all_goals simp[hR,Go,Ends',v62,-List.getD_eq_getElem?_getD, *]
inductive P58
 |e
inductive R58
 |r0 (r0:Int)
noncomputable def T58(i:Int)(x:Body)(b:Book):P58→Tr P58 R58
 |.e=>let c1:=firstR (shownAt x.shown) x.shown;let c2:=([.str x.name,tShown.lst x.shown]:List V);(.call 59 [.str x.name] (.bool (nameOk x.name)) true true (.br (!(nameOk x.name)) (.out (.r0 6)) (.need ((decide (0≤(0:Int))&&decide ((0:Int)≤i))&&decide (i≤(b.bodies.length:Int))) (.call 60 [.list 2 ((i).toNat-((0:Int)).toNat) (fun i j=>rowsOf tBody b.bodies (((0:Int)).toNat+i) j),fG 61 [.cref 2 fun q=>c2.getD q uU]] (.bool ((b.bodies.take ((i).toNat)).any fun y=>same y.name x.name)) true true (.br ((b.bodies.take ((i).toNat)).any fun y=>same y.name x.name) (.out (.r0 5)) (.br (decide ((x.shown.length:Int)>(3:Int))) (.out (.r0 3)) (.call 62 [tShown.lst x.shown,fG 63 [.cref 2 fun q=>c2.getD q uU]] (.tuple [iI (c1.1),iI (c1.2)]) true true (.out (.r0 (c1.2))))))))))
noncomputable def g58(i:Int)(x:Body)(b:Book):P58→List Item × St
 |.e=>bd Tryz.f58 [iI i,.agg [.str x.name,tShown.lst x.shown],.cref 3 fun q=>((cC b):List V).getD q uU] 30
noncomputable def n58:R58→Exit × St
 |.r0 r0=>(.ret,⟨mk 33 [(5,iI r0)],[],[]⟩)
noncomputable def v58:R58→V
 |.r0 r0=>iI r0
theorem s58(i:Int)(x:Body)(b:Book):Sm 0 (g58 i x b) (T58 i x b) (n58)
 |.e=>⟨400,by kernel_rfl⟩
theorem q58:∀r,bodyQ Tryz.prog Tryz.f58 (·=v58 r) (n58 r).1 (n58 r).2
 |.r0 r0=>bq (iI r0) (by kernel_rfl)
theorem w58(i:Int)(x:Body)(b:Book){post:V→Prop}(h:WQ (T58 i x b) v58 post .e):PC 58 [iI i,.agg [.str x.name,tShown.lst x.shown],.cref 3 fun q=>((cC b):List V).getD q uU] post:=
 PCalls.wq Tryz.func58 (s58 i x b) q58 h
abbrev cB(b:Book):V:=.cref 3 fun q=>(tBook.cells b).getD q uU
theorem c58(b:Book)(i:Nat)(x:Body)(hi:i<b.bodies.length)(hl:b.bodies.length≤5):PC 58 [iI (i:Int),.agg (tBody.cells x),cB b] (·=iI (bodyAt b.bodies i x)):=by
 have hi':(i:Int)<b.bodies.length:=by omega
 have hile:(i:Int)≤b.bodies.length:=by omega
 have k60:=c60t b.bodies x (i:=i) (by omega)
 have e:bodyAt b.bodies i x=if !nameOk x.name then 6 else if((b.bodies.take i).any fun y=>same y.name x.name)=true then 5 else shownErr x.shown:=by
  unfold bodyAt newErr
  rw[←List.map_take,List.any_map]
  have:((fun o=>same o x.name)∘fun(y:Body)=>y.name)=fun y=>same y.name x.name:=rfl
  rw[this]
  cases nameOk x.name with
  |false=>rfl
  |true=>
   cases(b.bodies.take i).any fun y=>same y.name x.name with
   |false=>rfl
   |true=>rfl
 have k59:=c59 x.name
 rw[e]
 generalize hA:(b.bodies.take i).any (fun y=>same y.name x.name)=A at*
 cases hn:nameOk x.name with
 |false=>
  rw[hn]at k59
  refine w58 _ _ _ (WP.step ?_)
  simp only[T58,Go,Ends',v58,Tr.sure,SS,hn]
  repeat' with_reducible first|intro _|apply And.intro
  all_goals first|exact k59|(simp[hn,Go,Ends',v58,-List.getD_eq_getElem?_getD, *];done)
 |true=>
  rw[hn]at k59
  cases A with
  |true=>
   refine w58 _ _ _ (WP.step ?_)
   simp only[T58,Go,Ends',v58,Tr.sure,SS,hn,hA,hile]
   repeat' with_reducible first|intro _|apply And.intro
   all_goals first|exact k59|exact k60|(simp[hn,Go,Ends',v58,-List.getD_eq_getElem?_getD, *];done)
  |false=>
   by_cases h3:(3:Int)<x.shown.length
   ·have es:shownErr x.shown=3:=if_pos h3
    refine w58 _ _ _ (WP.step ?_)
    simp only[T58,Go,Ends',v58,Tr.sure,SS,hn,hA,hile,h3]
    repeat' with_reducible first|intro _|apply And.intro
    all_goals first|exact k59|exact k60|(simp[hn,es,Go,Ends',v58,-List.getD_eq_getElem?_getD, *];done)
   ·have es:shownErr x.shown=(firstR (shownAt x.shown) x.shown).2:=if_neg h3
    have k62:=c62 x (by omega)
    refine w58 _ _ _ (WP.step ?_)
    simp only[T58,Go,Ends',v58,Tr.sure,SS,hn,hA,hile,h3]
    repeat' with_reducible first|intro _|apply And.intro
    all_goals first|exact k59|exact k60|exact k62|(simp[hn,es,Go,Ends',v58,-List.getD_eq_getElem?_getD, *];done)
inductive P57
 |e
 |l0 (x0_11:Int)
inductive R57
 |r0 (r0:Int) (r1:Int)
noncomputable def T57(b:Book):P57→Tr P57 R57
 |.e=>(.go (.l0 0))
 |.l0 x0_11=>let c1:=b.bodies.getD (x0_11).toNat tBody.zero;let c2:=bodyAt b.bodies (x0_11).toNat c1;let c3:=x0_11<(b.bodies.length:Int);(.br (decide c3) (.need (decide (0≤x0_11)&&decide c3) (.call 58 [iI x0_11,.agg [.str (c1.name),tShown.lst (c1.shown)],.cref 3 fun q=>((cC b):List V).getD q uU] (iI c2) true true (.br (c2 !=(0:Int)) (.out (.r0 x0_11 c2)) (.need (inR .i64 (x0_11+(1:Int))) (.go (.l0 (x0_11+(1:Int)))))))) (.out (.r0 0 0)))
noncomputable def g57(b:Book):P57→List Item × St
 |.e=>bd Tryz.f57 [tBody.lst b.bodies,fG 58 [.cref 3 fun q=>((cC b):List V).getD q uU]] 23
 |.l0 x0_11=>(cutOf Tryz.f57 0,⟨mk 25 [(1,fG 58 [.cref 3 fun q=>((cC b):List V).getD q uU]),(9,tBody.lst b.bodies),(10,iI (b.bodies.length:Int)),(11,iI x0_11)],[],[]⟩)
noncomputable def n57:R57→Exit × St
 |.r0 r0 r1=>(.ret,⟨mk 25 [(4,iI r0),(5,iI r1)],[],[]⟩)
noncomputable def v57:R57→V
 |.r0 r0 r1=>.tuple [iI r0,iI r1]
theorem s57(b:Book):Sm 0 (g57 b) (T57 b) (n57)
 |.e=>⟨400,by kernel_rfl⟩
 |.l0 _=>⟨400,by kernel_rfl⟩
theorem q57:∀r,bodyQ Tryz.prog Tryz.f57 (·=v57 r) (n57 r).1 (n57 r).2
 |.r0 r0 r1=>bq (.tuple [iI r0,iI r1]) (by kernel_rfl)
theorem w57(b:Book){post:V→Prop}(h:WQ (T57 b) v57 post .e):PC 57 [tBody.lst b.bodies,fG 58 [.cref 3 fun q=>((cC b):List V).getD q uU]] post:=
 PCalls.wq Tryz.func57 (s57 b) q57 h
theorem c57(b:Book)(hl:b.bodies.length≤5):PC 57 [tBody.lst b.bodies,fG 58 [cB b]] (·=.tuple [iI (firstR (bodyAt b.bodies) b.bodies).1,iI (firstR (bodyAt b.bodies) b.bodies).2]):=by
 refine w57 _ (WP.step ?_)
 simp only[T57,Go,Ends',v57,Tr.sure,SS]
 repeat' with_reducible first|intro _|apply And.intro
 refine WP.findE (fun i=>.l0 i) rfl b.bodies zBody (bodyAt b.bodies) (fun i hi=> ?_) fun hI=> ?_
 ·have hr:inR .i64 ((i:Int)+1)=true:=inR64 (by omega) (by omega)
  have hi':(i:Int)<b.bodies.length:=by omega
  have k58:=c58 b i (b.bodies.getD i zBody) hi hl
  generalize hZ:bodyAt b.bodies i (b.bodies.getD i zBody)=Z at*
  refine WP.once ?_
  simp only[T57,Tr.sure,SS,hi',z2,hZ]
  repeat' with_reducible first|intro _|apply And.intro
  all_goals first|exact k58|(simp[hr,firstR,Go,Ends',v57,-List.getD_eq_getElem?_getD, *];done)|(simp_all [hr,firstR,Go,Ends',v57,-List.getD_eq_getElem?_getD];done)
 ·have hR:=firstR_none hI
  refine WP.step ?_
  simp only[T57,Go,Ends',v57,Tr.sure,SS,Int.lt_irrefl]
  repeat' with_reducible first|intro _|apply And.intro
  all_goals simp[hR,Go,Ends',v57,-List.getD_eq_getElem?_getD, *]
inductive P105
 |e
 |l0 (x0_8:Int)
inductive R105
 |r0 (r0:Int)
noncomputable def T105(s:List ByteArray)(v:ByteArray):P105→Tr P105 R105
 |.e=>(.go (.l0 0))
 |.l0 x0_8=>(.br (decide (x0_8<(s.length:Int))) (.need (decide (0≤x0_8)&&decide (x0_8<(s.length:Int))) (.br (v.toList==(s.getD (x0_8).toNat tstr.zero).toList) (.out (.r0 x0_8)) (.need (inR .i64 (x0_8+(1:Int))) (.go (.l0 (x0_8+(1:Int))))))) (.out (.r0 (-1))))
noncomputable def g105(s:List ByteArray)(v:ByteArray):P105→List Item × St
 |.e=>bd Tryz.f105 [tstr.lst s,.str v] 17
 |.l0 x0_8=>(cutOf Tryz.f105 0,⟨mk 19 [(0,tstr.lst s),(1,.str v),(7,iI (s.length:Int)),(8,iI x0_8)],[],[]⟩)
noncomputable def n105:R105→Exit × St
 |.r0 r0=>(.ret,⟨mk 19 [(4,iI r0)],[],[]⟩)
noncomputable def v105:R105→V
 |.r0 r0=>iI r0
theorem s105(s:List ByteArray)(v:ByteArray):Sm 0 (g105 s v) (T105 s v) (n105)
 |.e=>⟨400,by kernel_rfl⟩
 |.l0 _=>⟨400,by kernel_rfl⟩
theorem q105:∀r,bodyQ Tryz.prog Tryz.f105 (·=v105 r) (n105 r).1 (n105 r).2
 |.r0 r0=>bq (iI r0) (by kernel_rfl)
theorem w105(s:List ByteArray)(v:ByteArray){post:V→Prop}(h:WQ (T105 s v) v105 post .e):PC 105 [tstr.lst s,.str v] post:=
 PCalls.wq Tryz.func105 (s105 s v) q105 h
theorem e105:∀xs w,(callFunc 105 xs).run Tryz.prog w=.ok (.enter 105 xs) w:=PCalls.enters Tryz.func105 (c:=Tryz.f105.body.getD .skip) (by kernel_rfl) (by kernel_rfl)
theorem c105(s:List ByteArray)(v:ByteArray):PC 105 [tstr.lst s,.str v] (·=iI (place (firstI (fun o=>same v o) 0 s))):=by
 refine PCalls.assume e105 0 (by simp) .list fun hs=> ?_
 refine w105 _ _ (WP.step ?_)
 simp only[T105,Go,Ends',v105,Tr.sure,SS]
 repeat' with_reducible first|intro _|apply And.intro
 refine WP.findI (fun i=>.l0 i) rfl s ByteArray.empty (fun o=>same v o) (fun i hi=> ?_) fun hI=> ?_
 ·have hr:=inRi hi hs
  have es:same v (s.getD i ByteArray.empty)=(v.toList==(s.getD i ByteArray.empty).toList):=rfl
  refine WP.once ?_
  simp only[T105,Tr.sure,SS,hi,z12]
  repeat' with_reducible first|intro _|apply And.intro
  all_goals first|(simp[hr,place,es,Go,Ends',v105,-List.getD_eq_getElem?_getD, *];done)|(simp_all [hr,place,es,Go,Ends',v105,-List.getD_eq_getElem?_getD];done)
 ·refine WP.step ?_
  simp only[T105,Go,Ends',v105,Tr.sure,SS]
  repeat' with_reducible first|intro _|apply And.intro
  all_goals simp[hI,place,Go,Ends',v105,-List.getD_eq_getElem?_getD, *]
inductive P67
 |e
inductive R67
 |r0 (r0:Bool)
noncomputable def T67(s:List ByteArray)(v:ByteArray):P67→Tr P67 R67
 |.e=>(.call 105 [tstr.lst s,.str v] (iI (place (firstI (fun o=>same v o) 0 s))) true true (.out (.r0 (decide ((place (firstI (fun o=>same v o) 0 s))≥(0:Int))))))
noncomputable def g67(s:List ByteArray)(v:ByteArray):P67→List Item × St
 |.e=>bd Tryz.f67 [tstr.lst s,.str v] 7
noncomputable def n67:R67→Exit × St
 |.r0 r0=>(.ret,⟨mk 9 [(4,.bool r0)],[],[]⟩)
noncomputable def v67:R67→V
 |.r0 r0=>.bool r0
theorem s67(s:List ByteArray)(v:ByteArray):Sm 0 (g67 s v) (T67 s v) (n67)
 |.e=>⟨400,by kernel_rfl⟩
theorem q67:∀r,bodyQ Tryz.prog Tryz.f67 (·=v67 r) (n67 r).1 (n67 r).2
 |.r0 r0=>bq (.bool r0) (by kernel_rfl)
theorem w67(s:List ByteArray)(v:ByteArray){post:V→Prop}(h:WQ (T67 s v) v67 post .e):PC 67 [tstr.lst s,.str v] post:=
 PCalls.wq Tryz.func67 (s67 s v) q67 h
theorem same_symm(a b:ByteArray):same a b=same b a:=by unfold same;rw[Bool.eq_iff_iff,beq_iff_eq,beq_iff_eq];exact eq_comm
theorem c67(s:List ByteArray)(v:ByteArray):PC 67 [tstr.lst s,.str v] (·=.bool (s.any fun o=>same o v)):=by
 have h1:decide (0≤place (firstI (fun o=>same v o) 0 s))=s.any fun o=>same o v:=by
  have:(fun o=>same o v)=fun o=>same v o:=funext fun o=>same_symm o v
  rw[this,←firstI_any _ s 0,Bool.eq_iff_iff,decide_eq_true_iff];exact place_ge _
 refine w67 _ _ (WP.step ?_)
 simp only[T67,Go,Ends',v67,Tr.sure,SS]
 repeat' with_reducible first|intro _|apply And.intro
 all_goals first|exact c105 _ _|(simp[h1,Go,Ends',v67,-List.getD_eq_getElem?_getD, *];done)
theorem c67t(l:List ByteArray)(v:ByteArray){i:Nat}(h:i≤l.length):PC 67 [.list 1 i (fun r j=>rowsOf tstr l (0+r) j),.str v] (·=.bool ((l.take i).any fun o=>same o v)):=
 PCalls.arg (pre:=[]) (c67 (l.take i) v) (VLe.take tstr l h)
inductive P66
 |e
inductive R66
 |r0 (r0:Int)
noncomputable def T66(i:Int)(s:ByteArray)(b:Book):P66→Tr P66 R66
 |.e=>(.call 59 [.str s] (.bool (nameOk s)) true true (.br (!(nameOk s)) (.out (.r0 6)) (.need ((decide (0≤(0:Int))&&decide ((0:Int)≤i))&&decide (i≤(b.heads.length:Int))) (.call 67 [.list 1 ((i).toNat-((0:Int)).toNat) (fun i j=>rowsOf tstr b.heads (((0:Int)).toNat+i) j),.str s] (.bool ((b.heads.take ((i).toNat)).any fun o=>same o s)) true true (.br ((b.heads.take ((i).toNat)).any fun o=>same o s) (.out (.r0 5)) (.out (.r0 0)))))))
noncomputable def g66(i:Int)(s:ByteArray)(b:Book):P66→List Item × St
 |.e=>bd Tryz.f66 [iI i,.str s,.cref 3 fun q=>((cC b):List V).getD q uU] 14
noncomputable def n66:R66→Exit × St
 |.r0 r0=>(.ret,⟨mk 17 [(5,iI r0)],[],[]⟩)
noncomputable def v66:R66→V
 |.r0 r0=>iI r0
theorem s66(i:Int)(s:ByteArray)(b:Book):Sm 0 (g66 i s b) (T66 i s b) (n66)
 |.e=>⟨400,by kernel_rfl⟩
theorem q66:∀r,bodyQ Tryz.prog Tryz.f66 (·=v66 r) (n66 r).1 (n66 r).2
 |.r0 r0=>bq (iI r0) (by kernel_rfl)
theorem w66(i:Int)(s:ByteArray)(b:Book){post:V→Prop}(h:WQ (T66 i s b) v66 post .e):PC 66 [iI i,.str s,.cref 3 fun q=>((cC b):List V).getD q uU] post:=
 PCalls.wq Tryz.func66 (s66 i s b) q66 h
theorem c66(b:Book)(i:Nat)(s:ByteArray)(hi:i<b.heads.length):PC 66 [iI (i:Int),.str s,cB b] (·=iI (headAt b.heads i s)):=by
 have hile:(i:Int)≤b.heads.length:=by omega
 have k67:=c67t b.heads s (i:=i) (by omega)
 have e:headAt b.heads i s=if !nameOk s then 6 else if((b.heads.take i).any fun o=>same o s)=true then 5 else 0:=rfl
 have k59:=c59 s
 rw[e]
 generalize hA:(b.heads.take i).any (fun o=>same o s)=A at*
 refine w66 _ _ _ (WP.step ?_)
 simp only[T66,Go,Ends',v66,Tr.sure,SS,hA,hile]
 repeat' with_reducible first|intro _|apply And.intro
 all_goals first|exact k59|exact k67|(simp[Go,Ends',v66,-List.getD_eq_getElem?_getD, *];done)
inductive P65
 |e
 |l0 (x0_11:Int)
inductive R65
 |r0 (r0:Int) (r1:Int)
noncomputable def T65(b:Book):P65→Tr P65 R65
 |.e=>(.go (.l0 0))
 |.l0 x0_11=>let c1:=headAt b.heads (x0_11).toNat (b.heads.getD (x0_11).toNat tstr.zero);let c2:=x0_11<(b.heads.length:Int);(.br (decide c2) (.need (decide (0≤x0_11)&&decide c2) (.call 66 [iI x0_11,.str (b.heads.getD (x0_11).toNat tstr.zero),.cref 3 fun q=>((cC b):List V).getD q uU] (iI c1) true true (.br (c1 !=(0:Int)) (.out (.r0 x0_11 c1)) (.need (inR .i64 (x0_11+(1:Int))) (.go (.l0 (x0_11+(1:Int)))))))) (.out (.r0 0 0)))
noncomputable def g65(b:Book):P65→List Item × St
 |.e=>bd Tryz.f65 [tstr.lst b.heads,fG 66 [.cref 3 fun q=>((cC b):List V).getD q uU]] 23
 |.l0 x0_11=>(cutOf Tryz.f65 0,⟨mk 25 [(1,fG 66 [.cref 3 fun q=>((cC b):List V).getD q uU]),(9,tstr.lst b.heads),(10,iI (b.heads.length:Int)),(11,iI x0_11)],[],[]⟩)
noncomputable def n65:R65→Exit × St
 |.r0 r0 r1=>(.ret,⟨mk 25 [(4,iI r0),(5,iI r1)],[],[]⟩)
noncomputable def v65:R65→V
 |.r0 r0 r1=>.tuple [iI r0,iI r1]
theorem s65(b:Book):Sm 0 (g65 b) (T65 b) (n65)
 |.e=>⟨400,by kernel_rfl⟩
 |.l0 _=>⟨400,by kernel_rfl⟩
theorem q65:∀r,bodyQ Tryz.prog Tryz.f65 (·=v65 r) (n65 r).1 (n65 r).2
 |.r0 r0 r1=>bq (.tuple [iI r0,iI r1]) (by kernel_rfl)
theorem w65(b:Book){post:V→Prop}(h:WQ (T65 b) v65 post .e):PC 65 [tstr.lst b.heads,fG 66 [.cref 3 fun q=>((cC b):List V).getD q uU]] post:=
 PCalls.wq Tryz.func65 (s65 b) q65 h
theorem c65(b:Book)(hl:b.heads.length≤5):PC 65 [tstr.lst b.heads,fG 66 [cB b]] (·=.tuple [iI (firstR (headAt b.heads) b.heads).1,iI (firstR (headAt b.heads) b.heads).2]):=by
 refine w65 _ (WP.step ?_)
 simp only[T65,Go,Ends',v65,Tr.sure,SS]
 repeat' with_reducible first|intro _|apply And.intro
 refine WP.findE (fun i=>.l0 i) rfl b.heads ByteArray.empty (headAt b.heads) (fun i hi=> ?_) fun hI=> ?_
 ·have hr:inR .i64 ((i:Int)+1)=true:=inR64 (by omega) (by omega)
  have hi':(i:Int)<b.heads.length:=by omega
  have k66:=c66 b i (b.heads.getD i ByteArray.empty) hi
  generalize hZ:headAt b.heads i (b.heads.getD i ByteArray.empty)=Z at*
  refine WP.once ?_
  simp only[T65,Tr.sure,SS,hi',z12,hZ]
  repeat' with_reducible first|intro _|apply And.intro
  all_goals first|exact k66|(simp[hr,firstR,Go,Ends',v65,-List.getD_eq_getElem?_getD, *];done)|(simp_all [hr,firstR,Go,Ends',v65,-List.getD_eq_getElem?_getD];done)
 ·have hR:=firstR_none hI
  refine WP.step ?_
  simp only[T65,Go,Ends',v65,Tr.sure,SS,Int.lt_irrefl]
  repeat' with_reducible first|intro _|apply And.intro
  all_goals simp[hR,Go,Ends',v65,-List.getD_eq_getElem?_getD, *]
end
noncomputable section
def oc0(p0:Int):Int:=(IntKind.wrap .u64 ((bitsOf .and .u64 (p0.fdiv (2^(min ((1:Int)).toNat 64))) (6148914691236517205:Int))+(bitsOf .and .u64 p0 (6148914691236517205:Int))))
def oc1(p0:Int):Int:=(IntKind.wrap .u64 ((bitsOf .and .u64 ((oc0 p0).fdiv (2^(min ((2:Int)).toNat 64))) (3689348814741910323:Int))+(bitsOf .and .u64 (oc0 p0) (3689348814741910323:Int))))
def oc2(p0:Int):Int:=(bitsOf .and .u64 (IntKind.wrap .u64 (((oc1 p0).fdiv (2^(min ((4:Int)).toNat 64)))+(oc1 p0))) (1085102592571150095:Int))
def oc3(p0:Int):Int:=(IntKind.wrap .u64 ((oc2 p0)+((oc2 p0).fdiv (2^(min ((8:Int)).toNat 64)))))
def oc4(p0:Int):Int:=(IntKind.wrap .u64 ((oc3 p0)+((oc3 p0).fdiv (2^(min ((16:Int)).toNat 64)))))
def oc5(p0:Int):Int:=(IntKind.wrap .u64 ((oc4 p0)+((oc4 p0).fdiv (2^(min ((32:Int)).toNat 64)))))
inductive P129
 |e
inductive R129
 |r0 (r0:Int)
noncomputable def T129(p0:Int):P129→Tr P129 R129
 |.e=>let c1:=(6148914691236517205:Int);let c2:=(3689348814741910323:Int);(.need (decide (0≤(1:Int))) (.need true (.wait 1 (.vle 0 (.int .u64 (IntKind.wrap .u64 ((bitsOf .and .u64 (p0.fdiv (2^(min ((1:Int)).toNat 64))) c1)+(bitsOf .and .u64 p0 c1)))) (.int .u64 (oc0 p0)) (.need (decide (0≤(2:Int))) (.need true (.wait 1 (.vle 0 (.int .u64 (IntKind.wrap .u64 ((bitsOf .and .u64 ((oc0 p0).fdiv (2^(min ((2:Int)).toNat 64))) c2)+(bitsOf .and .u64 (oc0 p0) c2)))) (.int .u64 (oc1 p0)) (.need (decide (0≤(4:Int))) (.need true (.wait 1 (.vle 0 (.int .u64 (bitsOf .and .u64 (IntKind.wrap .u64 (((oc1 p0).fdiv (2^(min ((4:Int)).toNat 64)))+(oc1 p0))) (1085102592571150095:Int))) (.int .u64 (oc2 p0)) (.need (decide (0≤(8:Int))) (.need true (.wait 1 (.vle 0 (.int .u64 (IntKind.wrap .u64 ((oc2 p0)+((oc2 p0).fdiv (2^(min ((8:Int)).toNat 64)))))) (.int .u64 (oc3 p0)) (.need (decide (0≤(16:Int))) (.need true (.wait 1 (.vle 0 (.int .u64 (IntKind.wrap .u64 ((oc3 p0)+((oc3 p0).fdiv (2^(min ((16:Int)).toNat 64)))))) (.int .u64 (oc4 p0)) (.need (decide (0≤(32:Int))) (.need true (.wait 1 (.vle 0 (.int .u64 (IntKind.wrap .u64 ((oc4 p0)+((oc4 p0).fdiv (2^(min ((32:Int)).toNat 64)))))) (.int .u64 (oc5 p0)) (.need (inR .i64 (oc5 p0)) (.out (.r0 (bitsOf .and .i64 (oc5 p0) (127:Int)))))))))))))))))))))))))))))
noncomputable def g129(p0:Int):P129→List Item × St
 |.e=>bd Tryz.f129 [.int .u64 p0] 34
noncomputable def n129:R129→Exit × St
 |.r0 r0=>(.ret,⟨mk 35 [(2,iI r0)],[],[]⟩)
noncomputable def v129:R129→V
 |.r0 r0=>iI r0
theorem s129(p0:Int):Sm 0 (g129 p0) (T129 p0) (n129)
 |.e=>⟨400,by kernel_rfl⟩
theorem q129:∀r,bodyQ Tryz.prog Tryz.f129 (·=v129 r) (n129 r).1 (n129 r).2
 |.r0 r0=>bq (iI r0) (by kernel_rfl)
theorem w129(p0:Int){post:V→Prop}(h:WQ (T129 p0) v129 post .e):PC 129 [.int .u64 p0] post:=
 PCalls.wq Tryz.func129 (s129 p0) q129 h
def ones(p0:Int):Int:=bitsOf .and .i64 (oc5 p0) (127:Int)
theorem oc5_small:∀k:Fin 32,0≤oc5 (k:Nat)∧oc5 (k:Nat)≤5∧ones (k:Nat)=((bitsR (k:Nat)).length:Int):=by decide
theorem c129(s:Int)(h:0≤s∧s≤31):PC 129 [.int .u64 s] (·=iI ((bitsR s).length:Int)):=by
 obtain⟨k,rfl⟩:∃k:Fin 32,s=((k:Nat):Int):=⟨⟨s.toNat,by omega⟩,by simp only;omega⟩
 obtain⟨o1,o2,o3⟩:=oc5_small k
 have hr:inR .i64 (oc5 (k:Nat))=true:=inR64 (by omega) (by omega)
 have ho:bitsOf .and .i64 (oc5 ((k:Nat):Int)) 127=((bitsR ((k:Nat):Int)).length:Int):=o3
 rw[←ho]
 refine w129 _ (WP.step ?_)
 simp only[T129,Go,Ends',v129,Tr.sure,SS]
 repeat' with_reducible first|intro _|apply And.intro
 all_goals first|exact VLe.refl _|(simp[hr,Go,Ends',v129,-List.getD_eq_getElem?_getD, *];done)
inductive P107
 |e
inductive R107
 |r0 (r0:Int)
noncomputable def T107(s:Int):P107→Tr P107 R107
 |.e=>(.lit false (.call 129 [.int .u64 s] (iI ((bitsR s).length:Int)) true true (.out (.r0 ((bitsR s).length:Int)))))
noncomputable def g107(s:Int):P107→List Item × St
 |.e=>bd Tryz.f107 [.int .u64 s] 7
noncomputable def n107:R107→Exit × St
 |.r0 r0=>(.ret,⟨mk 8 [(2,iI r0)],[],[]⟩)
noncomputable def v107:R107→V
 |.r0 r0=>iI r0
theorem s107(s:Int):Sm 0 (g107 s) (T107 s) (n107)
 |.e=>⟨400,by kernel_rfl⟩
theorem q107:∀r,bodyQ Tryz.prog Tryz.f107 (·=v107 r) (n107 r).1 (n107 r).2
 |.r0 r0=>bq (iI r0) (by kernel_rfl)
theorem w107(s:Int){post:V→Prop}(h:WQ (T107 s) v107 post .e):PC 107 [.int .u64 s] post:=
 PCalls.wq Tryz.func107 (s107 s) q107 h
theorem c107(s:Int)(h:0≤s∧s≤31):PC 107 [.int .u64 s] (·=iI ((bitsR s).length:Int)):=by
 refine w107 _ (WP.step ?_)
 simp only[T107,Go,Ends',v107,Tr.sure,SS]
 repeat' with_reducible first|intro _|apply And.intro
 all_goals exact c129 s h
inductive P106
 |e
inductive R106
 |r0 (r0_0:Int) (r0_1:Bool) (r0_3:Int) (r0_4:Bool) (r0_6:Int) (r0_7:Bool) (r0_9:Int) (r0_10:Bool) (r0_12:Int) (r0_13:Bool)
noncomputable def T106:P106→Tr P106 R106
 |.e=>(.out (.r0 2 true 4 true 0 false 2 false 2 false))
noncomputable def g106:P106→List Item × St
 |.e=>bd Tryz.f106 [] 10
noncomputable def n106:R106→Exit × St
 |.r0 r0_0 r0_1 r0_3 r0_4 r0_6 r0_7 r0_9 r0_10 r0_12 r0_13=>(.ret,⟨mk 10 [(0,.ref 0 0 0)],[.rows 162 3 5 (fun r j=>([iI r0_0,.bool r0_1,fF 123,iI r0_3,.bool r0_4,fF 125,iI r0_6,.bool r0_7,fF 126,iI r0_9,.bool r0_10,fF 122,iI r0_12,.bool r0_13,fF 122]:List V).getD (r*3+j) uU)],[]⟩)
noncomputable def v106:R106→V
 |.r0 r0_0 r0_1 r0_3 r0_4 r0_6 r0_7 r0_9 r0_10 r0_12 r0_13=>.arr 3 5 (fun r j=>([iI r0_0,.bool r0_1,fF 123,iI r0_3,.bool r0_4,fF 125,iI r0_6,.bool r0_7,fF 126,iI r0_9,.bool r0_10,fF 122,iI r0_12,.bool r0_13,fF 122]:List V).getD (r*3+j) uU)
theorem s106:Sm 0 (g106) (T106) (n106)
 |.e=>⟨400,by kernel_rfl⟩
theorem q106:∀r,bodyQ Tryz.prog Tryz.f106 (·=v106 r) (n106 r).1 (n106 r).2
 |.r0 r0_0 r0_1 r0_3 r0_4 r0_6 r0_7 r0_9 r0_10 r0_12 r0_13=>bq (.arr 3 5 (fun r j=>([iI r0_0,.bool r0_1,fF 123,iI r0_3,.bool r0_4,fF 125,iI r0_6,.bool r0_7,fF 126,iI r0_9,.bool r0_10,fF 122,iI r0_12,.bool r0_13,fF 122]:List V).getD (r*3+j) uU)) (by kernel_rfl)
theorem w106{post:V→Prop}(h:WQ (T106) v106 post .e):PC 106 [] post:=
 PCalls.wq Tryz.func106 (s106) q106 h
def formsC:Nat→Nat→V:=fun r j=>([iI 2,.bool true,fF 123,iI 4,.bool true,fF 125,iI 0,.bool false,fF 126,iI 2,.bool false,fF 122,iI 2,.bool false,fF 122]:List V).getD (r*3+j) uU
theorem c106:PC 106 [] (·=.arr 3 5 formsC):=by
 refine w106 (WP.step ?_)
 exact rfl
theorem c64s(lo hi:Int)(l:List Int)(a b:Nat)(h:b≤l.length):PC 64 [iI lo,iI hi,.list 1 (b-a) (fun i j=>rowsOf tint l (a+i) j)] (·=.bool (outside lo hi ((l.drop a).take (b-a)))):=by
 refine PCalls.arg (pre:=[iI lo,iI hi]) (c64 lo hi ((l.drop a).take (b-a))) ?_
 have hl:((l.drop a).take (b-a)).length=b-a:=by rw[List.length_take,List.length_drop];omega
 show VLe _ (.list 1 ((l.drop a).take (b-a)).length (rowsOf tint ((l.drop a).take (b-a))))
 rw[hl]
 refine VLe.list fun i j hi' hj=> ?_
 have:((l.drop a).take (b-a)).getD i 0=l.getD (a+i) 0:=by rw[List.getD_eq_getElem?_getD,List.getD_eq_getElem?_getD,List.getElem?_take,if_pos hi',List.getElem?_drop]
 simp only[rowsOf,z1,this]
theorem within0{n:Int}:within n 0 0=true↔n=0:=by rw[within_iff];omega
inductive P70_0
 |e
 |l0 (x0_7:Int)
inductive R70_0
 |r0 (r0:Int)
noncomputable def T70_0(bs:Int)(x:Line):P70_0→Tr P70_0 R70_0
 |.e=>let c1:=([x.a,x.b,x.c,x.d]:List Int);let c2:=outside 0 (bs-(1:Int)) ((c1.drop (((0:Int)).toNat)).take (((2:Int)).toNat-((0:Int)).toNat));let c4:=((c1.length):Int);let c3:=outside 0 0 ((c1.drop (((2:Int)).toNat)).take ((c4).toNat-((2:Int)).toNat));let c5:V:=.list 1 4 (litC 1 4 [iI x.a,iI x.b,iI x.c,iI x.d]);(.front [(0,106,[],.arr 3 5 formsC)] [] (((decide (0≤(0:Int))&&decide ((0:Int)<(5:Int)))&&true)&&true) true (.wait 5 (.frz 2 ((decide (4≤4))&&((decide (4≤4))&&true)) (.vle 6 c5 (tint.lst c1) (.vle 20 c5 (tint.lst c1) (.need (inR .i64 (bs-(1:Int))) (.need ((decide (0≤(0:Int))&&decide ((0:Int)≤(2:Int)))&&decide ((2:Int)≤c4)) (.call 64 [iI 0,iI (bs-(1:Int)),.list 1 (((2:Int)).toNat-((0:Int)).toNat) (fun i j=>rowsOf tint c1 (((0:Int)).toNat+i) j)] (.bool c2) true true (.br c2 (.out (.r0 4)) (.front [] [] true true (.lit false (.lit false (.lit false (.lit false (.need ((decide (0≤(2:Int))&&decide ((2:Int)≤c4))&&decide (c4≤c4)) (.call 64 [iI 0,iI 0,.list 1 ((c4).toNat-((2:Int)).toNat) (fun i j=>rowsOf tint c1 (((2:Int)).toNat+i) j)] (.bool c3) true true (.br c3 (.lit true (.lit true (.out (.r0 2)))) (.lit true (.lit false (.br (x.set !=(0:Int)) (.out (.r0 2)) (.go (.l0 0))))))))))))))))))))))
 |.l0 x0_7=>let c1:=([x.a,x.b,x.c,x.d]:List Int);let c2:=x0_7+(1:Int);(.lit true (.br (decide (x0_7<(2:Int))) (.front [] [] (((decide (0≤x0_7)&&decide (x0_7<((c1.length):Int)))&&((inR .i64 c2)&&((decide (0≤c2)&&decide (c2<((c1.length):Int)))&&true)))&&true) true (.br ((c1.getD (x0_7).toNat tint.zero)==(c1.getD (c2).toNat tint.zero)) (.out (.r0 2)) (.need (inR .i64 (x0_7+(2:Int))) (.go (.l0 (x0_7+(2:Int))))))) (.out (.r0 0))))
noncomputable def g70_0(bs:Int)(x:Line):P70_0→List Item × St
 |.e=>bd Tryz.f70 [iI bs,.agg [iI x.day,iI 0,iI x.a,iI x.b,iI x.c,iI x.d,iI x.set]] 87
 |.l0 x0_7=>(cutOf Tryz.f70 0,⟨mk 89 [(5,.ref 1 0 0),(6,tint.lst ([x.a,x.b,x.c,x.d]:List Int)),(7,iI x0_7)],[.gone,.cells [iI 2,.bool true,fF 123]],[]⟩)
noncomputable def n70_0:R70_0→Exit × St
 |.r0 r0=>(.ret,⟨mk 89 [(4,iI r0)],[],[]⟩)
noncomputable def v70_0:R70_0→V
 |.r0 r0=>iI r0
theorem s70_0(bs:Int)(x:Line):Sm 0 (g70_0 bs x) (T70_0 bs x) (n70_0)
 |.e=>⟨400,by kernel_rfl⟩
 |.l0 _=>⟨400,by kernel_rfl⟩
theorem q70_0:∀r,bodyQ Tryz.prog Tryz.f70 (·=v70_0 r) (n70_0 r).1 (n70_0 r).2
 |.r0 r0=>bq (iI r0) (by kernel_rfl)
theorem w70_0(bs:Int)(x:Line){post:V→Prop}(h:WQ (T70_0 bs x) v70_0 post .e):PC 70 [iI bs,.agg [iI x.day,iI 0,iI x.a,iI x.b,iI x.c,iI x.d,iI x.set]] post:=
 PCalls.wq Tryz.func70 (s70_0 bs x) q70_0 h
inductive P70_1
 |e
 |l0 (x0_7:Int)
inductive R70_1
 |r0 (r0:Int)
noncomputable def T70_1(bs:Int)(x:Line):P70_1→Tr P70_1 R70_1
 |.e=>let c1:=([x.a,x.b,x.c,x.d]:List Int);let c2:=outside 0 (bs-(1:Int)) ((c1.drop (((0:Int)).toNat)).take (((4:Int)).toNat-((0:Int)).toNat));let c4:=((c1.length):Int);let c3:=outside 0 0 ((c1.drop (((4:Int)).toNat)).take ((c4).toNat-((4:Int)).toNat));let c5:V:=.list 1 4 (litC 1 4 [iI x.a,iI x.b,iI x.c,iI x.d]);(.front [(0,106,[],.arr 3 5 formsC)] [] (((decide (0≤(1:Int))&&decide ((1:Int)<(5:Int)))&&true)&&true) true (.wait 5 (.frz 2 ((decide (4≤4))&&((decide (4≤4))&&true)) (.vle 6 c5 (tint.lst c1) (.vle 20 c5 (tint.lst c1) (.need (inR .i64 (bs-(1:Int))) (.need ((decide (0≤(0:Int))&&decide ((0:Int)≤(4:Int)))&&decide ((4:Int)≤c4)) (.call 64 [iI 0,iI (bs-(1:Int)),.list 1 (((4:Int)).toNat-((0:Int)).toNat) (fun i j=>rowsOf tint c1 (((0:Int)).toNat+i) j)] (.bool c2) true true (.br c2 (.out (.r0 4)) (.front [] [] true true (.lit false (.lit false (.lit false (.lit false (.need ((decide (0≤(4:Int))&&decide ((4:Int)≤c4))&&decide (c4≤c4)) (.call 64 [iI 0,iI 0,.list 1 ((c4).toNat-((4:Int)).toNat) (fun i j=>rowsOf tint c1 (((4:Int)).toNat+i) j)] (.bool c3) true true (.br c3 (.lit true (.lit true (.out (.r0 2)))) (.lit true (.lit false (.br (x.set !=(0:Int)) (.out (.r0 2)) (.go (.l0 0))))))))))))))))))))))
 |.l0 x0_7=>let c1:=([x.a,x.b,x.c,x.d]:List Int);let c2:=x0_7+(1:Int);(.lit true (.br (decide (x0_7<(4:Int))) (.front [] [] (((decide (0≤x0_7)&&decide (x0_7<((c1.length):Int)))&&((inR .i64 c2)&&((decide (0≤c2)&&decide (c2<((c1.length):Int)))&&true)))&&true) true (.br ((c1.getD (x0_7).toNat tint.zero)==(c1.getD (c2).toNat tint.zero)) (.out (.r0 2)) (.need (inR .i64 (x0_7+(2:Int))) (.go (.l0 (x0_7+(2:Int))))))) (.out (.r0 0))))
noncomputable def g70_1(bs:Int)(x:Line):P70_1→List Item × St
 |.e=>bd Tryz.f70 [iI bs,.agg [iI x.day,iI 1,iI x.a,iI x.b,iI x.c,iI x.d,iI x.set]] 87
 |.l0 x0_7=>(cutOf Tryz.f70 0,⟨mk 89 [(5,.ref 1 0 0),(6,tint.lst ([x.a,x.b,x.c,x.d]:List Int)),(7,iI x0_7)],[.gone,.cells [iI 4,.bool true,fF 125]],[]⟩)
noncomputable def n70_1:R70_1→Exit × St
 |.r0 r0=>(.ret,⟨mk 89 [(4,iI r0)],[],[]⟩)
noncomputable def v70_1:R70_1→V
 |.r0 r0=>iI r0
theorem s70_1(bs:Int)(x:Line):Sm 0 (g70_1 bs x) (T70_1 bs x) (n70_1)
 |.e=>⟨400,by kernel_rfl⟩
 |.l0 _=>⟨400,by kernel_rfl⟩
theorem q70_1:∀r,bodyQ Tryz.prog Tryz.f70 (·=v70_1 r) (n70_1 r).1 (n70_1 r).2
 |.r0 r0=>bq (iI r0) (by kernel_rfl)
theorem w70_1(bs:Int)(x:Line){post:V→Prop}(h:WQ (T70_1 bs x) v70_1 post .e):PC 70 [iI bs,.agg [iI x.day,iI 1,iI x.a,iI x.b,iI x.c,iI x.d,iI x.set]] post:=
 PCalls.wq Tryz.func70 (s70_1 bs x) q70_1 h
inductive P70_2
 |e
 |l0
inductive R70_2
 |r0 (r0:Int)
noncomputable def T70_2(bs:Int)(x:Line):P70_2→Tr P70_2 R70_2
 |.e=>let c1:=([x.a,x.b,x.c,x.d]:List Int);let c2:=((1:Int)*2^(min (bs).toNat 64))-(1:Int);let c3:=outside 0 (bs-(1:Int)) ((c1.drop (((0:Int)).toNat)).take (((0:Int)).toNat-((0:Int)).toNat));let c5:=((c1.length):Int);let c4:=outside 0 0 ((c1.drop (((0:Int)).toNat)).take ((c5).toNat-((0:Int)).toNat));let c6:V:=.list 1 4 (litC 1 4 [iI x.a,iI x.b,iI x.c,iI x.d]);let c7:=((bitsR (IntKind.wrap .u64 x.set)).length:Int);(.front [(0,106,[],.arr 3 5 formsC)] [] (((decide (0≤(2:Int))&&decide ((2:Int)<(5:Int)))&&true)&&true) true (.wait 5 (.frz 2 ((decide (4≤4))&&((decide (4≤4))&&true)) (.vle 6 c6 (tint.lst c1) (.vle 20 c6 (tint.lst c1) (.need (inR .i64 (bs-(1:Int))) (.need ((decide (0≤(0:Int))&&decide ((0:Int)≤(0:Int)))&&decide ((0:Int)≤c5)) (.call 64 [iI 0,iI (bs-(1:Int)),.list 1 (((0:Int)).toNat-((0:Int)).toNat) (fun i j=>rowsOf tint c1 (((0:Int)).toNat+i) j)] (.bool c3) true true (.br c3 (.out (.r0 4)) (.front [] [] (((decide (0≤bs)&&inR .i64 ((1:Int)*2^(min (bs).toNat 64)))&&((inR .i64 c2)&&true))&&true) true (.lit true (.call 64 [iI 0,iI c2,.list 1 1 (litC 1 1 [iI x.set])] (.bool (!within x.set 0 c2)) true true (.br (!within x.set 0 c2) (.out (.r0 4)) (.lit true (.need true (.call 107 [.int .u64 (IntKind.wrap .u64 x.set)] (iI c7) true true (.br (decide (c7<(2:Int))) (.out (.r0 2)) (.need ((decide (0≤(0:Int))&&decide ((0:Int)≤c5))&&decide (c5≤c5)) (.call 64 [iI 0,iI 0,.list 1 ((c5).toNat-((0:Int)).toNat) (fun i j=>rowsOf tint c1 (((0:Int)).toNat+i) j)] (.bool c4) true true (.br c4 (.lit true (.lit true (.out (.r0 2)))) (.lit false (.lit false (.lit false (.go (.l0)))))))))))))))))))))))))
 |.l0=>(.lit false (.lit false (.out (.r0 0))))
noncomputable def g70_2(bs:Int)(x:Line):P70_2→List Item × St
 |.e=>bd Tryz.f70 [iI bs,.agg [iI x.day,iI 2,iI x.a,iI x.b,iI x.c,iI x.d,iI x.set]] 87
 |.l0=>(cutOf Tryz.f70 0,⟨mk 89 [(5,.ref 1 0 0),(6,tint.lst ([x.a,x.b,x.c,x.d]:List Int)),(7,iI 0)],[.gone,.cells [iI 0,.bool false,fF 126]],[]⟩)
noncomputable def n70_2:R70_2→Exit × St
 |.r0 r0=>(.ret,⟨mk 89 [(4,iI r0)],[],[]⟩)
noncomputable def v70_2:R70_2→V
 |.r0 r0=>iI r0
theorem s70_2(bs:Int)(x:Line):Sm 0 (g70_2 bs x) (T70_2 bs x) (n70_2)
 |.e=>⟨400,by kernel_rfl⟩
 |.l0=>⟨400,by kernel_rfl⟩
theorem q70_2:∀r,bodyQ Tryz.prog Tryz.f70 (·=v70_2 r) (n70_2 r).1 (n70_2 r).2
 |.r0 r0=>bq (iI r0) (by kernel_rfl)
theorem w70_2(bs:Int)(x:Line){post:V→Prop}(h:WQ (T70_2 bs x) v70_2 post .e):PC 70 [iI bs,.agg [iI x.day,iI 2,iI x.a,iI x.b,iI x.c,iI x.d,iI x.set]] post:=
 PCalls.wq Tryz.func70 (s70_2 bs x) q70_2 h
inductive P70_3
 |e
 |l0
inductive R70_3
 |r0 (r0:Int)
noncomputable def T70_3(bs:Int)(x:Line):P70_3→Tr P70_3 R70_3
 |.e=>let c1:=([x.a,x.b,x.c,x.d]:List Int);let c2:=outside 0 (bs-(1:Int)) ((c1.drop (((0:Int)).toNat)).take (((2:Int)).toNat-((0:Int)).toNat));let c4:=((c1.length):Int);let c3:=outside 0 0 ((c1.drop (((2:Int)).toNat)).take ((c4).toNat-((2:Int)).toNat));let c5:V:=.list 1 4 (litC 1 4 [iI x.a,iI x.b,iI x.c,iI x.d]);(.front [(0,106,[],.arr 3 5 formsC)] [] (((decide (0≤(3:Int))&&decide ((3:Int)<(5:Int)))&&true)&&true) true (.wait 5 (.frz 2 ((decide (4≤4))&&((decide (4≤4))&&true)) (.vle 6 c5 (tint.lst c1) (.vle 20 c5 (tint.lst c1) (.need (inR .i64 (bs-(1:Int))) (.need ((decide (0≤(0:Int))&&decide ((0:Int)≤(2:Int)))&&decide ((2:Int)≤c4)) (.call 64 [iI 0,iI (bs-(1:Int)),.list 1 (((2:Int)).toNat-((0:Int)).toNat) (fun i j=>rowsOf tint c1 (((0:Int)).toNat+i) j)] (.bool c2) true true (.br c2 (.out (.r0 4)) (.front [] [] true true (.lit false (.lit false (.lit false (.lit false (.need ((decide (0≤(2:Int))&&decide ((2:Int)≤c4))&&decide (c4≤c4)) (.call 64 [iI 0,iI 0,.list 1 ((c4).toNat-((2:Int)).toNat) (fun i j=>rowsOf tint c1 (((2:Int)).toNat+i) j)] (.bool c3) true true (.br c3 (.lit true (.lit true (.out (.r0 2)))) (.lit true (.lit false (.br (x.set !=(0:Int)) (.out (.r0 2)) (.go (.l0))))))))))))))))))))))
 |.l0=>(.lit false (.lit false (.out (.r0 0))))
noncomputable def g70_3(bs:Int)(x:Line):P70_3→List Item × St
 |.e=>bd Tryz.f70 [iI bs,.agg [iI x.day,iI 3,iI x.a,iI x.b,iI x.c,iI x.d,iI x.set]] 87
 |.l0=>(cutOf Tryz.f70 0,⟨mk 89 [(5,.ref 1 0 0),(6,tint.lst ([x.a,x.b,x.c,x.d]:List Int)),(7,iI 0)],[.gone,.cells [iI 2,.bool false,fF 122]],[]⟩)
noncomputable def n70_3:R70_3→Exit × St
 |.r0 r0=>(.ret,⟨mk 89 [(4,iI r0)],[],[]⟩)
noncomputable def v70_3:R70_3→V
 |.r0 r0=>iI r0
theorem s70_3(bs:Int)(x:Line):Sm 0 (g70_3 bs x) (T70_3 bs x) (n70_3)
 |.e=>⟨400,by kernel_rfl⟩
 |.l0=>⟨400,by kernel_rfl⟩
theorem q70_3:∀r,bodyQ Tryz.prog Tryz.f70 (·=v70_3 r) (n70_3 r).1 (n70_3 r).2
 |.r0 r0=>bq (iI r0) (by kernel_rfl)
theorem w70_3(bs:Int)(x:Line){post:V→Prop}(h:WQ (T70_3 bs x) v70_3 post .e):PC 70 [iI bs,.agg [iI x.day,iI 3,iI x.a,iI x.b,iI x.c,iI x.d,iI x.set]] post:=
 PCalls.wq Tryz.func70 (s70_3 bs x) q70_3 h
inductive P70_4
 |e
 |l0
inductive R70_4
 |r0 (r0:Int)
noncomputable def T70_4(bs:Int)(x:Line):P70_4→Tr P70_4 R70_4
 |.e=>let c1:=([x.a,x.b,x.c,x.d]:List Int);let c2:=outside 0 (bs-(1:Int)) ((c1.drop (((0:Int)).toNat)).take (((2:Int)).toNat-((0:Int)).toNat));let c4:=((c1.length):Int);let c3:=outside 0 0 ((c1.drop (((2:Int)).toNat)).take ((c4).toNat-((2:Int)).toNat));let c5:V:=.list 1 4 (litC 1 4 [iI x.a,iI x.b,iI x.c,iI x.d]);(.front [(0,106,[],.arr 3 5 formsC)] [] (((decide (0≤(4:Int))&&decide ((4:Int)<(5:Int)))&&true)&&true) true (.wait 5 (.frz 2 ((decide (4≤4))&&((decide (4≤4))&&true)) (.vle 6 c5 (tint.lst c1) (.vle 20 c5 (tint.lst c1) (.need (inR .i64 (bs-(1:Int))) (.need ((decide (0≤(0:Int))&&decide ((0:Int)≤(2:Int)))&&decide ((2:Int)≤c4)) (.call 64 [iI 0,iI (bs-(1:Int)),.list 1 (((2:Int)).toNat-((0:Int)).toNat) (fun i j=>rowsOf tint c1 (((0:Int)).toNat+i) j)] (.bool c2) true true (.br c2 (.out (.r0 4)) (.front [] [] true true (.lit false (.lit false (.lit false (.lit false (.need ((decide (0≤(2:Int))&&decide ((2:Int)≤c4))&&decide (c4≤c4)) (.call 64 [iI 0,iI 0,.list 1 ((c4).toNat-((2:Int)).toNat) (fun i j=>rowsOf tint c1 (((2:Int)).toNat+i) j)] (.bool c3) true true (.br c3 (.lit true (.lit true (.out (.r0 2)))) (.lit true (.lit false (.br (x.set !=(0:Int)) (.out (.r0 2)) (.go (.l0))))))))))))))))))))))
 |.l0=>(.lit false (.lit false (.out (.r0 0))))
noncomputable def g70_4(bs:Int)(x:Line):P70_4→List Item × St
 |.e=>bd Tryz.f70 [iI bs,.agg [iI x.day,iI 4,iI x.a,iI x.b,iI x.c,iI x.d,iI x.set]] 87
 |.l0=>(cutOf Tryz.f70 0,⟨mk 89 [(5,.ref 1 0 0),(6,tint.lst ([x.a,x.b,x.c,x.d]:List Int)),(7,iI 0)],[.gone,.cells [iI 2,.bool false,fF 122]],[]⟩)
noncomputable def n70_4:R70_4→Exit × St
 |.r0 r0=>(.ret,⟨mk 89 [(4,iI r0)],[],[]⟩)
noncomputable def v70_4:R70_4→V
 |.r0 r0=>iI r0
theorem s70_4(bs:Int)(x:Line):Sm 0 (g70_4 bs x) (T70_4 bs x) (n70_4)
 |.e=>⟨400,by kernel_rfl⟩
 |.l0=>⟨400,by kernel_rfl⟩
theorem q70_4:∀r,bodyQ Tryz.prog Tryz.f70 (·=v70_4 r) (n70_4 r).1 (n70_4 r).2
 |.r0 r0=>bq (iI r0) (by kernel_rfl)
theorem w70_4(bs:Int)(x:Line){post:V→Prop}(h:WQ (T70_4 bs x) v70_4 post .e):PC 70 [iI bs,.agg [iI x.day,iI 4,iI x.a,iI x.b,iI x.c,iI x.d,iI x.set]] post:=
 PCalls.wq Tryz.func70 (s70_4 bs x) q70_4 h
theorem lit4(a b c d:Int):VLe (.list 1 4 (litC 1 4 [iI a,iI b,iI c,iI d])) (tint.lst [a,b,c,d]):=VLe.lit tint [a,b,c,d] rfl rfl (fun _=>rfl)
theorem within00(n:Int):within n 0 0=decide (n=0):=by rw[Bool.eq_iff_iff,within0,decide_eq_true_eq]
theorem out2(lo hi a b c d:Int):outside lo hi (([a,b,c,d].drop 0).take (2-0))=(!within a lo hi|| !within b lo hi):=by simp[outside]
theorem out22(a b c d:Int):outside 0 0 (([a,b,c,d].drop 2).take (4-2))=(!decide (c=0)|| !decide (d=0)):=by simp[outside,within00]
theorem out4(lo hi a b c d:Int):outside lo hi (([a,b,c,d].drop 0).take (4-0))=(!within a lo hi||(!within b lo hi||(!within c lo hi|| !within d lo hi))):=by simp[outside]
theorem out44(lo hi a b c d:Int):outside lo hi (([a,b,c,d].drop 4).take (4-4))=false:=by simp[outside]
theorem out0(lo hi a b c d:Int):outside lo hi (([a,b,c,d].drop 0).take (0-0))=false:=by simp[outside]
theorem cells_kind(x:Line){k:Int}(hk:x.kind=k):tLine.cells x=[iI x.day,iI k,iI x.a,iI x.b,iI x.c,iI x.d,iI x.set]:=by unfold tLine;simp only[hk]
theorem ge0(a b c d:Int):[a,b,c,d].getD (Int.toNat 0) tint.zero=a:=rfl
theorem ge1(a b c d:Int):[a,b,c,d].getD ((0:Int)+1).toNat tint.zero=b:=rfl
theorem ge2(a b c d:Int):[a,b,c,d].getD ((0:Int)+2).toNat tint.zero=c:=rfl
theorem ge3(a b c d:Int):[a,b,c,d].getD ((0:Int)+2+1).toNat tint.zero=d:=rfl
theorem r00:inR .i64 ((0:Int)+1)=true:=by decide
theorem r02:inR .i64 ((0:Int)+2+1)=true:=by decide
theorem c70_0(b:Book)(x:Line)(hk:x.kind=0)(h:b.bodies.length≤5):PC 70 [iI (b.bodies.length:Int),.agg (tLine.cells x)] (·=iI (fieldsErr b x)):=by
 rw[cells_kind x hk]
 have hr:inR .i64 ((b.bodies.length:Int)-1)=true:=inR64 (by omega) (by omega)
 have k1:=c64s 0 ((b.bodies.length:Int)-1) [x.a,x.b,x.c,x.d] 0 2 (show 2≤4 by decide)
 have k2:=c64s 0 0 [x.a,x.b,x.c,x.d] 2 4 (Nat.le_refl _)
 have e1:=out2 0 ((b.bodies.length:Int)-1) x.a x.b x.c x.d
 have e2:=out22 x.a x.b x.c x.d
 have e:fieldsErr b x=if(!within x.a 0 ((b.bodies.length:Int)-1)|| !within x.b 0 ((b.bodies.length:Int)-1))=true then 4 else if(!decide (x.c=0)|| !decide (x.d=0))=true then 2 else if x.set≠0 then 2 else if x.a=x.b then 2 else 0:=by
  unfold fieldsErr
  rw[if_neg (by omega)]
  simp only[hk,show((0:Int)==1)=false from rfl,Bool.false_and,Bool.or_false,indexR]
  by_cases g:(!within x.a 0 ((b.bodies.length:Int)-1)|| !within x.b 0 ((b.bodies.length:Int)-1))=true
  ·rw[if_pos g,if_pos g]
  rw[if_neg g,if_neg g]
  by_cases q1:x.c=0<;>by_cases q2:x.d=0<;>by_cases q3:x.set=0<;>by_cases q4:x.a=x.b<;>simp_all
 rw[e1]at k1
 rw[e2]at k2
 rw[e]
 generalize(!within x.a 0 ((b.bodies.length:Int)-1)|| !within x.b 0 ((b.bodies.length:Int)-1))=A at*
 generalize(!decide (x.c=0)|| !decide (x.d=0))=B at*
 have hl0:WP Tryz.prog ⟨none,0⟩ (T70_0 (b.bodies.length:Int) x) (Ends' fun r=>v70_0 r=iI (if x.a=x.b then 2 else 0)) (.l0 0):=by
  have hl2:¬x.a=x.b→WP Tryz.prog ⟨none,0⟩ (T70_0 (b.bodies.length:Int) x) (Ends' fun r=>v70_0 r=iI 0) (.l0 (0+2)):=fun _=>by
   refine WP.step ?_
   simp only[T70_0,Go,Ends',v70_0,Tr.sure,SS]
   repeat' with_reducible first|intro _|apply And.intro
   all_goals first|(simp[Go,Ends',v70_0,-List.getD_eq_getElem?_getD, *];done)|(simp_all [Go,Ends',v70_0,-List.getD_eq_getElem?_getD];done)
  by_cases q:x.a=x.b
  ·rw[if_pos q]
   refine WP.step ?_
   simp only[T70_0,Go,Ends',v70_0,Tr.sure,SS,ge0,ge1,q,r00]
   repeat' with_reducible first|intro _|apply And.intro
   all_goals first|(simp[Go,Ends',v70_0,-List.getD_eq_getElem?_getD, *];done)|(simp_all [Go,Ends',v70_0,-List.getD_eq_getElem?_getD];done)
  ·rw[if_neg q]
   refine WP.step ?_
   simp only[T70_0,Go,Ends',v70_0,Tr.sure,SS,ge0,ge1,q,r00]
   repeat' with_reducible first|intro _|apply And.intro
   all_goals first|exact r00|exact(hl2 q)|(simp[Go,Ends',v70_0,-List.getD_eq_getElem?_getD, *];done)
 refine w70_0 _ _ (WP.step ?_)
 simp only[T70_0,Go,Ends',v70_0,Tr.sure,SS,e1,e2]
 repeat' with_reducible first|intro _|apply And.intro
 all_goals first|exact c106|exact(by with_reducible exact lit4 _ _ _ _)|(simp[hr,Go,Ends',v70_0,-List.getD_eq_getElem?_getD, *];done)|(simp_all [hr,Go,Ends',v70_0,-List.getD_eq_getElem?_getD];done)
theorem c70_1(b:Book)(x:Line)(hk:x.kind=1)(h:b.bodies.length≤5):PC 70 [iI (b.bodies.length:Int),.agg (tLine.cells x)] (·=iI (fieldsErr b x)):=by
 rw[cells_kind x hk]
 have hr:inR .i64 ((b.bodies.length:Int)-1)=true:=inR64 (by omega) (by omega)
 have k1:=c64s 0 ((b.bodies.length:Int)-1) [x.a,x.b,x.c,x.d] 0 4 (Nat.le_refl _)
 have k2:=c64s 0 0 [x.a,x.b,x.c,x.d] 4 4 (Nat.le_refl _)
 have e1:=out4 0 ((b.bodies.length:Int)-1) x.a x.b x.c x.d
 have e2:=out44 0 0 x.a x.b x.c x.d
 have e:fieldsErr b x=if(!within x.a 0 ((b.bodies.length:Int)-1)||(!within x.b 0 ((b.bodies.length:Int)-1)||(!within x.c 0 ((b.bodies.length:Int)-1)|| !within x.d 0 ((b.bodies.length:Int)-1))))=true then 4 else if x.set≠0 then 2 else if x.a=x.b then 2 else if x.c=x.d then 2 else 0:=by
  unfold fieldsErr
  rw[if_neg (by omega)]
  simp only[hk,show((1:Int)==1)=true from rfl,Bool.true_and,indexR]
  cases within x.a 0 ((b.bodies.length:Int)-1)<;>cases within x.b 0 ((b.bodies.length:Int)-1)<;>cases within x.c 0 ((b.bodies.length:Int)-1)<;>cases within x.d 0 ((b.bodies.length:Int)-1)<;>first|rfl|skip
  by_cases q1:x.set=0<;>by_cases q2:x.a=x.b<;>by_cases q3:x.c=x.d<;>simp_all
 rw[e1]at k1
 rw[e2]at k2
 rw[e]
 generalize(!within x.a 0 ((b.bodies.length:Int)-1)||(!within x.b 0 ((b.bodies.length:Int)-1)||(!within x.c 0 ((b.bodies.length:Int)-1)|| !within x.d 0 ((b.bodies.length:Int)-1))))=A at*
 have hl0:WP Tryz.prog ⟨none,0⟩ (T70_1 (b.bodies.length:Int) x) (Ends' fun r=>v70_1 r=iI (if x.a=x.b then 2 else if x.c=x.d then 2 else 0)) (.l0 0):=by
  have hl4:WP Tryz.prog ⟨none,0⟩ (T70_1 (b.bodies.length:Int) x) (Ends' fun r=>v70_1 r=iI 0) (.l0 (0+2+2)):=by
   refine WP.step ?_
   simp only[T70_1,Go,Ends',v70_1,Tr.sure,SS]
   repeat' with_reducible first|intro _|apply And.intro
   all_goals first|(simp[Go,Ends',v70_1,-List.getD_eq_getElem?_getD, *];done)|(simp_all [Go,Ends',v70_1,-List.getD_eq_getElem?_getD];done)
  have hl2:WP Tryz.prog ⟨none,0⟩ (T70_1 (b.bodies.length:Int) x) (Ends' fun r=>v70_1 r=iI (if x.c=x.d then 2 else 0)) (.l0 (0+2)):=by
   by_cases q:x.c=x.d
   ·rw[if_pos q]
    refine WP.step ?_
    simp only[T70_1,Go,Ends',v70_1,Tr.sure,SS,ge2,ge3,q,r02]
    repeat' with_reducible first|intro _|apply And.intro
    all_goals first|(simp[Go,Ends',v70_1,-List.getD_eq_getElem?_getD, *];done)|(simp_all [Go,Ends',v70_1,-List.getD_eq_getElem?_getD];done)
   ·rw[if_neg q]
    refine WP.step ?_
    simp only[T70_1,Go,Ends',v70_1,Tr.sure,SS,ge2,ge3,q,r02]
    repeat' with_reducible first|intro _|apply And.intro
    all_goals first|exact r02|exact hl4|(simp[Go,Ends',v70_1,-List.getD_eq_getElem?_getD, *];done)
  by_cases q:x.a=x.b
  ·rw[if_pos q]
   refine WP.step ?_
   simp only[T70_1,Go,Ends',v70_1,Tr.sure,SS,ge0,ge1,q,r00]
   repeat' with_reducible first|intro _|apply And.intro
   all_goals first|(simp[Go,Ends',v70_1,-List.getD_eq_getElem?_getD, *];done)|(simp_all [Go,Ends',v70_1,-List.getD_eq_getElem?_getD];done)
  ·rw[if_neg q]
   refine WP.step ?_
   simp only[T70_1,Go,Ends',v70_1,Tr.sure,SS,ge0,ge1,q,r00]
   repeat' with_reducible first|intro _|apply And.intro
   all_goals first|exact r00|exact hl2|(simp[Go,Ends',v70_1,-List.getD_eq_getElem?_getD, *];done)|(simp_all [Go,Ends',v70_1,-List.getD_eq_getElem?_getD];done)
 refine w70_1 _ _ (WP.step ?_)
 simp only[T70_1,Go,Ends',v70_1,Tr.sure,SS,e1,e2]
 repeat' with_reducible first|intro _|apply And.intro
 all_goals first|exact c106|exact k2|exact(by with_reducible exact lit4 _ _ _ _)|(simp[hr,Go,Ends',v70_1,-List.getD_eq_getElem?_getD, *];done)|(simp_all [hr,Go,Ends',v70_1,-List.getD_eq_getElem?_getD];done)
theorem wrap64{s:Int}(h:0≤s∧s≤31):IntKind.wrap .u64 s=s:=by
 obtain⟨k,rfl⟩:∃k:Fin 32,s=((k:Nat):Int):=⟨⟨s.toNat,by omega⟩,by simp only;omega⟩
 exact(by decide:∀k:Fin 32,IntKind.wrap .u64 ((k:Nat):Int)=((k:Nat):Int)) k
theorem out40(a b c d:Int):outside 0 0 (([a,b,c,d].drop 0).take (4-0))=(!decide (a=0)||(!decide (b=0)||(!decide (c=0)|| !decide (d=0)))):=by rw[out4];simp only[within00]
theorem c70_2(b:Book)(x:Line)(hk:x.kind=2)(h:b.bodies.length≤5):PC 70 [iI (b.bodies.length:Int),.agg (tLine.cells x)] (·=iI (fieldsErr b x)):=by
 rw[cells_kind x hk]
 have hr:inR .i64 ((b.bodies.length:Int)-1)=true:=inR64 (by omega) (by omega)
 have k1:=c64s 0 ((b.bodies.length:Int)-1) [x.a,x.b,x.c,x.d] 0 0 (show 0≤4 by decide)
 have k2:=c64s 0 0 [x.a,x.b,x.c,x.d] 0 4 (Nat.le_refl _)
 have e1:=out0 0 ((b.bodies.length:Int)-1) x.a x.b x.c x.d
 have e2:=out40 x.a x.b x.c x.d
 have hp:=pow2s h
 have hm:min ((b.bodies.length:Int).toNat) 64=b.bodies.length:=by omega
 have hsh:(1:Int)*2^(min ((b.bodies.length:Int).toNat) 64)=2^b.bodies.length:=by rw[hm,Int.one_mul]
 have hsh2:(1:Int)*2^(min b.bodies.length 64)=2^b.bodies.length:=by rw[Nat.min_eq_left (by omega),Int.one_mul]
 have hr2:inR .i64 ((2:Int)^b.bodies.length)=true:=inR64 (by omega) (by omega)
 have hr3:inR .i64 ((2:Int)^b.bodies.length-1)=true:=inR64 (by omega) (by omega)
 have k3:=c64l 0 ((2:Int)^b.bodies.length-1) x.set (c:=litC 1 1 [iI x.set]) rfl
 have e:fieldsErr b x=if !within x.set 0 ((2:Int)^b.bodies.length-1)then 4 else if((bitsR x.set).length:Int)<2 then 2 else if(!decide (x.a=0)||(!decide (x.b=0)||(!decide (x.c=0)|| !decide (x.d=0))))=true then 2 else 0:=by
  unfold fieldsErr;rw[if_pos hk]
  generalize(!within x.set 0 ((2:Int)^b.bodies.length-1))=A
  cases A with
  |true=>rfl
  |false=>
   by_cases q0:((bitsR x.set).length:Int)<2<;>by_cases q1:x.a=0<;>by_cases q2:x.b=0<;>by_cases q3:x.c=0<;>by_cases q4:x.d=0<;>simp_all
 rw[e1]at k1
 rw[e2]at k2
 rw[e]
 generalize(!decide (x.a=0)||(!decide (x.b=0)||(!decide (x.c=0)|| !decide (x.d=0))))=B at*
 have hl0:WP Tryz.prog ⟨none,0⟩ (T70_2 (b.bodies.length:Int) x) (Ends' fun r=>v70_2 r=iI 0) .l0:=by
  refine WP.step ?_
  simp only[T70_2,Go,Ends',v70_2,Tr.sure,SS]
  repeat' with_reducible first|intro _|apply And.intro
 by_cases hw:within x.set 0 ((2:Int)^b.bodies.length-1)=true
 ·have hin:=within_iff.1 hw
  have k107:=c107 x.set ⟨hin.1,by omega⟩
  have hwr:=wrap64 (s:=x.set) ⟨hin.1,by omega⟩
  by_cases hb:((bitsR x.set).length:Int)<2
  ·refine w70_2 _ _ (WP.step ?_)
   simp only[T70_2,Go,Ends',v70_2,Tr.sure,SS,e1,e2,hsh,hsh2,hw,hwr,hb]
   repeat' with_reducible first|intro _|apply And.intro
   all_goals first|exact c106|exact k1|exact k107|exact(by with_reducible exact lit4 _ _ _ _)|(simp[hr,hr2,hr3,hw,hb,Go,Ends',v70_2,-List.getD_eq_getElem?_getD, *];done)|(simp_all [hr,hr2,hr3,hw,hb,Go,Ends',v70_2,-List.getD_eq_getElem?_getD];done)
  ·refine w70_2 _ _ (WP.step ?_)
   simp only[T70_2,Go,Ends',v70_2,Tr.sure,SS,e1,e2,hsh,hsh2,hw,hwr,hb]
   repeat' with_reducible first|intro _|apply And.intro
   all_goals first|exact c106|exact k1|exact k107|exact(by with_reducible exact lit4 _ _ _ _)|(simp[hr,hr2,hr3,hw,hb,Go,Ends',v70_2,-List.getD_eq_getElem?_getD, *];done)|(simp_all [hr,hr2,hr3,hw,hb,Go,Ends',v70_2,-List.getD_eq_getElem?_getD];done)
 ·have hw':within x.set 0 ((2:Int)^b.bodies.length-1)=false:=by simpa using hw
  refine w70_2 _ _ (WP.step ?_)
  simp only[T70_2,Go,Ends',v70_2,Tr.sure,SS,e1,e2,hsh,hsh2,hw']
  repeat' with_reducible first|intro _|apply And.intro
  all_goals first|exact c106|exact k1|exact(by with_reducible exact lit4 _ _ _ _)|(simp[hr,hr2,hr3,hw',Go,Ends',v70_2,-List.getD_eq_getElem?_getD, *];done)|(simp_all [hr,hr2,hr3,hw',Go,Ends',v70_2,-List.getD_eq_getElem?_getD];done)
theorem c70_3(b:Book)(x:Line)(hk:x.kind=3)(h:b.bodies.length≤5):PC 70 [iI (b.bodies.length:Int),.agg (tLine.cells x)] (·=iI (fieldsErr b x)):=by
 rw[cells_kind x hk]
 have hr:inR .i64 ((b.bodies.length:Int)-1)=true:=inR64 (by omega) (by omega)
 have k1:=c64s 0 ((b.bodies.length:Int)-1) [x.a,x.b,x.c,x.d] 0 2 (show 2≤4 by decide)
 have k2:=c64s 0 0 [x.a,x.b,x.c,x.d] 2 4 (Nat.le_refl _)
 have e1:=out2 0 ((b.bodies.length:Int)-1) x.a x.b x.c x.d
 have e2:=out22 x.a x.b x.c x.d
 have e:fieldsErr b x=if(!within x.a 0 ((b.bodies.length:Int)-1)|| !within x.b 0 ((b.bodies.length:Int)-1))=true then 4 else if(!decide (x.c=0)|| !decide (x.d=0))=true then 2 else if x.set≠0 then 2 else 0:=by
  unfold fieldsErr
  rw[if_neg (by omega)]
  simp only[hk,show((3:Int)==1)=false from rfl,Bool.false_and,Bool.or_false,indexR]
  by_cases g:(!within x.a 0 ((b.bodies.length:Int)-1)|| !within x.b 0 ((b.bodies.length:Int)-1))=true
  ·rw[if_pos g,if_pos g]
  rw[if_neg g,if_neg g]
  by_cases q1:x.c=0<;>by_cases q2:x.d=0<;>by_cases q3:x.set=0<;>simp_all
 rw[e1]at k1
 rw[e2]at k2
 rw[e]
 generalize(!within x.a 0 ((b.bodies.length:Int)-1)|| !within x.b 0 ((b.bodies.length:Int)-1))=A at*
 generalize(!decide (x.c=0)|| !decide (x.d=0))=B at*
 have hl0:WP Tryz.prog ⟨none,0⟩ (T70_3 (b.bodies.length:Int) x) (Ends' fun r=>v70_3 r=iI 0) .l0:=by
  refine WP.step ?_
  simp only[T70_3,Go,Ends',v70_3,Tr.sure,SS]
  repeat' with_reducible first|intro _|apply And.intro
 refine w70_3 _ _ (WP.step ?_)
 simp only[T70_3,Go,Ends',v70_3,Tr.sure,SS,e1,e2]
 repeat' with_reducible first|intro _|apply And.intro
 all_goals first|exact c106|exact(by with_reducible exact lit4 _ _ _ _)|(simp[hr,Go,Ends',v70_3,-List.getD_eq_getElem?_getD, *];done)|(simp_all [hr,Go,Ends',v70_3,-List.getD_eq_getElem?_getD];done)
theorem c70_4(b:Book)(x:Line)(hk:x.kind=4)(h:b.bodies.length≤5):PC 70 [iI (b.bodies.length:Int),.agg (tLine.cells x)] (·=iI (fieldsErr b x)):=by
 rw[cells_kind x hk]
 have hr:inR .i64 ((b.bodies.length:Int)-1)=true:=inR64 (by omega) (by omega)
 have k1:=c64s 0 ((b.bodies.length:Int)-1) [x.a,x.b,x.c,x.d] 0 2 (show 2≤4 by decide)
 have k2:=c64s 0 0 [x.a,x.b,x.c,x.d] 2 4 (Nat.le_refl _)
 have e1:=out2 0 ((b.bodies.length:Int)-1) x.a x.b x.c x.d
 have e2:=out22 x.a x.b x.c x.d
 have e:fieldsErr b x=if(!within x.a 0 ((b.bodies.length:Int)-1)|| !within x.b 0 ((b.bodies.length:Int)-1))=true then 4 else if(!decide (x.c=0)|| !decide (x.d=0))=true then 2 else if x.set≠0 then 2 else 0:=by
  unfold fieldsErr
  rw[if_neg (by omega)]
  simp only[hk,show((4:Int)==1)=false from rfl,Bool.false_and,Bool.or_false,indexR]
  by_cases g:(!within x.a 0 ((b.bodies.length:Int)-1)|| !within x.b 0 ((b.bodies.length:Int)-1))=true
  ·rw[if_pos g,if_pos g]
  rw[if_neg g,if_neg g]
  by_cases q1:x.c=0<;>by_cases q2:x.d=0<;>by_cases q3:x.set=0<;>simp_all
 rw[e1]at k1
 rw[e2]at k2
 rw[e]
 generalize(!within x.a 0 ((b.bodies.length:Int)-1)|| !within x.b 0 ((b.bodies.length:Int)-1))=A at*
 generalize(!decide (x.c=0)|| !decide (x.d=0))=B at*
 have hl0:WP Tryz.prog ⟨none,0⟩ (T70_4 (b.bodies.length:Int) x) (Ends' fun r=>v70_4 r=iI 0) .l0:=by
  refine WP.step ?_
  simp only[T70_4,Go,Ends',v70_4,Tr.sure,SS]
  repeat' with_reducible first|intro _|apply And.intro
 refine w70_4 _ _ (WP.step ?_)
 simp only[T70_4,Go,Ends',v70_4,Tr.sure,SS,e1,e2]
 repeat' with_reducible first|intro _|apply And.intro
 all_goals first|exact c106|exact(by with_reducible exact lit4 _ _ _ _)|(simp[hr,Go,Ends',v70_4,-List.getD_eq_getElem?_getD, *];done)|(simp_all [hr,Go,Ends',v70_4,-List.getD_eq_getElem?_getD];done)
theorem c70(b:Book)(x:Line)(hk:0≤x.kind∧x.kind≤4)(h:b.bodies.length≤5):PC 70 [iI (b.bodies.length:Int),.agg (tLine.cells x)] (·=iI (fieldsErr b x)):=by
 rcases show x.kind=0∨x.kind=1∨x.kind=2∨x.kind=3∨x.kind=4 by omega with q|q|q|q|q
 ·exact c70_0 b x q h
 ·exact c70_1 b x q h
 ·exact c70_2 b x q h
 ·exact c70_3 b x q h
 ·exact c70_4 b x q h
end
end Go.Proofs.YtemgodefhcbleaaGreat
