/-
  Part of the proof of the Head laws. Conditions: those that stand in each theorem.
-/
import Derived.Laws.Strings
import Derived.Laws.RangeAny
import Derived.Test.YtemgodefhcbleaaGreatB08
set_option linter.unusedSimpArgs false
set_option linter.unusedVariables false
set_option maxRecDepth 100000
namespace Go.Proofs.YtemgodefhcbleaaGreat
open Ab Go
noncomputable section
inductive P17
 |e
 |l0 (x0_6:Int) (a0_1:List ByteArray)
 |l1 (x1_8:Int)
 |l2 (x2_10:Int)
inductive R17
 |r0 (r0:Int) (r1:Int) (r2:Int)
def T17(b:Book):P17->Tr P17 R17
 |.e=>(.br (decide ((b.bodies.length:Int)>(5:Int))) (.out (.r0 1 0 3)) (.wait 3 (.own 5 9 1 (.go (.l0 0 ([]))))))
 |.l0 x0_6 a0_1=>let c1:=b.bodies.getD (x0_6).toNat tBody.zero;let c2:=decide (0<=x0_6)&&decide (x0_6<(b.bodies.length:Int));let c3:=(decide (a0_1.length=a0_1.length)&&decide (a0_1.length+1<=4294967296))&&decide (1<=1);let c4:=newErr (c1.name) a0_1.reverse;let c5:Tr P17 R17:=.need (inR .i64 (x0_6+(1:Int))) (.go (.l0 (x0_6+(1:Int)) (c1.name::a0_1)));let c6:=shownErr (c1.shown);(.br (decide (x0_6<(b.bodies.length:Int))) (.need c2 (.call 71 [.str (c1.name),.list 1 a0_1.length (rowsRev tstr a0_1)] (iI c4) ((decide (a0_1.length<=a0_1.length))&&true) true (.br (c4==(0:Int)) (.need c2 (.call 72 [tShown.lst (c1.shown)] (iI c6) true true (.br (c6 !=(0:Int)) (.out (.r0 1 x0_6 c6)) (.need c2 (.need c3 (.scal (fun _=>true) c5)))))) (.br (c4 !=(0:Int)) (.out (.r0 1 x0_6 c4)) (.need c2 (.need c3 (.scal (fun _=>true) c5))))))) (.br ((b.heads.length:Int) !=(b.bodies.length:Int)) (.out (.r0 2 0 3)) (.go (.l1 0))))
 |.l1 x1_8=>let c1:=newErr (b.heads.getD (x1_8).toNat tstr.zero) ((b.heads.drop ((0:Int)).toNat).take ((x1_8).toNat-((0:Int)).toNat));let c2:=(b.heads.length:Int);(.br (decide (x1_8<c2)) (.front [] [] (((decide (0<=x1_8)&&decide (x1_8<c2))&&(((decide (0<=(0:Int))&&decide ((0:Int)<=x1_8))&&decide (x1_8<=c2))&&true))&&true) true (.call 71 [.str (b.heads.getD (x1_8).toNat tstr.zero),.list 1 ((x1_8).toNat-((0:Int)).toNat) (fun i j=>rowsOf tstr b.heads (((0:Int)).toNat+i) j)] (iI c1) true true (.br (c1 !=(0:Int)) (.out (.r0 2 x1_8 c1)) (.need (inR .i64 (x1_8+(1:Int))) (.go (.l1 (x1_8+(1:Int)))))))) (.br (decide ((b.lines.length:Int)>(8:Int))) (.out (.r0 3 0 3)) (.go (.l2 0))))
 |.l2 x2_10=>let c1:=lineAt b x2_10;(.br (decide (x2_10<(b.lines.length:Int))) (.call 73 [.agg (cC b),iI x2_10] (iI c1) true true (.br (c1 !=(0:Int)) (.out (.r0 3 x2_10 c1)) (.need (inR .i64 (x2_10+(1:Int))) (.go (.l2 (x2_10+(1:Int))))))) (.out (.r0 0 0 0)))
noncomputable def g17(b:Book):P17->List Item × St
 |.e=>bd Tryz.f17 [.agg (cC b)] 98
 |.l0 x0_6 a0_1=>(cutOf Tryz.f17 0,⟨mk 99 [(1,.ref 0 0 0),(5,.row 1 a0_1.length),(6,iI x0_6)],[.cells (cC b),.rows 9 1 a0_1.length (rowsRev tstr a0_1)],[]⟩)
 |.l1 x1_8=>(cutOf Tryz.f17 1,⟨mk 99 [(1,.ref 0 0 0),(8,iI x1_8)],[.cells (cC b)],[]⟩)
 |.l2 x2_10=>(cutOf Tryz.f17 2,⟨mk 99 [(1,.ref 0 0 0),(10,iI x2_10)],[.cells (cC b)],[]⟩)
def n17:R17->Exit × St
 |.r0 r0 r1 r2=>(.ret,⟨mk 99 [(2,iI r0),(3,iI r1),(4,iI r2)],[],[]⟩)
def v17:R17->V
 |.r0 r0 r1 r2=>.tuple [iI r0,iI r1,iI r2]
theorem s17(b:Book):Sm 0 (g17 b) (T17 b) (n17)
 |.e=>⟨400,by kernel_rfl⟩
 |.l0 _ _=>⟨400,by kernel_rfl⟩
 |.l1 _=>⟨400,by kernel_rfl⟩
 |.l2 _=>⟨400,by kernel_rfl⟩
theorem q17:∀r,bodyQ Tryz.prog Tryz.f17 (·=v17 r) (n17 r).1 (n17 r).2
 |.r0 r0 r1 r2=>bq (.tuple [iI r0,iI r1,iI r2]) (by kernel_rfl)
theorem w17(b:Book){post:V->Prop}(h:WQ (T17 b) v17 post .e):PC 17 [.agg (cC b)] post:=
 PCalls.wq Tryz.func17 (s17 b) q17 h
theorem c71t(n:ByteArray)(l:List ByteArray)(i:Nat)(h:i<=l.length)(h5:l.length<=5):PC 71 [.str n,.list 1 i (fun r j=>rowsOf tstr l (0+r) j)] (·=iI (newErr n (l.take i))):=by
 have k:=c71 n (l.take i) (by rw[List.length_take];omega)
 have e:VLe (.list 1 i (fun r j=>rowsOf tstr l (0+r) j)) (tstr.lst (l.take i)):=by
  show VLe _ (.list 1 (l.take i).length (rowsOf tstr (l.take i)));rw[List.length_take,Nat.min_eq_left h];refine VLe.list fun r j hr hj=> ?_;have:(l.take i).getD r ByteArray.empty=l.getD r ByteArray.empty:=by rw[gE,gE,List.getElem?_take,if_pos hr]
  simp only[rowsOf,Nat.zero_add,tstr_zero,this];try exact VLe.refl _
 exact PCalls.arg (pre:=[.str n]) k e
theorem c17(b:Book):PC 17 [.agg (tBook.cells b)] (·=.tuple [iI (bookCheck b).1,iI (bookCheck b).2.1,iI (bookCheck b).2.2]):=by
 refine w17 _ (WP.step ?_);simp only[T17,Go,Ends',v17,Tr.sure,SS];repeat' with_reducible first|intro _|apply aI
 all_goals first|(simp[bookCheck,Go,Ends',v17,-List.getD_eq_getElem?_getD, *];done)|skip
 rename_i h1;have hm:b.bodies.length<=5:=by omega
 refine WP.findE (fun i=>.l0 i (((b.bodies.map (·.name)).take i).reverse)) rfl b.bodies zBody (bodyAt b.bodies) (fun i hi=> ?_) fun hI=> ?_
 ·have hr:inR .i64 ((i:Int)+1)=true:=inR64 (by omega) (by omega);have hl:=map_take_len (·.name) b.bodies i (by omega);have hl':((b.bodies.map (·.name)).take i).length<=1000:=by simp;omega
  have ht:=rev_take' (·.name) zBody b.bodies i hi;have hb:i+1<=4294967296:=by omega
  have hi':(i:Int)<b.bodies.length:=by omega
  have k1:=c71r (b.bodies.getD i zBody).name _ hl';by_cases g1:newErr (b.bodies.getD i zBody).name ((b.bodies.map (·.name)).take i)=0
  ·have e:bodyAt b.bodies i (b.bodies.getD i zBody)=shownErr (b.bodies.getD i zBody).shown:=by unfold bodyAt;rw[g1];try rfl
   generalize hbz:bodyAt b.bodies i (b.bodies.getD i zBody)=Z at*
   refine WP.once ?_;simp only[T17,Tr.sure,SS,hi',z2,List.reverse_reverse];repeat' with_reducible first|intro _|apply aI
   all_goals first|exact k1|exact c72 _|(simp[hr,bookCheck,ht,hb,hl,e,g1,Go,Ends',v17,-List.getD_eq_getElem?_getD, *];done)|(simp_all [hr,bookCheck,ht,hb,hl,e,g1,Go,Ends',v17,-List.getD_eq_getElem?_getD];done)|(simp+contextual [hr,bookCheck,ht,hb,hl,e,g1,Go,Ends',v17,-List.getD_eq_getElem?_getD, *];done)
  ·have e:bodyAt b.bodies i (b.bodies.getD i zBody)=newErr (b.bodies.getD i zBody).name ((b.bodies.map (·.name)).take i):=by unfold bodyAt;rw[if_pos g1]
   generalize hbz:bodyAt b.bodies i (b.bodies.getD i zBody)=Z at*
   refine WP.once ?_;simp only[T17,Tr.sure,SS,hi',z2,List.reverse_reverse];repeat' with_reducible first|intro _|apply aI
   all_goals first|exact k1|exact c72 _|(simp[hr,bookCheck,ht,hb,hl,e,g1,Go,Ends',v17,-List.getD_eq_getElem?_getD, *];done)|(simp_all [hr,bookCheck,ht,hb,hl,e,g1,Go,Ends',v17,-List.getD_eq_getElem?_getD];done)|(simp+contextual [hr,bookCheck,ht,hb,hl,e,g1,Go,Ends',v17,-List.getD_eq_getElem?_getD, *];done)
 by_cases hh:b.heads.length=b.bodies.length
 ·have hh':((b.heads.length:Int) !=(b.bodies.length:Int))=false:=by simp[hh]
  refine WP.step ?_;simp only[T17,Go,Ends',v17,Tr.sure,SS,z2,hh',Int.lt_irrefl];repeat' with_reducible first|intro _|apply aI
  refine WP.findE (fun i=>.l1 i) rfl b.heads ByteArray.empty (headAt b.heads) (fun i hi=> ?_) fun hJ=> ?_
  ·have hr:inR .i64 ((i:Int)+1)=true:=inR64 (by omega) (by omega);have hi':(i:Int)<b.heads.length:=by omega
   have hile:(i:Int)<=b.heads.length:=by omega
   have k1:=c71t (b.heads.getD i ByteArray.empty) b.heads i (by omega) (by omega);have e:headAt b.heads i (b.heads.getD i ByteArray.empty)=newErr (b.heads.getD i ByteArray.empty) (b.heads.take i):=rfl;generalize hbz:headAt b.heads i (b.heads.getD i ByteArray.empty)=Z at*
   refine WP.once ?_;simp only[T17,Tr.sure,SS,hi',hile,tstr_zero,Int.toNat_zero,Nat.sub_zero,List.drop_zero,Int.le_refl];repeat' with_reducible first|intro _|apply aI
   all_goals first|exact k1|(simp[hr,bookCheck,hI,hh,e,Go,Ends',v17,-List.getD_eq_getElem?_getD, *];done)|(simp+contextual [hr,bookCheck,hI,hh,e,Go,Ends',v17,-List.getD_eq_getElem?_getD, *];done)
  by_cases hl:(8:Int)<b.lines.length
  ·refine WP.step ?_;simp only[T17,Go,Ends',v17,Tr.sure,SS,Int.lt_irrefl];repeat' with_reducible first|intro _|apply aI
   all_goals first|(simp[bookCheck,hI,hJ,hh,hl,Go,Ends',v17,-List.getD_eq_getElem?_getD, *];done)|(simp_all [bookCheck,hI,hJ,hh,hl,Go,Ends',v17,-List.getD_eq_getElem?_getD];done)
  ·refine WP.step ?_;simp only[T17,Go,Ends',v17,Tr.sure,SS,Int.lt_irrefl,hl];repeat' with_reducible first|intro _|apply aI
   refine WP.findE (fun i=>.l2 i) rfl b.lines zLine (lineErr b) (fun i hi=> ?_) fun hK=> ?_
   ·have hr:inR .i64 ((i:Int)+1)=true:=inR64 (by omega) (by omega);have hi':(i:Int)<b.lines.length:=by omega
    have k1:=c73 b i hm (by omega) hi;have e:lineAt b i=lineErr b i (b.lines.getD i zLine):=by unfold lineAt;rw[Int.toNat_natCast]
    rw[e]at k1;generalize hbz:lineErr b i (b.lines.getD i zLine)=Z at*
    clear hbz
    refine WP.once ?_;simp only[T17,Tr.sure,SS,hi',e];repeat' with_reducible first|intro _|apply aI
    all_goals first|exact k1|(simp[hr,bookCheck,hI,hJ,hh,hl,Go,Ends',v17,-List.getD_eq_getElem?_getD, *];done)|(simp+contextual [hr,bookCheck,hI,hJ,hh,hl,Go,Ends',v17,-List.getD_eq_getElem?_getD, *];done)
   ·refine WP.step ?_;simp only[T17,Go,Ends',v17,Tr.sure,SS,Int.lt_irrefl];repeat' with_reducible first|intro _|apply aI
    all_goals simp[bookCheck,hI,hJ,hK,hh,hl,Go,Ends',v17,-List.getD_eq_getElem?_getD, *]
 ·have hh':((b.heads.length:Int) !=(b.bodies.length:Int))=true:=by simp;omega
  refine WP.step ?_;simp only[T17,Go,Ends',v17,Tr.sure,SS,z2,hh',Int.lt_irrefl];repeat' with_reducible first|intro _|apply aI
  all_goals simp[bookCheck,hI,hh,Go,Ends',v17,-List.getD_eq_getElem?_getD, *]
end
noncomputable section
theorem bitsR_len(s:Int):(bitsR s).length<=5:=bitsTo_len s 5
def someAt(l:List Int)(i k:Nat):List Pair:=((List.range k).drop (i+1)).map fun k=>⟨l.getD i 0,l.getD k 0⟩
def someTo2(l:List Int)(i:Nat):List Pair:=(List.range i).flatMap fun i=>someAt l i l.length
theorem someTo2_next(l:List Int)(i:Nat):someTo2 l (i+1)=someTo2 l i++someAt l i l.length:=by
 unfold someTo2;rw[List.range_succ,List.flatMap_append];simp
end
theorem firstE_none_at{τ:Type}{of:Nat->τ->Int}(d:τ):∀ {l:List τ} {i:Nat},firstE of i l=none->∀k,k<l.length->of (i+k) (l.getD k d)=0
 |[],i,_,k,hk=>by simp at hk
 |x::l,i,h,k,hk=>by
  simp only[firstE]at h;split at h
  ·rename_i h0
   cases k with
   |zero=>exact h0
   |succ k=>
    have:=firstE_none_at d h k (by simpa using hk);rw[show i+1+k=i+(k+1) by omega]at this;exact this
  ·cases h
structure OkLine(n:Nat)(x:Line):Prop where
 day:0<=x.day/\x.day<=364
 kind:0<=x.kind/\x.kind<=4
 ab:x.kind≠2->(0<=x.a/\x.a<n)/\0<=x.b/\x.b<n
 cd:x.kind=1->((0<=x.c/\x.c<n)/\0<=x.d/\x.d<n)/\x.c≠x.d
 ne:x.kind<=1->x.a≠x.b
 set:x.kind=2->(0<=x.set/\x.set<=(2:Int)^n-1)/\2<=(bitsR x.set).length/\x.a=0/\x.b=0/\x.c=0/\x.d=0
 noset:x.kind≠2->x.set=0
 nocd:x.kind≠2->x.kind≠1->x.c=0/\x.d=0
structure OkBook(b:Book):Prop where
 nb:b.bodies.length<=5
 nh:b.heads.length=b.bodies.length
 nl:b.lines.length<=8
 body:∀i,i<b.bodies.length->bodyAt b.bodies i (b.bodies.getD i zBody)=0
 head:∀i,i<b.heads.length->headAt b.heads i (b.heads.getD i ByteArray.empty)=0
 lineE:∀i,i<b.lines.length->lineErr b i (b.lines.getD i zLine)=0
theorem indexR_iff{b:Book}{n:Int}:indexR b n=true↔0<=n/\n<b.bodies.length:=by
 unfold indexR;rw[within_iff];omega
theorem not_iff_false{b:Bool}:(!b)=true↔b=false:=by cases b<;>simp
theorem fields_iff{b:Book}{x:Line}(hk:0<=x.kind/\x.kind<=4)(hd:0<=x.day/\x.day<=364):fieldsErr b x=0↔OkLine b.bodies.length x:=by
 by_cases h2:x.kind=2
 ·unfold fieldsErr;rw[if_pos h2];constructor
  ·intro h;split at h
   ·cases h
   rename_i g1;split at h
   ·cases h
   rename_i g2;rw[not_iff_false,Bool.not_eq_false,within_iff]at g1;refine⟨hd,hk,fun q=>absurd h2 q,fun q=>by omega,fun q=>by omega,fun _=>⟨g1,by omega,?_⟩,fun q=>absurd h2 q,fun q=>absurd h2 q⟩;omega
  ·intro h;obtain⟨s1,s2,s3,s4,s5,s6⟩:=h.set h2;rw[if_neg (by rw[not_iff_false,Bool.not_eq_false,within_iff];exact s1),if_neg (by omega)]
 ·unfold fieldsErr;rw[if_neg h2];constructor
  ·intro h;split at h
   ·cases h
   rename_i g1;split at h
   ·cases h
   rename_i g2;simp only[Bool.or_eq_true,not_iff_false,Bool.and_eq_true,beq_iff_eq,not_or,not_and,Bool.not_eq_false,indexR_iff]at g1;obtain⟨⟨ga,gb⟩,gc⟩:=g1;refine⟨hd,hk,fun _=>⟨ga,gb⟩,fun q=>⟨gc q,by omega⟩,fun q=>by omega,fun q=>absurd q h2,fun _=>by omega,fun _ q=>by omega⟩
  ·intro h;rw[if_neg ?_,if_neg ?_]
   ·have a1:=h.ne;have a2:=h.noset h2;have a3:=h.nocd h2;have a4:=h.cd;rintro(q|q|q|q)
    ·exact a1 q.1 q.2
    ·exact(a4 q.1).2 q.2
    ·exact q a2
    ·have:=a3 q.1;omega
   ·simp only[Bool.or_eq_true,not_iff_false,Bool.and_eq_true,beq_iff_eq,not_or,not_and,Bool.not_eq_false,indexR_iff];exact⟨⟨(h.ab h2).1,(h.ab h2).2⟩,fun q=>(h.cd q).1⟩
theorem line_iff{b:Book}{i:Nat}{x:Line}:lineErr b i x=0↔OkLine b.bodies.length x/\(0<i->(b.lines.getD (i-1) zLine).day<=x.day)/\(x.kind=2->someTo b.lines (i+1)<=2):=by
 unfold lineErr;constructor
 ·intro h;split at h
  ·cases h
  rename_i g1;split at h
  ·cases h
  rename_i g2;split at h
  ·cases h
  rename_i g3;split at h
  ·rename_i g4;exact absurd h g4
  rename_i g4;split at h
  ·cases h
  rename_i g5;rw[not_iff_false,Bool.not_eq_false,within_iff]at g1 g3;exact⟨(fields_iff g3 g1).1 (Decidable.not_not.1 g4),by omega,by omega⟩
 ·rintro⟨h1,h2,h3⟩
  rw[if_neg (by rw[not_iff_false,Bool.not_eq_false,within_iff];exact h1.day),if_neg (by omega),if_neg (by rw[not_iff_false,Bool.not_eq_false,within_iff];exact h1.kind),if_neg (by rw[Decidable.not_not];exact(fields_iff h1.kind h1.day).2 h1),if_neg (by omega)]
theorem OkBook.line{b:Book}(h:OkBook b){i:Nat}(hi:i<b.lines.length):OkLine b.bodies.length (b.lines.getD i zLine):=(line_iff.1 (h.lineE i hi)).1
theorem okBook{b:Book}(h:(bookCheck b).2.2=0):OkBook b:=by
 unfold bookCheck at h;split at h
 ·cases h
 rename_i g1;split at h
 ·rename_i i e he;exact absurd h (firstE_ne he)
 rename_i g2;split at h
 ·cases h
 rename_i g3;split at h
 ·rename_i i e he;exact absurd h (firstE_ne he)
 rename_i g4;split at h
 ·cases h
 rename_i g5;split at h
 ·rename_i i e he;exact absurd h (firstE_ne he)
 rename_i g6;refine⟨by omega,Decidable.not_not.1 g3,by omega,fun i hi=> ?_,fun i hi=> ?_,fun i hi=> ?_⟩
 ·have:=firstE_none_at zBody g2 i hi;rwa[Nat.zero_add]at this
 ·have:=firstE_none_at ByteArray.empty g4 i hi;rwa[Nat.zero_add]at this
 ·have:=firstE_none_at zLine g6 i hi;rwa[Nat.zero_add]at this
theorem bitH_lt{s:Int}{n i:Nat}(h0:0<=s)(h1:s<=(2:Int)^n-1)(hi:n<=i)(h5:i<=5):bitH s i=false:=by
 unfold bitH
 have e:s.fdiv (2^(min i 64))=0:=by
  rw[Int.fdiv_eq_ediv_of_nonneg _ (Int.le_of_lt (Int.pow_pos (by decide)))];refine Int.ediv_eq_zero_of_lt h0 ?_
  have:(2:Int)^n<=2^(min i 64):=by
   have:=Nat.pow_le_pow_right (n:=2) (by decide) (show n<=min i 64 by omega);exact_mod_cast this
  omega
 rw[e];rfl
theorem mem_bitsR{s m:Int}(h:m∈bitsR s):0<=m/\m<5/\bitH s m.toNat=true:=by
 unfold bitsR at h;rw[List.mem_map]at h;obtain⟨i,hi,rfl⟩:=h;rw[List.mem_filter,List.mem_range]at hi;exact⟨by omega,by omega,by rw[Int.toNat_natCast];exact hi.2⟩
theorem bitsR_in{s:Int}{n:Nat}(h0:0<=s)(h1:s<=(2:Int)^n-1){m:Int}(hm:m∈bitsR s):0<=m/\m<n:=by
 obtain⟨h2,h3,h4⟩:=mem_bitsR hm;refine⟨h2,?_⟩;rcases Int.lt_or_le m n with q|q
 ·exact q
 ·rw[bitH_lt h0 h1 (by omega) (by omega)]at h4;cases h4
theorem bitsR_mono(s:Int){i k:Nat}(hik:i<k)(hk:k<(bitsR s).length):(bitsR s).getD i 0<(bitsR s).getD k 0:=by
 have hp:(bitsR s).Pairwise (·<·):=by
  unfold bitsR;refine List.Pairwise.map _ (fun a b h=> ?_) ((List.pairwise_lt_range).filter _);show(a:Int)<b;omega
 rw[gE,gE,List.getElem?_eq_getElem (by omega),List.getElem?_eq_getElem hk];exact List.pairwise_iff_getElem.1 hp i k (by omega) hk hik
theorem pairs_in{n:Nat}{x:Line}(h:OkLine n x){p:Pair}(hp:p∈pairsR x)(hk:x.kind<=2):0<=p.a/\p.a<p.b/\p.b<n:=by
 have hpr:∀c d:Int,(0<=c/\c<n)->(0<=d/\d<n)->c≠d->0<=(pairR c d).a/\(pairR c d).a<(pairR c d).b/\(pairR c d).b<n:=fun c d h1 h2 h3=>by
  unfold pairR;simp only;omega
 unfold pairsR at hp;split at hp
 ·rename_i h0;simp only[List.mem_singleton]at hp;subst hp;exact hpr _ _ (h.ab (by omega)).1 (h.ab (by omega)).2 (h.ne (by omega))
 split at hp
 ·rename_i h1;have q1:=hpr _ _ (h.ab (by omega)).1 (h.ab (by omega)).2 (h.ne (by omega));have q2:=hpr _ _ (h.cd h1).1.1 (h.cd h1).1.2 (h.cd h1).2;split at hp
  ·simp only[List.mem_singleton]at hp;subst hp;exact q1
  split at hp<;>(simp only[List.mem_cons,List.not_mem_nil,or_false]at hp;rcases hp with rfl|rfl<;>assumption)
 split at hp
 ·rename_i h2;obtain⟨s1,s2,_⟩:=h.set h2;simp only[somePairs,List.mem_flatMap,List.mem_map,List.mem_range]at hp;obtain⟨i,hi,k,hk2,rfl⟩:=hp;have hkm:k<(bitsR x.set).length:=List.mem_range.1 (List.mem_of_mem_drop hk2)
  have hik:i<k:=by
   obtain⟨j,hj,e⟩:=List.getElem_of_mem hk2;rw[List.getElem_drop,List.getElem_range]at e;omega
  have q1:=bitsR_in s1.1 s1.2 (getD_mem 0 _ i (by omega));have q2:=bitsR_in s1.1 s1.2 (getD_mem 0 _ k hkm);exact⟨q1.1,bitsR_mono _ hik hkm,q2.2⟩
 ·have:=h.kind;omega
theorem some_len(l:List Int)(h:l.length<=5):(somePairs l).length<=10:=by
 have e:somePairs l=someTo2 l l.length:=rfl
 have q:∀k,k<=l.length->(someTo2 l k).length+(l.length-k)*(l.length-k-1)/2=l.length*(l.length-1)/2:=by
  intro k
  induction k with
  |zero=>intro _;simp[someTo2]
  |succ k ih=>
   intro hk;have:=ih (by omega);rw[someTo2_next,List.length_append];have e2:(someAt l k l.length).length=l.length-(k+1):=by unfold someAt;simp only[List.length_map,List.length_drop,List.length_range]
   rw[e2];generalize l.length=n at*
   rcases show n=1\/n=2\/n=3\/n=4\/n=5 by omega with rfl|rfl|rfl|rfl|rfl<;>(rcases show k=0\/k=1\/k=2\/k=3\/k=4 by omega with rfl|rfl|rfl|rfl|rfl<;>simp_all<;>omega)
 have:=q l.length (Nat.le_refl _);rw[e]
 have h0:l.length*(l.length-1)/2<=10:=by
  generalize l.length=n at*
  rcases show n=0\/n=1\/n=2\/n=3\/n=4\/n=5 by omega with rfl|rfl|rfl|rfl|rfl|rfl<;>decide
 omega
theorem pairs_len(x:Line):(pairsR x).length<=10:=by
 unfold pairsR;split
 ·simp
 split
 ·split
  ·simp
  ·split<;>simp
 split
 ·exact some_len _ (bitsR_len _)
 ·simp
theorem pairs_pos{n:Nat}{x:Line}(h:OkLine n x):0<(pairsR x).length:=by
 unfold pairsR;split
 ·simp
 split
 ·split
  ·simp
  ·split<;>simp
 split
 ·rename_i h2;obtain⟨s1,s2,_⟩:=h.set h2;refine List.length_pos_of_mem (a:=⟨(bitsR x.set).getD 0 0,(bitsR x.set).getD 1 0⟩) ?_;simp only[somePairs,List.mem_flatMap,List.mem_map,List.mem_range]
  exact⟨0,by omega,1,by
   rw[List.mem_iff_getElem?];refine⟨0,?_⟩
   rw[List.getElem?_drop,List.getElem?_range (by omega)],rfl⟩
 ·simp
noncomputable section
theorem swapR_len(h:List Int)(p:Pair):(swapR h p).length=h.length:=by simp[swapR]
theorem doneR_len(h:List Int)(x:Line)(p:Pair):(doneR h x p).1.length=h.length:=by
 unfold doneR;split
 ·rfl
 split
 ·rfl
 ·exact swapR_len h p
def stepTo(b:Book)(but:List Int)(i:Nat)(t:Truth)(p:Nat):List Truth:=(List.range p).flatMap fun k=>waysR but i (b.lines.getD i zLine) t k ((pairsR (b.lines.getD i zLine)).getD k zPair)
theorem stepTo_next(b:Book)(but:List Int)(i:Nat)(t:Truth)(p:Nat):stepTo b but i t (p+1)=stepTo b but i t p++waysR but i (b.lines.getD i zLine) t p ((pairsR (b.lines.getD i zLine)).getD p zPair):=by
 unfold stepTo;rw[List.range_succ,List.flatMap_append];simp
theorem ways_len(but:List Int)(i:Nat)(x:Line)(t:Truth)(k:Nat)(p:Pair):(waysR but i x t k p).length<=1:=by
 unfold waysR;split<;>split<;>simp
theorem stepTo_len(b:Book)(but:List Int)(i:Nat)(t:Truth):∀p,(stepTo b but i t p).length<=p
 |0=>by simp[stepTo]
 |p+1=>by
  rw[stepTo_next,List.length_append];have:=stepTo_len b but i t p;have:=ways_len but i (b.lines.getD i zLine) t p ((pairsR (b.lines.getD i zLine)).getD p zPair);omega
theorem stepT_len(b:Book)(but:List Int)(i:Nat)(t:Truth):(stepT b but i t).length<=10:=Nat.le_trans (stepTo_len b but i t _) (pairs_len _)
theorem truthsTo_len(b:Book)(but:List Int):∀i,(truthsTo b but i).length<=10^i
 |0=>by simp[truthsTo]
 |i+1=>by
  have h1:=flat_le (l:=truthsTo b but i) (f:=stepT b but i) (b:=10) fun x _=>stepT_len b but i x;have h2:=truthsTo_len b but i;simp only[truthsTo,Nat.pow_succ];omega
theorem truthsTo_small(b:Book)(but:List Int){i:Nat}(hi:i<=8):(truthsTo b but i).length<=100000000:=by
 have h1:=truthsTo_len b but i;have h2:10^i<=10^8:=Nat.pow_le_pow_right (by decide) hi;omega
structure OkT(n i:Nat)(t:Truth):Prop where
 np:t.pairs.length=i
 nh:t.haves.length=i+1
 have_:∀l∈t.haves,l.length=n
theorem ways_ok{but:List Int}{i n:Nat}{x:Line}{t:Truth}{k:Nat}{p:Pair}(h:OkT n i t):∀u∈waysR but i x t k p,OkT n (i+1) u:=by
 have h0:(t.haves.getD i []).length=n:=h.have_ _ (getD_mem [] _ i (by rw[h.nh];omega))
 have key:∀a:List Int,a.length=n->OkT n (i+1) ⟨t.pairs++ [p],t.haves++ [a]⟩:=fun a ha=>by
  refine⟨by simp[h.np],by simp[h.nh],fun l hl=> ?_⟩;rcases List.mem_append.1 hl with q|q
  ·exact h.have_ l q
  ·rw[List.mem_singleton.1 q];exact ha
 intro u hu;unfold waysR at hu;split at hu
 ·split at hu
  ·rw[List.mem_singleton.1 hu];exact key _ h0
  ·simp at hu
 ·split at hu
  ·rw[List.mem_singleton.1 hu];exact key _ (by rw[doneR_len];exact h0)
  ·simp at hu
theorem truthsTo_ok(b:Book)(but:List Int):∀i,∀t∈truthsTo b but i,OkT b.bodies.length i t
 |0,t,ht=>by
  simp only[truthsTo,List.mem_singleton]at ht;subst ht;exact⟨rfl,rfl,fun l hl=>by rw[List.mem_singleton.1 hl];simp[firstH]⟩
 |i+1,t,ht=>by
  simp only[truthsTo,List.mem_flatMap,stepT]at ht;obtain⟨u,hu,k,_,hk⟩:=ht;exact ways_ok (truthsTo_ok b but i u hu) t hk
end
noncomputable section
theorem swapR_perm{h:List Int}{p:Pair}(ha:0<=p.a/\p.a<h.length)(hb:0<=p.b/\p.b<h.length):(swapR h p).Perm h:=by
 unfold swapR;have e1:h.getD p.b.toNat 0=h[p.b.toNat]'(by omega):=by rw[gE,List.getElem?_eq_getElem (by omega)];rfl
 have e2:h.getD p.a.toNat 0=h[p.a.toNat]'(by omega):=by rw[gE,List.getElem?_eq_getElem (by omega)];rfl
 rw[e1,e2];exact List.set_set_perm (by omega) (by omega)
theorem doneR_perm{n:Nat}{x:Line}(hx:OkLine n x){p:Pair}(hp:p∈pairsR x){h:List Int}(hl:h.length=n):(doneR h x p).1.Perm h:=by
 unfold doneR;split
 ·exact List.Perm.refl _
 split
 ·exact List.Perm.refl _
 ·have hk:=hx.kind;have:=pairs_in hx hp (by omega);exact swapR_perm (by omega) (by omega)
theorem truthsTo_perm{b:Book}(h:OkBook b)(but:List Int):∀i,i<=b.lines.length->∀t∈truthsTo b but i,∀l∈t.haves,l.Perm (firstH b)
 |0,_,t,ht,l,hl=>by
  simp only[truthsTo,List.mem_singleton]at ht;subst ht;rw[List.mem_singleton.1 hl]
 |i+1,hi,t,ht,l,hl=>by
  simp only[truthsTo,List.mem_flatMap,stepT,List.mem_range]at ht;obtain⟨u,hu,k,hk,hw⟩:=ht;have hok:=truthsTo_ok b but i u hu;have ih:=truthsTo_perm h but i (by omega) u hu;have hm:=getD_mem [] u.haves i (by rw[hok.nh];omega);have h0:=ih _ hm;have hp:=getD_mem zPair _ k hk;have hline:=h.line (i:=i) (by omega);unfold waysR at hw
  have key:∀a:List Int,a.Perm (firstH b)->t=⟨u.pairs++ [(pairsR (b.lines.getD i zLine)).getD k zPair],u.haves++ [a]⟩->l.Perm (firstH b):=fun a ha e=>by
   subst e;rcases List.mem_append.1 hl with q|q
   ·exact ih l q
   ·rw[List.mem_singleton.1 q];exact ha
  split at hw
  ·split at hw
   ·exact key _ h0 (List.mem_singleton.1 hw)
   ·simp at hw
  ·split at hw
   ·exact key _ ((doneR_perm hline hp (hok.have_ _ hm)).trans h0) (List.mem_singleton.1 hw)
   ·simp at hw
end
noncomputable section
theorem same_iff{a b:ByteArray}:same a b=true↔a=b:=by
 unfold same;rw[beq_iff_eq];exact⟨ba_inj,fun h=>by rw[h]⟩
theorem toList_beq{a b:ByteArray}:(a.toList==b.toList)=decide (a=b):=by
 rw[Bool.eq_iff_iff,beq_iff_eq,decide_eq_true_eq];exact⟨ba_inj,fun h=>by rw[h]⟩
theorem told_ok{b:Book}{ns:List Int}{day:Int}(h:(toldR b ns day).2=0):OkBook b/\(∀n∈ns,0<=n/\n<b.bodies.length)/\(0<=day/\day<=364)/\0<(truthsR b []).length/\(toldR b ns day).1=truthsR b []:=by
 unfold toldR at h⊢;by_cases h1:toldE b ns day=0
 ·rw[if_neg (fun q=>q h1)]at h⊢;by_cases h2:(truthsR b []).length=0
  ·rw[if_pos h2]at h;cases h
  ·rw[if_neg h2];unfold toldE at h1;by_cases g1:(bookCheck b).2.2=0
   ·rw[if_neg (fun q=>q g1)]at h1;by_cases g2:outside 0 ((b.bodies.length:Int)-1) ns=true
    ·rw[if_pos g2]at h1;cases h1
    ·rw[if_neg g2]at h1;by_cases g3:within day 0 364=true
     ·refine⟨okBook g1,fun n hn=> ?_,within_iff.1 g3,by omega,rfl⟩;simp only[outside,List.any_eq_true,not_exists,not_and,not_iff_false,Bool.not_eq_false]at g2;have:=within_iff.1 (g2 n hn);omega
     ·rw[if_neg g3]at h1;cases h1
   ·rw[if_pos g1]at h1;exact absurd h1 g1
 ·rw[if_pos h1]at h;exact absurd h h1
def namedTo(x:Body)(day:Int)(i:Nat):ByteArray:=natF (fun i s=>if(x.shown.getD i zShown).day<=day then(x.shown.getD i zShown).as_ else s) ByteArray.empty i
theorem bodyOf_in{l:List Int}{n:Int}(h:n∈l):0<=bodyOf l n/\bodyOf l n<l.length/\l.getD (bodyOf l n).toNat 0=n:=by
 have key:∀(l:List Int) (i:Nat),n∈l->∃j,firstI (fun x=>x==n) i l=some (i+j)/\j<l.length/\l.getD j 0=n:=by
  intro l
  induction l with
  |nil=>intro i hm;simp at hm
  |cons x l ih=>
   intro i hm;simp only[firstI];by_cases e:x=n
   ·subst e;exact⟨0,by simp,by simp,rfl⟩
   ·have hx:(x==n)=false:=by simpa using e
    simp only[hx,Bool.false_eq_true,if_false];obtain⟨j,h1,h2,h3⟩:=ih (i+1) (by rcases List.mem_cons.1 hm with q|q;exact absurd q.symm e;exact q);exact⟨j+1,by rw[h1];congr 1;omega,by simpa using h2,h3⟩
 obtain⟨j,h1,h2,h3⟩:=key l 0 h;have e:bodyOf l n=(j:Int):=by unfold bodyOf;rw[h1];simp
 rw[e];exact⟨by omega,by omega,by rw[Int.toNat_natCast];exact h3⟩
theorem shown_iff{l:List Shown}:shownErr l=0↔l.length<=3/\∀i,i<l.length->shownAt l i (l.getD i zShown)=0:=by
 unfold shownErr firstR;constructor
 ·intro h;split at h
  ·cases h
  rename_i g;refine⟨by omega,fun i hi=> ?_⟩;split at h
  ·rename_i j e he;simp only at h;exact absurd h (firstE_ne he)
  ·rename_i he;have:=firstE_none_at zShown he i hi;rwa[Nat.zero_add]at this
 ·rintro⟨h1,h2⟩
  rw[if_neg (by omega)];split
  ·rename_i j e he;exfalso
   have:∀(m:List Shown) (i:Nat),firstE (shownAt l) i m=some (j,e)->∃k,k<m.length/\j=i+k/\shownAt l j (m.getD k zShown)=e/\e≠0:=by
    intro m
    induction m with
    |nil=>intro i q;simp[firstE]at q
    |cons x m ih=>
     intro i q;simp only[firstE]at q;split at q
     ·obtain⟨k,k1,k2,k3⟩:=ih (i+1) q;exact⟨k+1,by simpa using k1,by omega,k3⟩
     ·rename_i hne;simp only[sJ,Prod.mk.injEq]at q;obtain⟨rfl,rfl⟩:=q;exact⟨0,by simp,by omega,rfl,hne⟩
   obtain⟨k,k1,k2,k3,k4⟩:=this l 0 he;rw[Nat.zero_add]at k2;subst k2;rw[h2 j k1]at k3;exact k4 k3.symm
  ·rfl
theorem OkBook.shown{b:Book}(h:OkBook b){i:Nat}(hi:i<b.bodies.length):shownErr (b.bodies.getD i zBody).shown=0:=by
 have:=h.body i hi;unfold bodyAt at this;split at this
 ·rename_i g;exact absurd this g
 ·exact this
end
noncomputable section
def picks(below:Int):Nat->List (List Int)
 |0=>[[]]
 |n+1=>(picks below n).flatMap fun l=>(List.range (below-((if l.length=0 then-1 else l.getD (l.length-1) 0)+1)).toNat).map fun(k:Nat)=>l++ [(if l.length=0 then-1 else l.getD (l.length-1) 0)+1+(k:Int)]
def lastI(l:List Int):Int:=if l.length=0 then-1 else l.getD (l.length-1) 0
def pickF(b:Int)(l:List Int):List (List Int):=(List.range (b-(lastI l+1)).toNat).map fun(k:Nat)=>l++ [lastI l+1+(k:Int)]
theorem picks_succ(b:Int)(n:Nat):picks b (n+1)=(picks b n).flatMap (pickF b):=rfl
theorem lastI_mem{l:List Int}(h:l≠ []):lastI l∈l:=by
 have:l.length≠0:=by simpa using h
 rw[lastI,if_neg this,gE,List.getElem?_eq_getElem (by omega)];exact List.getElem_mem _
structure Pick(b:Int)(n:Nat)(l:List Int):Prop where
 len:l.length=n
 asc:l.Pairwise (·<·)
 lo:∀x∈l,0<=x
 hi:∀x∈l,x<b
theorem Pick.last{b:Int}{n:Nat}{l:List Int}(h:Pick b n l): -1<=lastI l:=by
 by_cases e:l=[]
 ·subst e;decide
 ·have:=h.lo _ (lastI_mem e);omega
theorem le_last{l:List Int}(h:l.Pairwise (·<·)):∀x∈l,x<=lastI l:=by
 intro x hx;obtain⟨i,hi,rfl⟩:=List.getElem_of_mem hx;have hn:l.length≠0:=by omega
 rw[lastI,if_neg hn,gE,List.getElem?_eq_getElem (show l.length-1<l.length by omega),Option.getD_some];rcases Nat.lt_or_ge i (l.length-1)with q|q
 ·exact Int.le_of_lt (List.pairwise_iff_getElem.1 h i (l.length-1) hi (by omega) q)
 ·have:i=l.length-1:=by omega
  subst this;exact Int.le_refl _
theorem mem_pickF{b:Int}{l m:List Int}:m∈pickF b l↔∃x,lastI l<x/\x<b/\m=l++ [x]:=by
 simp only[pickF,List.mem_map,List.mem_range];constructor
 ·rintro⟨k,hk,rfl⟩;exact⟨_,by omega,by omega,rfl⟩
 ·rintro⟨x,h1,h2,rfl⟩;exact⟨(x-(lastI l+1)).toNat,by omega,by congr 2;omega⟩
theorem picks_ok(b:Int):∀(n:Nat) (l:List Int),l∈picks b n↔Pick b n l
 |0,l=>by
  simp only[picks,List.mem_singleton];exact⟨fun h=>by subst h;exact⟨rfl,.nil,by simp,by simp⟩,fun h=>List.eq_nil_of_length_eq_zero h.len⟩
 |n+1,l=>by
  rw[picks_succ,List.mem_flatMap];constructor
  ·rintro⟨m,hm,hl⟩
   obtain⟨x,h1,h2,rfl⟩:=mem_pickF.1 hl;have hp:=(picks_ok b n m).1 hm;refine⟨by simp[hp.len],?_,fun y hy=> ?_,fun y hy=> ?_⟩
   ·rw[List.pairwise_append];exact⟨hp.asc,by simp,fun a ha c hc=>by simp only[List.mem_singleton]at hc;subst hc;have:=le_last hp.asc a ha;omega⟩
   ·rcases List.mem_append.1 hy with q|q
    ·exact hp.lo y q
    ·simp only[List.mem_singleton]at q;subst q;have:=hp.last;omega
   ·rcases List.mem_append.1 hy with q|q
    ·exact hp.hi y q
    ·simp only[List.mem_singleton]at q;subst q;exact h2
  ·intro h;have hne:l≠ []:=by intro e;subst e;have:=h.len;simp at this
   obtain⟨m,x,rfl⟩:∃m x,l=m++ [x]:=⟨l.dropLast,l.getLast hne,(List.dropLast_concat_getLast hne).symm⟩
   have hp:=List.pairwise_append.1 h.asc
   have hm:Pick b n m:=⟨by have:=h.len;simp at this;exact this,hp.1,fun y hy=>h.lo y (List.mem_append_left _ hy),fun y hy=>h.hi y (List.mem_append_left _ hy)⟩
   refine⟨m,(picks_ok b n m).2 hm,mem_pickF.2 ⟨x,?_,h.hi x (by simp),rfl⟩⟩;by_cases e:m=[]
   ·subst e;have:=h.lo x (by simp);simp[lastI];omega
   ·exact hp.2.2 _ (lastI_mem e) x (by simp)
inductive P20
 |e
 |l0 (x0_5:Bool) (x0_6:Int)
inductive R20
 |r0 (r0:Bool)
def T20(l:List Pair)(m:List Pair):P20->Tr P20 R20
 |.e=>(.go (.l0 ((l.length:Int)==(m.length:Int)) 0))
 |.l0 x0_5 x0_6=>let c1:=m.getD (x0_6).toNat tPair.zero;let c2:=l.getD (x0_6).toNat tPair.zero;(.br x0_5 (.br (decide (x0_6<(l.length:Int))) (.front [] [] (((decide (0<=x0_6)&&decide (x0_6<(l.length:Int)))&&((decide (0<=x0_6)&&decide (x0_6<(m.length:Int)))&&true))&&true) true (.need (inR .i64 (x0_6+(1:Int))) (.go (.l0 ((c2.a==c1.a)&&((c2.b==c1.b)&&true)) (x0_6+(1:Int)))))) (.out (.r0 x0_5))) (.lit false (.out (.r0 x0_5))))
noncomputable def g20(l:List Pair)(m:List Pair):P20->List Item × St
 |.e=>bd Tryz.f20 [tPair.lst l,tPair.lst m] 29
 |.l0 x0_5 x0_6=>(cutOf Tryz.f20 0,⟨mk 31 [(0,tPair.lst l),(1,tPair.lst m),(5,.bool x0_5),(6,iI x0_6)],[],[]⟩)
def n20:R20->Exit × St
 |.r0 r0=>(.ret,⟨mk 31 [(4,.bool r0)],[],[]⟩)
def v20:R20->V
 |.r0 r0=>.bool r0
theorem s20(l:List Pair)(m:List Pair):Sm 0 (g20 l m) (T20 l m) (n20)
 |.e=>⟨400,by kernel_rfl⟩
 |.l0 _ _=>⟨400,by kernel_rfl⟩
theorem q20:∀r,bodyQ Tryz.prog Tryz.f20 (·=v20 r) (n20 r).1 (n20 r).2
 |.r0 r0=>bq (.bool r0) (by kernel_rfl)
theorem w20(l:List Pair)(m:List Pair){post:V->Prop}(h:WQ (T20 l m) v20 post .e):PC 20 [tPair.lst l,tPair.lst m] post:=
 PCalls.wq Tryz.func20 (s20 l m) q20 h
theorem e20:∀xs w,(callFunc 20 xs).run Tryz.prog w=.ok (.enter 20 xs) w:=PCalls.enters Tryz.func20 (c:=Tryz.f20.body.getD .skip) (by kernel_rfl) (by kernel_rfl)
theorem pair_beq(p q:Pair):((p.a==q.a)&&((p.b==q.b)&&true))=decide (p=q):=by
 obtain⟨a,b⟩:=p;obtain⟨c,d⟩:=q;rw[Bool.eq_iff_iff];simp
theorem c20(l m:List Pair):PC 20 [tPair.lst l,tPair.lst m] (·=.bool (sameP l m)):=by
 refine PCalls.assume e20 0 (by simp) .list fun hl=> ?_
 have hfalse:l≠m->∀i,WP Tryz.prog ⟨none,0⟩ (T20 l m) (Ends' fun r=>v20 r=.bool (sameP l m)) (.l0 false i):=fun h i=>by
  have hs:sameP l m=false:=by simpa[sameP]using h
  refine WP.step ?_;simp only[T20,Go,Ends',v20,Tr.sure,SS];repeat' with_reducible first|intro _|apply aI
  all_goals simp[hs,Go,Ends',v20,-List.getD_eq_getElem?_getD, *]
 refine w20 _ _ (WP.step ?_);simp only[T20,Tr.sure,Go];by_cases he:l.length=m.length
 ·have e1:((l.length:Int)==(m.length:Int))=true:=by simp[he]
  rw[e1];refine WP.count (fun i=>.l0 true (i:Int)) rfl l.length (fun i=>l.take i=m.take i) rfl (fun i hi hI=> ?_) fun hI=> ?_
  ·have hb:i<m.length:=by omega
   have hr:=inRi hi hl;have hi':(i:Int)<l.length:=by omega
   have hb':(i:Int)<m.length:=by omega
   have hq:=pair_beq (l.getD i zPair) (m.getD i zPair);by_cases hx:l.getD i zPair=m.getD i zPair
   ·have hn:=take_eq_snoc zPair hi hb hI hx;have hx1:((l.getD i zPair).a==(m.getD i zPair).a&&((l.getD i zPair).b==(m.getD i zPair).b&&true))=true:=by rw[hq];simpa using hx
    refine WP.once ?_;simp only[T20,Tr.sure,SS,hi',hb',z8,hx1];repeat' with_reducible first|intro _|apply aI
    all_goals simp[hr,hn,Go,Ends',v20,-List.getD_eq_getElem?_getD, *]
   ·have hne:l≠m:=fun h=>hx (by rw[h]);have hx2:((l.getD i zPair).a==(m.getD i zPair).a&&((l.getD i zPair).b==(m.getD i zPair).b&&true))=false:=by rw[hq];simpa using hx
    have hgo:=hfalse hne ((i:Int)+1);refine WP.once ?_;simp only[T20,Tr.sure,SS,hi',hb',z8,hx2];repeat' with_reducible first|intro _|apply aI
    all_goals first|exact(Or.inr hgo)|(simp[hr,Go,Ends',v20,-List.getD_eq_getElem?_getD, *];done)
  ·have heq:l=m:=by rw[List.take_length,he,List.take_length]at hI;exact hI
   have hs:sameP l m=true:=by simpa[sameP]using heq
   refine WP.step ?_;simp only[T20,Go,Ends',v20,Tr.sure,SS,Int.lt_irrefl];repeat' with_reducible first|intro _|apply aI
   all_goals simp_all [hs,Go,Ends',v20,-List.getD_eq_getElem?_getD]
 ·have e1:((l.length:Int)==(m.length:Int))=false:=by simp;omega
  rw[e1];exact hfalse (fun h=>he (by rw[h])) 0
def sameS(a b:List ByteArray):Bool:=decide (a=b)
inductive P31
 |e
 |l0 (x0_5:Bool) (x0_6:Int)
inductive R31
 |r0 (r0:Bool)
def T31(l:List ByteArray)(m:List ByteArray):P31->Tr P31 R31
 |.e=>(.go (.l0 ((l.length:Int)==(m.length:Int)) 0))
 |.l0 x0_5 x0_6=>(.br x0_5 (.br (decide (x0_6<(l.length:Int))) (.front [] [] (((decide (0<=x0_6)&&decide (x0_6<(l.length:Int)))&&((decide (0<=x0_6)&&decide (x0_6<(m.length:Int)))&&true))&&true) true (.need (inR .i64 (x0_6+(1:Int))) (.go (.l0 ((l.getD (x0_6).toNat tstr.zero).toList==(m.getD (x0_6).toNat tstr.zero).toList) (x0_6+(1:Int)))))) (.out (.r0 x0_5))) (.lit false (.out (.r0 x0_5))))
noncomputable def g31(l:List ByteArray)(m:List ByteArray):P31->List Item × St
 |.e=>bd Tryz.f31 [tstr.lst l,tstr.lst m] 29
 |.l0 x0_5 x0_6=>(cutOf Tryz.f31 0,⟨mk 31 [(0,tstr.lst l),(1,tstr.lst m),(5,.bool x0_5),(6,iI x0_6)],[],[]⟩)
def n31:R31->Exit × St
 |.r0 r0=>(.ret,⟨mk 31 [(4,.bool r0)],[],[]⟩)
def v31:R31->V
 |.r0 r0=>.bool r0
theorem s31(l:List ByteArray)(m:List ByteArray):Sm 0 (g31 l m) (T31 l m) (n31)
 |.e=>⟨400,by kernel_rfl⟩
 |.l0 _ _=>⟨400,by kernel_rfl⟩
theorem q31:∀r,bodyQ Tryz.prog Tryz.f31 (·=v31 r) (n31 r).1 (n31 r).2
 |.r0 r0=>bq (.bool r0) (by kernel_rfl)
theorem w31(l:List ByteArray)(m:List ByteArray){post:V->Prop}(h:WQ (T31 l m) v31 post .e):PC 31 [tstr.lst l,tstr.lst m] post:=
 PCalls.wq Tryz.func31 (s31 l m) q31 h
theorem e31:∀xs w,(callFunc 31 xs).run Tryz.prog w=.ok (.enter 31 xs) w:=PCalls.enters Tryz.func31 (c:=Tryz.f31.body.getD .skip) (by kernel_rfl) (by kernel_rfl)
theorem c31(l m:List ByteArray):PC 31 [tstr.lst l,tstr.lst m] (·=.bool (sameS l m)):=by
 refine PCalls.assume e31 0 (by simp) .list fun hl=> ?_
 have hfalse:l≠m->∀i,WP Tryz.prog ⟨none,0⟩ (T31 l m) (Ends' fun r=>v31 r=.bool (sameS l m)) (.l0 false i):=fun h i=>by
  have hs:sameS l m=false:=by simpa[sameS]using h
  refine WP.step ?_;simp only[T31,Go,Ends',v31,Tr.sure,SS];repeat' with_reducible first|intro _|apply aI
  all_goals simp[hs,Go,Ends',v31,-List.getD_eq_getElem?_getD, *]
 refine w31 _ _ (WP.step ?_);simp only[T31,Tr.sure,Go];by_cases he:l.length=m.length
 ·have e1:((l.length:Int)==(m.length:Int))=true:=by simp[he]
  rw[e1];refine WP.count (fun i=>.l0 true (i:Int)) rfl l.length (fun i=>l.take i=m.take i) rfl (fun i hi hI=> ?_) fun hI=> ?_
  ·have hb:i<m.length:=by omega
   have hr:=inRi hi hl;have hi':(i:Int)<l.length:=by omega
   have hb':(i:Int)<m.length:=by omega
   by_cases hx:l.getD i ByteArray.empty=m.getD i ByteArray.empty
   ·have hn:=take_eq_snoc ByteArray.empty hi hb hI hx;have hx1:((l.getD i ByteArray.empty).toList==(m.getD i ByteArray.empty).toList)=true:=by rw[toList_beq];simpa using hx
    refine WP.once ?_;simp only[T31,Tr.sure,SS,hi',hb',z12,hx1];repeat' with_reducible first|intro _|apply aI
    all_goals simp[hr,hn,Go,Ends',v31,-List.getD_eq_getElem?_getD, *]
   ·have hne:l≠m:=fun h=>hx (by rw[h]);have hx2:((l.getD i ByteArray.empty).toList==(m.getD i ByteArray.empty).toList)=false:=by rw[toList_beq];simpa using hx
    have hgo:=hfalse hne ((i:Int)+1);refine WP.once ?_;simp only[T31,Tr.sure,SS,hi',hb',z12,hx2];repeat' with_reducible first|intro _|apply aI
    all_goals first|exact(Or.inr hgo)|(simp[hr,Go,Ends',v31,-List.getD_eq_getElem?_getD, *];done)
  ·have heq:l=m:=by rw[List.take_length,he,List.take_length]at hI;exact hI
   have hs:sameS l m=true:=by simpa[sameS]using heq
   refine WP.step ?_;simp only[T31,Go,Ends',v31,Tr.sure,SS,Int.lt_irrefl];repeat' with_reducible first|intro _|apply aI
   all_goals simp_all [hs,Go,Ends',v31,-List.getD_eq_getElem?_getD]
 ·have e1:((l.length:Int)==(m.length:Int))=false:=by simp;omega
  rw[e1];exact hfalse (fun h=>he (by rw[h])) 0
theorem truths_len8{b:Book}(h:OkBook b)(but:List Int):(truthsR b but).length<=100000000:=truthsTo_small b but h.nl
end
noncomputable section
theorem app_at{τ:Type}(E:Ty τ)(L:List τ)(x:τ){n w:Nat}{cs:List V}(hc:cs=E.cells x)(hn:n=L.length)(r j:Nat)(hr:r<n+1):VLe (appC n (rowsOf E L) (litC w 1 cs) r j) (rowsOf E (L++ [x]) r j):=by
 subst hc;subst hn;unfold appC;by_cases h:r<L.length
 ·rw[if_pos h];simp only[rowsOf,gE,aL h];exact VLe.refl _
 ·have e:r=L.length:=by omega
  subst e;rw[if_neg h,Nat.sub_self];simp only[rowsOf,gE,List.getElem?_append_right (Nat.le_refl _),Nat.sub_self];exact VLe.refl _
end
noncomputable section
theorem isEmpty_eq(s:ByteArray):(s.toList==(ByteArray.mk #[]).toList)=decide (s=ByteArray.empty):=toList_beq
def namesOf(x:Body):List ByteArray:=x.shown.map (·.as_)
theorem allNames_ne{b:Book}(h:OkBook b):∀s∈allNames b,s≠ByteArray.empty:=by
 intro s hs e;subst e;unfold allNames at hs;rw[List.mem_flatMap]at hs;obtain⟨x,hx,hs⟩:=hs;rw[List.mem_map]at hs;obtain⟨z,hz,e⟩:=hs;obtain⟨i,hi,rfl⟩:=mem_getD zBody hx;have:=(shown_iff.1 (h.shown hi)).2;obtain⟨q,hq,rfl⟩:=mem_getD zShown hz;have h2:=this q hq;unfold shownAt at h2;rw[e]at h2;split at h2
 ·cases h2
 split at h2
 ·cases h2
 ·have e2:nameOk ByteArray.empty=false:=by decide
  rw[e2]at h2;cases h2
theorem allNames_len{b:Book}(h:OkBook b):(allNames b).length<=15:=by
 have h1:=flat_le (l:=b.bodies) (f:=namesOf) (b:=3) fun x hx=>by
  obtain⟨i,hi,rfl⟩:=mem_getD zBody hx;have:=(shown_iff.1 (h.shown hi)).1;unfold namesOf;simpa using this
 have h2:=h.nb;have e:allNames b=b.bodies.flatMap namesOf:=rfl;rw[e];omega
theorem persons_len{b:Book}(h:OkBook b):(personsR b).length<=15:=Nat.le_trans (sortU_len _) (allNames_len h)
end
noncomputable section
def asR(b:Book)(head day:Int):List ByteArray × Int:=
 if(toldR b [head] day).2≠0 then([],(toldR b [head] day).2)else((personsR b).filter fun s=>(truthsR b []).any fun t=>same (seenR b t head day) s,0)
def manyS(b:Book)(L:List Truth)(head:Int)(s:ByteArray):Nat:=(L.filter fun t=>shownR b t head s (daysR b)).length
def everR(b:Book)(head:Int):List ByteArray × List ByteArray × Int:=
 if(toldR b [head] 0).2≠0 then([],[],(toldR b [head] 0).2)else
  ((personsR b).filter fun s=>manyS b (truthsR b []) head s==(truthsR b []).length,(personsR b).filter fun s=>decide (0<manyS b (truthsR b []) head s),0)
end
noncomputable section
def anyS(b:Book)(L:List Truth)(head:Int)(as_:ByteArray)(d:Int):Bool:=L.any fun t=>same (seenR b t head d) as_
def meetS(s:Span)(d:Int):Span:=⟨if s.lo<0 then d else s.lo,d⟩
def spanG(b:Book)(L:List Truth)(head:Int)(as_:ByteArray)(s:Span)(d:Int):Span:=if anyS b L head as_ d=true then meetS s d else s
def spanOf(b:Book)(L:List Truth)(head:Int)(as_:ByteArray):Span:=(daysR b).foldl (spanG b L head as_) ⟨-1,0⟩
def betweenR(b:Book)(head:Int)(as_:ByteArray):Span × Int:=
 if(toldR b [head] 0).2≠0 then(zSpan,(toldR b [head] 0).2)else if nameOk as_=false then(zSpan,6)
 else if(spanOf b (truthsR b []) head as_).lo<0 then(zSpan,4)else(spanOf b (truthsR b []) head as_,0)
theorem days_in{b:Book}{d:Int}(h:d∈daysR b):0<=d/\d<=364:=by
 unfold daysR at h;rw[List.mem_map]at h;obtain⟨i,hi,rfl⟩:=h;have:=List.mem_range.1 (List.mem_filter.1 hi).1;omega
def canR(b:Book)(l:List Int):Bool:=decide (0<(truthsR b l).length)
def wrongFrom(b:Book)(n:Int):Nat->Nat->List Int
 |0,many=>(picks n many).getD 0 []
 |k+1,many=>match(picks n many).find? (canR b)with|some l=>l|none=>wrongFrom b n k (many+1)
def wrongR(b:Book):List Int × Int:=if(bookCheck b).2.2≠0 then([],(bookCheck b).2.2)else(wrongFrom b b.lines.length b.lines.length 0,0)
theorem picks_pos(n:Nat):0<(picks n n).length:=by
 have:((List.range n).map fun(i:Nat)=>(i:Int))∈picks n n:=by
  rw[picks_ok];refine⟨by simp,?_,fun x hx=> ?_,fun x hx=> ?_⟩
  ·rw[List.pairwise_map];exact(List.pairwise_lt_range).imp fun h=>by omega
  ·obtain⟨i,hi,rfl⟩:=List.mem_map.1 hx;omega
  ·obtain⟨i,hi,rfl⟩:=List.mem_map.1 hx;rw[List.mem_range]at hi;omega
 exact List.length_pos_of_mem this
end
noncomputable section
inductive P104
 |e
inductive R104
 |r0 (r0:Bool)
def T104(n:Int)(lo:Int)(hi:Int):P104->Tr P104 R104
 |.e=>(.br (decide (n<lo)) (.out (.r0 true)) (.out (.r0 (decide (n>hi)))))
noncomputable def g104(n:Int)(lo:Int)(hi:Int):P104->List Item × St
 |.e=>bd Tryz.f104 [iI n,rR (iI lo),rR (iI hi)] 10
def n104:R104->Exit × St
 |.r0 r0=>(.ret,⟨mk 13 [(4,.bool r0)],[],[]⟩)
def v104:R104->V
 |.r0 r0=>.bool r0
theorem s104(n:Int)(lo:Int)(hi:Int):Sm 0 (g104 n lo hi) (T104 n lo hi) (n104)
 |.e=>⟨400,by kernel_rfl⟩
theorem q104:∀r,bodyQ Tryz.prog Tryz.f104 (·=v104 r) (n104 r).1 (n104 r).2
 |.r0 r0=>bq (.bool r0) (by kernel_rfl)
theorem w104(n:Int)(lo:Int)(hi:Int){post:V->Prop}(h:WQ (T104 n lo hi) v104 post .e):PC 104 [iI n,rR (iI lo),rR (iI hi)] post:=
 PCalls.wq Tryz.func104 (s104 n lo hi) q104 h
theorem c104(n lo hi:Int):PC 104 [iI n,rR (iI lo),rR (iI hi)] (·=.bool (!within n lo hi)):=by
 refine w104 _ _ _ (WP.step ?_);simp only[T104,Go,Ends',v104,Tr.sure,SS];repeat' with_reducible first|intro _|apply aI
 all_goals first|(simp[within,Go,Ends',v104,-List.getD_eq_getElem?_getD, *];done)|skip
 all_goals(simp only[within,V.bool.injEq];rw[Bool.eq_iff_iff];simp;omega)
def Asks2(g:Nat)(lo hi:Int)(p:Int->Bool):Prop:=∀n,PC g [iI n,rR (iI lo),rR (iI hi)] (·=.bool (p n))
def place(o:Option Nat):Int:=match o with|some i=>i|none=> -1
theorem place_ge(o:Option Nat):(0<=place o)↔o.isSome=true:=by cases o<;>simp[place]
inductive P121
 |e
 |l0 (x0_8:Int)
inductive R121
 |r0 (r0:Int)
def T121(g:Nat)(lo:Int)(hi:Int)(p:Int->Bool)(s:List Int):P121->Tr P121 R121
 |.e=>(.go (.l0 0))
 |.l0 x0_8=>let c1:=s.getD (x0_8).toNat tint.zero;(.br (decide (x0_8<(s.length:Int))) (.need (decide (0<=x0_8)&&decide (x0_8<(s.length:Int))) (.call g [iI c1,rR (iI lo),rR (iI hi)] (.bool (p c1)) true true (.br (p c1) (.out (.r0 x0_8)) (.need (inR .i64 (x0_8+(1:Int))) (.go (.l0 (x0_8+(1:Int)))))))) (.out (.r0 (-1))))
noncomputable def g121(g:Nat)(lo:Int)(hi:Int)(p:Int->Bool)(s:List Int):P121->List Item × St
 |.e=>bd Tryz.f121 [tint.lst s,.func (.func g) [] [rR (iI lo),rR (iI hi)]] 17
 |.l0 x0_8=>(cutOf Tryz.f121 0,⟨mk 19 [(0,tint.lst s),(1,.func (.func g) [] [rR (iI lo),rR (iI hi)]),(7,iI (s.length:Int)),(8,iI x0_8)],[],[]⟩)
def n121:R121->Exit × St
 |.r0 r0=>(.ret,⟨mk 19 [(4,iI r0)],[],[]⟩)
def v121:R121->V
 |.r0 r0=>iI r0
theorem s121(g:Nat)(lo:Int)(hi:Int)(p:Int->Bool)(s:List Int):Sm 0 (g121 g lo hi p s) (T121 g lo hi p s) (n121)
 |.e=>⟨400,by kernel_rfl⟩
 |.l0 _=>⟨400,by kernel_rfl⟩
theorem q121:∀r,bodyQ Tryz.prog Tryz.f121 (·=v121 r) (n121 r).1 (n121 r).2
 |.r0 r0=>bq (iI r0) (by kernel_rfl)
theorem w121(g:Nat)(lo:Int)(hi:Int)(p:Int->Bool)(s:List Int){post:V->Prop}(h:WQ (T121 g lo hi p s) v121 post .e):PC 121 [tint.lst s,.func (.func g) [] [rR (iI lo),rR (iI hi)]] post:=
 PCalls.wq Tryz.func121 (s121 g lo hi p s) q121 h
theorem e121:∀xs w,(callFunc 121 xs).run Tryz.prog w=.ok (.enter 121 xs) w:=PCalls.enters Tryz.func121 (c:=Tryz.f121.body.getD .skip) (by kernel_rfl) (by kernel_rfl)
theorem c121{g:Nat}{lo hi:Int}{p:Int->Bool}(s:List Int)(hg:Asks2 g lo hi p):PC 121 [tint.lst s,.func (.func g) [] [rR (iI lo),rR (iI hi)]]
  (·=iI (place (firstI p 0 s))):=by
 refine PCalls.assume e121 0 (by simp) .list fun hs=> ?_;refine w121 g lo hi p s (WP.step ?_);simp only[T121,Go,Ends',v121,Tr.sure,SS];repeat' with_reducible first|intro _|apply aI
 refine WP.findI (fun i=>.l0 i) rfl s 0 p (fun i hi=> ?_) fun hI=> ?_
 ·have hr:=inRi hi hs;refine WP.once ?_;simp only[T121,Tr.sure,SS,hi,z1];repeat' with_reducible first|intro _|apply aI
  all_goals first|exact hg _|(simp[hr,place,Go,Ends',v121,-List.getD_eq_getElem?_getD, *];done)|(simp_all [hr,place,Go,Ends',v121,-List.getD_eq_getElem?_getD];done)
 ·refine WP.step ?_;simp only[T121,Go,Ends',v121,Tr.sure,SS];repeat' with_reducible first|intro _|apply aI
  all_goals simp[hI,place,Go,Ends',v121,-List.getD_eq_getElem?_getD, *]
inductive P103
 |e
inductive R103
 |r0 (r0:Bool)
def T103(g:Nat)(lo:Int)(hi:Int)(p:Int->Bool)(s:List Int):P103->Tr P103 R103
 |.e=>(.call 121 [tint.lst s,.func (.func g) [] [rR (iI lo),rR (iI hi)]] (iI (place (firstI p 0 s))) true true (.out (.r0 (decide ((place (firstI p 0 s))≥(0:Int))))))
noncomputable def g103(g:Nat)(lo:Int)(hi:Int)(p:Int->Bool)(s:List Int):P103->List Item × St
 |.e=>bd Tryz.f103 [tint.lst s,.func (.func g) [] [rR (iI lo),rR (iI hi)]] 7
def n103:R103->Exit × St
 |.r0 r0=>(.ret,⟨mk 9 [(4,.bool r0)],[],[]⟩)
def v103:R103->V
 |.r0 r0=>.bool r0
theorem s103(g:Nat)(lo:Int)(hi:Int)(p:Int->Bool)(s:List Int):Sm 0 (g103 g lo hi p s) (T103 g lo hi p s) (n103)
 |.e=>⟨400,by kernel_rfl⟩
theorem q103:∀r,bodyQ Tryz.prog Tryz.f103 (·=v103 r) (n103 r).1 (n103 r).2
 |.r0 r0=>bq (.bool r0) (by kernel_rfl)
theorem w103(g:Nat)(lo:Int)(hi:Int)(p:Int->Bool)(s:List Int){post:V->Prop}(h:WQ (T103 g lo hi p s) v103 post .e):PC 103 [tint.lst s,.func (.func g) [] [rR (iI lo),rR (iI hi)]] post:=
 PCalls.wq Tryz.func103 (s103 g lo hi p s) q103 h
theorem c103{g:Nat}{lo hi:Int}{p:Int->Bool}(s:List Int)(hg:Asks2 g lo hi p):PC 103 [tint.lst s,.func (.func g) [] [rR (iI lo),rR (iI hi)]]
  (·=.bool (s.any p)):=by
 have h1:decide (0<=place (firstI p 0 s))=s.any p:=by rw[<-firstI_any p s 0,Bool.eq_iff_iff,decide_eq_true_iff];exact place_ge _
 refine w103 g lo hi p s (WP.step ?_);simp only[T103,Go,Ends',v103,Tr.sure,SS];repeat' with_reducible first|intro _|apply aI
 all_goals first|exact c121 s hg|(simp[h1,Go,Ends',v103,-List.getD_eq_getElem?_getD, *];done)
inductive P64
 |e
inductive R64
 |r0 (r0:Bool)
def T64(p0:Int)(p1:Int)(p2:List Int):P64->Tr P64 R64
 |.e=>(.call 103 [tint.lst p2,fG 104 [rR (iI p0),rR (iI p1)]] (.bool (outside p0 p1 p2)) true true (.out (.r0 (outside p0 p1 p2))))
noncomputable def g64(p0:Int)(p1:Int)(p2:List Int):P64->List Item × St
 |.e=>bd Tryz.f64 [iI p0,iI p1,tint.lst p2] 7
def n64:R64->Exit × St
 |.r0 r0=>(.ret,⟨mk 10 [(6,.bool r0)],[],[]⟩)
def v64:R64->V
 |.r0 r0=>.bool r0
theorem s64(p0:Int)(p1:Int)(p2:List Int):Sm 0 (g64 p0 p1 p2) (T64 p0 p1 p2) (n64)
 |.e=>⟨400,by kernel_rfl⟩
theorem q64:∀r,bodyQ Tryz.prog Tryz.f64 (·=v64 r) (n64 r).1 (n64 r).2
 |.r0 r0=>bq (.bool r0) (by kernel_rfl)
theorem w64(p0:Int)(p1:Int)(p2:List Int){post:V->Prop}(h:WQ (T64 p0 p1 p2) v64 post .e):PC 64 [iI p0,iI p1,tint.lst p2] post:=
 PCalls.wq Tryz.func64 (s64 p0 p1 p2) q64 h
theorem c64(lo hi:Int)(l:List Int):PC 64 [iI lo,iI hi,tint.lst l] (·=.bool (outside lo hi l)):=by
 refine w64 _ _ _ (WP.step ?_);simp only[T64,Go,Ends',v64,Tr.sure,SS];repeat' with_reducible first|intro _|apply aI
 all_goals exact c103 l fun n=>c104 n lo hi
theorem outside1(lo hi a:Int):outside lo hi [a]= !within a lo hi:=by simp[outside]
theorem c64l(lo hi a:Int){c:Nat->Nat->V}(hc:c 0 0=iI a):PC 64 [iI lo,iI hi,.list 1 1 c] (·=.bool (!within a lo hi)):=by
 rw[<-outside1]
 exact PCalls.arg (pre:=[iI lo,iI hi]) (c64 lo hi [a]) (VLe.list fun i j hi hj=>by
  obtain rfl:i=0:=by omega
  obtain rfl:j=0:=by omega
  rw[hc];rfl)
theorem byte_at(s:ByteArray)(i:Nat)(hi:i<s.size):s[i]'hi=s.data.toList.getD i 0:=by
 simp only[gE,List.getElem?_eq_getElem (show i<s.data.toList.length from hi),Option.getD_some];rfl
inductive P59
 |e
 |l0 (o0_0:Nat)
inductive R59
 |r0 (r0:Bool)
def T59(p0:ByteArray):P59->Tr P59 R59
 |.e=>(.sem (opAt Tryz.f59 1 1) [(.tmp 6,.str p0)] [] (.ref 0 0 0) [.obj (.stringIter p0 0)] true (.go (.l0 0)))
 |.l0 o0_0=>let c2:=Utf8.decode p0 o0_0;let c1:Tr P59 R59:=.br ((o0_0:Int)==(0:Int)) (.lit true (.lit true (.lit true (.out (.r0 false))))) (.br ((c2.1:Int) !=(46:Int)) (.br (decide ((c2.1:Int)<(48:Int))) (.lit true (.lit false (.lit true (.lit true (.out (.r0 false)))))) (.lit true (.lit false (.lit true (.br (decide ((c2.1:Int)>(57:Int))) (.out (.r0 false)) (.go (.l0 (o0_0+c2.2)))))))) (.lit false (.lit false (.lit true (.lit false (.go (.l0 (o0_0+c2.2))))))));let c3:List Blk:=[.obj (.stringIter p0 o0_0)];(.wait 1 (.cas (decide (o0_0<p0.size)) (.sem (opAt Tryz.f59 2 0) [(.tmp 7,.ref 0 0 0)] c3 (.tuple [.bool true,iI (o0_0:Int),.int .i32 (c2.1:Int)]) [.obj (.stringIter p0 (o0_0+c2.2))] true (.lit true (.br (decide ((97:Int)<=(c2.1:Int))) (.br (!(decide ((c2.1:Int)<=(122:Int)))) c1 (.lit false (.lit false (.go (.l0 (o0_0+c2.2)))))) (.lit true c1)))) (.sem (opAt Tryz.f59 2 0) [(.tmp 7,.ref 0 0 0)] c3 (.tuple [.bool false]) c3 true (.lit false (.br (!(p0.toList==(ByteArray.mk #[]).toList)) (.out (.r0 (decide ((p0.size:Int)<=(16:Int))))) (.out (.r0 false)))))))
noncomputable def g59(p0:ByteArray):P59->List Item × St
 |.e=>bd Tryz.f59 [.str p0] 42
 |.l0 o0_0=>(cutOf Tryz.f59 0,⟨mk 43 [(0,.str p0),(2,.bool false),(7,.ref 0 0 0)],[.obj (.stringIter p0 o0_0)],[]⟩)
def n59:R59->Exit × St
 |.r0 r0=>(.ret,⟨mk 43 [(2,.bool r0)],[],[]⟩)
def v59:R59->V
 |.r0 r0=>.bool r0
theorem s59(p0:ByteArray):Sm 0 (g59 p0) (T59 p0) (n59)
 |.e=>⟨400,by kernel_rfl⟩
 |.l0 _=>⟨400,by kernel_rfl⟩
theorem q59:∀r,bodyQ Tryz.prog Tryz.f59 (·=v59 r) (n59 r).1 (n59 r).2
 |.r0 r0=>bq (.bool r0) (by kernel_rfl)
theorem w59(p0:ByteArray){post:V->Prop}(h:WQ (T59 p0) v59 post .e):PC 59 [.str p0] post:=
 PCalls.wq Tryz.func59 (s59 p0) q59 h
theorem c59(s:ByteArray):PC 59 [.str s] (·=.bool (nameOk s)):=by
 refine w59 _ (WP.step ?_);simp only[T59,Go,Ends',v59,Tr.sure,SS];repeat' with_reducible first|intro _|apply aI
 all_goals first|exact sem_rangeStr (by kernel_rfl)|skip
 refine WP.count (fun i=>.l0 i) rfl s.size (fun i=>nameFrom true s.data.toList=nameFrom (i==0) (s.data.toList.drop i)) rfl (fun i hi hI=> ?_) fun hI=> ?_
 ·have hd:=drop_cons 0 s.data.toList i hi;rw[hd]at hI;have hb:=byte_at s i hi;have hsem:SemOK Tryz.prog (opAt Tryz.f59 2 0) _ _ _ _:=sem_nextStr (P:=Tryz.prog) (x:=.tmp 7) (i:=0) (h:=[.obj (.stringIter s i)]) rfl hi
  have hgo:(97<=(s.data.toList.getD i 0).toNat/\(s.data.toList.getD i 0).toNat<=122\/i≠0/\(48<=(s.data.toList.getD i 0).toNat/\(s.data.toList.getD i 0).toNat<=57\/(s.data.toList.getD i 0).toNat=46))->
    nameFrom true s.data.toList=nameFrom (i+1==0) (s.data.toList.drop (i+1)):=fun h=>by
   rw[hI];simp only[nameFrom,letter,other,within]
   have:(decide ((97:Int)<=((s.data.toList.getD i 0).toNat:Int))&&decide (((s.data.toList.getD i 0).toNat:Int)<=122)|| !(i==0)&&(decide ((48:Int)<=((s.data.toList.getD i 0).toNat:Int))&&decide (((s.data.toList.getD i 0).toNat:Int)<=57)||((s.data.toList.getD i 0).toNat:Int)==46))=true:=by
    simp only[Bool.or_eq_true,Bool.and_eq_true,decide_eq_true_eq,Bool.not_eq_eq_eq_not,Bool.not_true,beq_eq_false_iff_ne,beq_iff_eq];omega
   rw[this];simp
  have hx:¬(97<=(s.data.toList.getD i 0).toNat/\(s.data.toList.getD i 0).toNat<=122\/i≠0/\(48<=(s.data.toList.getD i 0).toNat/\(s.data.toList.getD i 0).toNat<=57\/(s.data.toList.getD i 0).toNat=46))->
    nameOk s=false:=fun h=>by
   have:nameFrom true s.data.toList=false:=by
    rw[hI];simp only[nameFrom,letter,other,within]
    have:(decide ((97:Int)<=((s.data.toList.getD i 0).toNat:Int))&&decide (((s.data.toList.getD i 0).toNat:Int)<=122)|| !(i==0)&&(decide ((48:Int)<=((s.data.toList.getD i 0).toNat:Int))&&decide (((s.data.toList.getD i 0).toNat:Int)<=57)||((s.data.toList.getD i 0).toNat:Int)==46))=false:=by
     rw[Bool.eq_false_iff];simp only[ne_eq,Bool.or_eq_true,Bool.and_eq_true,decide_eq_true_eq,Bool.not_eq_eq_eq_not,Bool.not_true,beq_eq_false_iff_ne,beq_iff_eq];omega
    rw[this];simp
   simp[nameOk,this]
  have hen:∀x:Bool,nameOk s=false->x=false->V.bool x=V.bool (nameOk s):=fun x h1 h2=>by rw[h1,h2]
  by_cases ha:(s.data.toList.getD i 0).toNat<128
  ·have hu:=decode_ascii s i hi (by rw[hb];exact ha);rw[hb]at hu;rw[hu]at hsem;generalize hg:s.data.toList.getD i 0=c at*
   refine WP.once ?_;simp only[T59,Tr.sure,SS,hi,hu];repeat' with_reducible first|intro _|apply aI
   all_goals first|exact hsem|exact .inl (hgo (by omega))|exact .inr (hen _ (hx (by omega)) rfl)
  ·have hu:=(decode_high s i hi (by rw[hb];omega)).1;have hx':=hx (by omega);refine WP.once ?_;simp only[T59,Tr.sure,SS,hi];repeat' with_reducible first|intro _|apply aI
   all_goals first|exact hsem|exact .inr (hen _ hx' rfl)|exact(by omega)
   all_goals(exfalso;omega)
 ·have he:nameFrom (s.size==0) (s.data.toList.drop s.size)=true:=by rw[<-data_len,List.drop_length];rfl
  have hz:s.toList=(ByteArray.mk #[]).toList↔s.size=0:=by
   rw[ByteArray.toList_eq,ByteArray.toList_eq,<-data_len];exact⟨fun h=>by rw[h];rfl,fun h=>List.eq_nil_of_length_eq_zero h⟩
  have h16:((s.size:Int)<=16)↔s.size<=16:=by omega
  refine WP.step ?_;simp only[T59,Go,Ends',v59,Tr.sure,SS,Nat.lt_irrefl,hz];repeat' with_reducible first|intro _|apply aI
  all_goals first|exact sem_nextStr0 rfl (Nat.lt_irrefl _)|(simp[hI,he,nameOk,hz,h16,Go,Ends',v59,-List.getD_eq_getElem?_getD, *];done)
end
noncomputable section
inductive P61
 |e
inductive R61
 |r0 (r0:Bool)
def T61(y:Body)(x:Body):P61->Tr P61 R61
 |.e=>(.out (.r0 (y.name.toList==x.name.toList)))
noncomputable def g61(y:Body)(x:Body):P61->List Item × St
 |.e=>bd Tryz.f61 [.agg [.str y.name,tShown.lst y.shown],.cref 2 fun q=>([.str x.name,tShown.lst x.shown]:List V).getD q uU] 7
def n61:R61->Exit × St
 |.r0 r0=>(.ret,⟨mk 9 [(3,.bool r0)],[],[]⟩)
def v61:R61->V
 |.r0 r0=>.bool r0
theorem s61(y:Body)(x:Body):Sm 0 (g61 y x) (T61 y x) (n61)
 |.e=>⟨400,by kernel_rfl⟩
theorem q61:∀r,bodyQ Tryz.prog Tryz.f61 (·=v61 r) (n61 r).1 (n61 r).2
 |.r0 r0=>bq (.bool r0) (by kernel_rfl)
theorem w61(y:Body)(x:Body){post:V->Prop}(h:WQ (T61 y x) v61 post .e):PC 61 [.agg [.str y.name,tShown.lst y.shown],.cref 2 fun q=>([.str x.name,tShown.lst x.shown]:List V).getD q uU] post:=
 PCalls.wq Tryz.func61 (s61 y x) q61 h
abbrev xB(x:Body):V:=.cref 2 fun q=>(tBody.cells x).getD q uU
theorem c61(y x:Body):PC 61 [.agg (tBody.cells y),xB x] (·=.bool (same y.name x.name)):=by
 refine w61 _ _ (WP.step ?_);simp only[T61,Go,Ends',v61,Tr.sure,SS];repeat' with_reducible first|intro _|apply aI
 all_goals simp[same,Go,Ends',v61,-List.getD_eq_getElem?_getD, *]
inductive P102
 |e
 |l0 (x0_8:Int)
inductive R102
 |r0 (r0:Int)
def T102(s:List Body)(x:Body):P102->Tr P102 R102
 |.e=>(.go (.l0 0))
 |.l0 x0_8=>let c1:=s.getD (x0_8).toNat tBody.zero;(.br (decide (x0_8<(s.length:Int))) (.need (decide (0<=x0_8)&&decide (x0_8<(s.length:Int))) (.call 61 [.agg [.str (c1.name),tShown.lst (c1.shown)],.cref 2 fun q=>([.str x.name,tShown.lst x.shown]:List V).getD q uU] (.bool (same (c1.name) x.name)) true true (.br (same (c1.name) x.name) (.out (.r0 x0_8)) (.need (inR .i64 (x0_8+(1:Int))) (.go (.l0 (x0_8+(1:Int)))))))) (.out (.r0 (-1))))
noncomputable def g102(s:List Body)(x:Body):P102->List Item × St
 |.e=>bd Tryz.f102 [tBody.lst s,fG 61 [.cref 2 fun q=>([.str x.name,tShown.lst x.shown]:List V).getD q uU]] 17
 |.l0 x0_8=>(cutOf Tryz.f102 0,⟨mk 19 [(0,tBody.lst s),(1,fG 61 [.cref 2 fun q=>([.str x.name,tShown.lst x.shown]:List V).getD q uU]),(7,iI (s.length:Int)),(8,iI x0_8)],[],[]⟩)
def n102:R102->Exit × St
 |.r0 r0=>(.ret,⟨mk 19 [(4,iI r0)],[],[]⟩)
def v102:R102->V
 |.r0 r0=>iI r0
theorem s102(s:List Body)(x:Body):Sm 0 (g102 s x) (T102 s x) (n102)
 |.e=>⟨400,by kernel_rfl⟩
 |.l0 _=>⟨400,by kernel_rfl⟩
theorem q102:∀r,bodyQ Tryz.prog Tryz.f102 (·=v102 r) (n102 r).1 (n102 r).2
 |.r0 r0=>bq (iI r0) (by kernel_rfl)
theorem w102(s:List Body)(x:Body){post:V->Prop}(h:WQ (T102 s x) v102 post .e):PC 102 [tBody.lst s,fG 61 [.cref 2 fun q=>([.str x.name,tShown.lst x.shown]:List V).getD q uU]] post:=
 PCalls.wq Tryz.func102 (s102 s x) q102 h
theorem e102:∀xs w,(callFunc 102 xs).run Tryz.prog w=.ok (.enter 102 xs) w:=PCalls.enters Tryz.func102 (c:=Tryz.f102.body.getD .skip) (by kernel_rfl) (by kernel_rfl)
theorem c102(s:List Body)(x:Body):PC 102 [tBody.lst s,fG 61 [xB x]] (·=iI (place (firstI (fun y=>same y.name x.name) 0 s))):=by
 refine PCalls.assume e102 0 (by simp) .list fun hs=> ?_;refine w102 _ _ (WP.step ?_);simp only[T102,Go,Ends',v102,Tr.sure,SS];repeat' with_reducible first|intro _|apply aI
 refine WP.findI (fun i=>.l0 i) rfl s zBody (fun y=>same y.name x.name) (fun i hi=> ?_) fun hI=> ?_
 ·have hr:=inRi hi hs;have k61:=c61 (s.getD i zBody) x;refine WP.once ?_;simp only[T102,Tr.sure,SS,hi,z2];repeat' with_reducible first|intro _|apply aI
  all_goals first|exact k61|(simp[hr,place,Go,Ends',v102,-List.getD_eq_getElem?_getD, *];done)|(simp_all [hr,place,Go,Ends',v102,-List.getD_eq_getElem?_getD];done)
 ·refine WP.step ?_;simp only[T102,Go,Ends',v102,Tr.sure,SS];repeat' with_reducible first|intro _|apply aI
  all_goals simp[hI,place,Go,Ends',v102,-List.getD_eq_getElem?_getD, *]
inductive P60
 |e
inductive R60
 |r0 (r0:Bool)
def T60(s:List Body)(x:Body):P60->Tr P60 R60
 |.e=>(.call 102 [tBody.lst s,fG 61 [.cref 2 fun q=>([.str x.name,tShown.lst x.shown]:List V).getD q uU]] (iI (place (firstI (fun y=>same y.name x.name) 0 s))) true true (.out (.r0 (decide ((place (firstI (fun y=>same y.name x.name) 0 s))≥(0:Int))))))
noncomputable def g60(s:List Body)(x:Body):P60->List Item × St
 |.e=>bd Tryz.f60 [tBody.lst s,fG 61 [.cref 2 fun q=>([.str x.name,tShown.lst x.shown]:List V).getD q uU]] 7
def n60:R60->Exit × St
 |.r0 r0=>(.ret,⟨mk 9 [(4,.bool r0)],[],[]⟩)
def v60:R60->V
 |.r0 r0=>.bool r0
theorem s60(s:List Body)(x:Body):Sm 0 (g60 s x) (T60 s x) (n60)
 |.e=>⟨400,by kernel_rfl⟩
theorem q60:∀r,bodyQ Tryz.prog Tryz.f60 (·=v60 r) (n60 r).1 (n60 r).2
 |.r0 r0=>bq (.bool r0) (by kernel_rfl)
theorem w60(s:List Body)(x:Body){post:V->Prop}(h:WQ (T60 s x) v60 post .e):PC 60 [tBody.lst s,fG 61 [.cref 2 fun q=>([.str x.name,tShown.lst x.shown]:List V).getD q uU]] post:=
 PCalls.wq Tryz.func60 (s60 s x) q60 h
theorem c60(s:List Body)(x:Body):PC 60 [tBody.lst s,fG 61 [xB x]] (·=.bool (s.any fun y=>same y.name x.name)):=by
 have h1:decide (0<=place (firstI (fun y=>same y.name x.name) 0 s))=s.any fun y=>same y.name x.name:=by rw[<-firstI_any _ s 0,Bool.eq_iff_iff,decide_eq_true_iff];exact place_ge _
 refine w60 _ _ (WP.step ?_);simp only[T60,Go,Ends',v60,Tr.sure,SS];repeat' with_reducible first|intro _|apply aI
 all_goals first|exact c102 _ _|(simp[h1,Go,Ends',v60,-List.getD_eq_getElem?_getD, *];done)
theorem VLe.take{τ:Type}(E:Ty τ)(l:List τ){i:Nat}(h:i<=l.length):VLe (.list E.w i (fun r j=>rowsOf E l (0+r) j)) (E.lst (l.take i)):=by
 show VLe _ (.list E.w (l.take i).length (rowsOf E (l.take i)));rw[List.length_take,Nat.min_eq_left h];refine VLe.list fun r j hr hj=> ?_;have:(l.take i).getD r E.zero=l.getD r E.zero:=by rw[gE,gE,List.getElem?_take,if_pos hr]
 simp only[rowsOf,Nat.zero_add,this]
theorem c60t(l:List Body)(x:Body){i:Nat}(h:i<=l.length):PC 60 [.list 2 i (fun r j=>rowsOf tBody l (0+r) j),fG 61 [xB x]] (·=.bool ((l.take i).any fun y=>same y.name x.name)):=
 PCalls.arg (pre:=[]) (c60 (l.take i) x) (VLe.take tBody l h)
inductive P63
 |e
inductive R63
 |r0 (r0:Int)
def T63(q:Int)(s:Shown)(x:Body):P63->Tr P63 R63
 |.e=>let c1:Tr P63 R63:=.call 59 [.str s.as_] (.bool (nameOk s.as_)) true true (.br (!(nameOk s.as_)) (.out (.r0 6)) (.out (.r0 0)));let c2:=decide (q>(0:Int));let c3:=q-(1:Int);(.call 64 [iI 0,iI 364,.list 1 1 (litC 1 1 [iI s.day])] (.bool (!within s.day 0 364)) ((decide (1<=1))&&true) true (.br (!within s.day 0 364) (.out (.r0 7)) (.br c2 (.front [] [(2,true)] (((c2==true)&&((inR .i64 c3)&&((decide (0<=c3)&&decide (c3<(x.shown.length:Int)))&&true)))&&true) true (.br (decide (s.day<=(x.shown.getD (c3).toNat tShown.zero).day)) (.out (.r0 2)) c1)) (.front [] [(2,false)] (((c2==false)&&true)&&true) true (.lit false c1)))))
noncomputable def g63(q:Int)(s:Shown)(x:Body):P63->List Item × St
 |.e=>bd Tryz.f63 [iI q,.agg [iI s.day,.str s.as_],.cref 2 fun q=>([.str x.name,tShown.lst x.shown]:List V).getD q uU] 28
def n63:R63->Exit × St
 |.r0 r0=>(.ret,⟨mk 31 [(5,iI r0)],[],[]⟩)
def v63:R63->V
 |.r0 r0=>iI r0
theorem s63(q:Int)(s:Shown)(x:Body):Sm 0 (g63 q s x) (T63 q s x) (n63)
 |.e=>⟨400,by kernel_rfl⟩
theorem q63:∀r,bodyQ Tryz.prog Tryz.f63 (·=v63 r) (n63 r).1 (n63 r).2
 |.r0 r0=>bq (iI r0) (by kernel_rfl)
theorem w63(q:Int)(s:Shown)(x:Body){post:V->Prop}(h:WQ (T63 q s x) v63 post .e):PC 63 [iI q,.agg [iI s.day,.str s.as_],.cref 2 fun q=>([.str x.name,tShown.lst x.shown]:List V).getD q uU] post:=
 PCalls.wq Tryz.func63 (s63 q s x) q63 h
theorem c63(x:Body)(k:Nat)(s:Shown)(hk:k<x.shown.length)(hl:x.shown.length<=3):PC 63 [iI (k:Int),.agg (tShown.cells s),xB x] (·=iI (shownAt x.shown k s)):=by
 have k64:=c64l 0 364 s.day (c:=litC 1 1 [iI s.day]) rfl;by_cases h0:(0:Int)<k
 ·have h0':0<k:=by omega
  have hr2:inR .i64 ((k:Int)-1)=true:=inR64 (by omega) (by omega);have h02:(0:Int)<=(k:Int)-1:=by omega
  have h03:(k:Int)-1<x.shown.length:=by omega
  have hn:((k:Int)-1).toNat=k-1:=by omega
  have e:shownAt x.shown k s=if !within s.day 0 364 then 7 else if s.day<=(x.shown.getD (k-1) zShown).day then 2 else if !nameOk s.as_ then 6 else 0:=by
   unfold shownAt;simp only[h0',true_and]
  refine w63 _ _ _ (WP.step ?_);simp only[T63,Go,Ends',v63,Tr.sure,SS,z3,h0,hn];repeat' with_reducible first|intro _|apply aI
  all_goals first|exact k64|exact c59 _|(simp[hr2,h02,h03,e,Go,Ends',v63,-List.getD_eq_getElem?_getD, *];done)|(simp_all [hr2,h02,h03,e,Go,Ends',v63,-List.getD_eq_getElem?_getD];done)
 ·have h0':¬0<k:=by omega
  have e:shownAt x.shown k s=if !within s.day 0 364 then 7 else if !nameOk s.as_ then 6 else 0:=by
   unfold shownAt;simp only[h0',false_and,if_false]
  refine w63 _ _ _ (WP.step ?_);simp only[T63,Go,Ends',v63,Tr.sure,SS,z3,h0];repeat' with_reducible first|intro _|apply aI
  all_goals first|exact k64|exact c59 _|(simp[e,Go,Ends',v63,-List.getD_eq_getElem?_getD, *];done)
theorem firstR_some{τ:Type}{of:Nat->τ->Int}{l:List τ}{i:Nat}{e:Int}(h:firstE of 0 l=some (i,e)):firstR of l=((i:Int),e):=by unfold firstR;rw[h]
theorem firstR_none{τ:Type}{of:Nat->τ->Int}{l:List τ}(h:firstE of 0 l=none):firstR of l=(0,0):=by unfold firstR;rw[h]
inductive P62
 |e
 |l0 (x0_11:Int)
inductive R62
 |r0 (r0:Int) (r1:Int)
def T62(x:Body):P62->Tr P62 R62
 |.e=>(.go (.l0 0))
 |.l0 x0_11=>let c1:=x.shown.getD (x0_11).toNat tShown.zero;let c2:=shownAt x.shown (x0_11).toNat c1;let c3:=x0_11<(x.shown.length:Int);(.br (decide c3) (.need (decide (0<=x0_11)&&decide c3) (.call 63 [iI x0_11,.agg [iI (c1.day),.str (c1.as_)],.cref 2 fun q=>([.str x.name,tShown.lst x.shown]:List V).getD q uU] (iI c2) true true (.br (c2 !=(0:Int)) (.out (.r0 x0_11 c2)) (.need (inR .i64 (x0_11+(1:Int))) (.go (.l0 (x0_11+(1:Int)))))))) (.out (.r0 0 0)))
noncomputable def g62(x:Body):P62->List Item × St
 |.e=>bd Tryz.f62 [tShown.lst x.shown,fG 63 [.cref 2 fun q=>([.str x.name,tShown.lst x.shown]:List V).getD q uU]] 23
 |.l0 x0_11=>(cutOf Tryz.f62 0,⟨mk 25 [(1,fG 63 [.cref 2 fun q=>([.str x.name,tShown.lst x.shown]:List V).getD q uU]),(9,tShown.lst x.shown),(10,iI (x.shown.length:Int)),(11,iI x0_11)],[],[]⟩)
def n62:R62->Exit × St
 |.r0 r0 r1=>(.ret,⟨mk 25 [(4,iI r0),(5,iI r1)],[],[]⟩)
def v62:R62->V
 |.r0 r0 r1=>.tuple [iI r0,iI r1]
theorem s62(x:Body):Sm 0 (g62 x) (T62 x) (n62)
 |.e=>⟨400,by kernel_rfl⟩
 |.l0 _=>⟨400,by kernel_rfl⟩
theorem q62:∀r,bodyQ Tryz.prog Tryz.f62 (·=v62 r) (n62 r).1 (n62 r).2
 |.r0 r0 r1=>bq (.tuple [iI r0,iI r1]) (by kernel_rfl)
theorem w62(x:Body){post:V->Prop}(h:WQ (T62 x) v62 post .e):PC 62 [tShown.lst x.shown,fG 63 [.cref 2 fun q=>([.str x.name,tShown.lst x.shown]:List V).getD q uU]] post:=
 PCalls.wq Tryz.func62 (s62 x) q62 h
theorem c62(x:Body)(hl:x.shown.length<=3):PC 62 [tShown.lst x.shown,fG 63 [xB x]] (·=.tuple [iI (firstR (shownAt x.shown) x.shown).1,iI (firstR (shownAt x.shown) x.shown).2]):=by
 refine w62 _ (WP.step ?_);simp only[T62,Go,Ends',v62,Tr.sure,SS];repeat' with_reducible first|intro _|apply aI
 refine WP.findE (fun i=>.l0 i) rfl x.shown zShown (shownAt x.shown) (fun i hi=> ?_) fun hI=> ?_
 ·have hr:inR .i64 ((i:Int)+1)=true:=inR64 (by omega) (by omega);have hi':(i:Int)<x.shown.length:=by omega
  have k63:=c63 x i (x.shown.getD i zShown) hi hl;have hR:=fun(e:Int) (he:firstE (shownAt x.shown) 0 x.shown=some (i,e))=>firstR_some he;generalize hZ:shownAt x.shown i (x.shown.getD i zShown)=Z at*
  refine WP.once ?_;simp only[T62,Tr.sure,SS,hi',z3,hZ];repeat' with_reducible first|intro _|apply aI
  all_goals first|exact k63|(simp[hr,firstR,Go,Ends',v62,-List.getD_eq_getElem?_getD, *];done)|(simp_all [hr,firstR,Go,Ends',v62,-List.getD_eq_getElem?_getD];done)
 ·have hR:=firstR_none hI;refine WP.step ?_;simp only[T62,Go,Ends',v62,Tr.sure,SS,Int.lt_irrefl];repeat' with_reducible first|intro _|apply aI
  all_goals simp[hR,Go,Ends',v62,-List.getD_eq_getElem?_getD, *]
inductive P58
 |e
inductive R58
 |r0 (r0:Int)
def T58(i:Int)(x:Body)(b:Book):P58->Tr P58 R58
 |.e=>let c1:=firstR (shownAt x.shown) x.shown;let c2:=([.str x.name,tShown.lst x.shown]:List V);(.call 59 [.str x.name] (.bool (nameOk x.name)) true true (.br (!(nameOk x.name)) (.out (.r0 6)) (.need ((decide (0<=(0:Int))&&decide ((0:Int)<=i))&&decide (i<=(b.bodies.length:Int))) (.call 60 [.list 2 ((i).toNat-((0:Int)).toNat) (fun i j=>rowsOf tBody b.bodies (((0:Int)).toNat+i) j),fG 61 [.cref 2 fun q=>c2.getD q uU]] (.bool ((b.bodies.take ((i).toNat)).any fun y=>same y.name x.name)) true true (.br ((b.bodies.take ((i).toNat)).any fun y=>same y.name x.name) (.out (.r0 5)) (.br (decide ((x.shown.length:Int)>(3:Int))) (.out (.r0 3)) (.call 62 [tShown.lst x.shown,fG 63 [.cref 2 fun q=>c2.getD q uU]] (.tuple [iI (c1.1),iI (c1.2)]) true true (.out (.r0 (c1.2))))))))))
noncomputable def g58(i:Int)(x:Body)(b:Book):P58->List Item × St
 |.e=>bd Tryz.f58 [iI i,.agg [.str x.name,tShown.lst x.shown],.cref 3 fun q=>((cC b):List V).getD q uU] 30
def n58:R58->Exit × St
 |.r0 r0=>(.ret,⟨mk 33 [(5,iI r0)],[],[]⟩)
def v58:R58->V
 |.r0 r0=>iI r0
theorem s58(i:Int)(x:Body)(b:Book):Sm 0 (g58 i x b) (T58 i x b) (n58)
 |.e=>⟨400,by kernel_rfl⟩
theorem q58:∀r,bodyQ Tryz.prog Tryz.f58 (·=v58 r) (n58 r).1 (n58 r).2
 |.r0 r0=>bq (iI r0) (by kernel_rfl)
theorem w58(i:Int)(x:Body)(b:Book){post:V->Prop}(h:WQ (T58 i x b) v58 post .e):PC 58 [iI i,.agg [.str x.name,tShown.lst x.shown],.cref 3 fun q=>((cC b):List V).getD q uU] post:=
 PCalls.wq Tryz.func58 (s58 i x b) q58 h
abbrev cB(b:Book):V:=.cref 3 fun q=>(tBook.cells b).getD q uU
theorem c58(b:Book)(i:Nat)(x:Body)(hi:i<b.bodies.length)(hl:b.bodies.length<=5):PC 58 [iI (i:Int),.agg (tBody.cells x),cB b] (·=iI (bodyAt b.bodies i x)):=by
 have hi':(i:Int)<b.bodies.length:=by omega
 have hile:(i:Int)<=b.bodies.length:=by omega
 have k60:=c60t b.bodies x (i:=i) (by omega)
 have e:bodyAt b.bodies i x=if !nameOk x.name then 6 else if((b.bodies.take i).any fun y=>same y.name x.name)=true then 5 else shownErr x.shown:=by
  unfold bodyAt newErr;rw[<-List.map_take,List.any_map];have:((fun o=>same o x.name)∘fun(y:Body)=>y.name)=fun y=>same y.name x.name:=rfl;rw[this]
  cases nameOk x.name with
  |false=>rfl
  |true=>
   cases(b.bodies.take i).any fun y=>same y.name x.name with
   |false=>rfl
   |true=>rfl
 have k59:=c59 x.name;rw[e];generalize hA:(b.bodies.take i).any (fun y=>same y.name x.name)=A at*
 cases hn:nameOk x.name with
 |false=>
  rw[hn]at k59;refine w58 _ _ _ (WP.step ?_);simp only[T58,Go,Ends',v58,Tr.sure,SS,hn];repeat' with_reducible first|intro _|apply aI
  all_goals first|exact k59|(simp[hn,Go,Ends',v58,-List.getD_eq_getElem?_getD, *];done)
 |true=>
  rw[hn]at k59
  cases A with
  |true=>
   refine w58 _ _ _ (WP.step ?_);simp only[T58,Go,Ends',v58,Tr.sure,SS,hn,hA,hile];repeat' with_reducible first|intro _|apply aI
   all_goals first|exact k59|exact k60|(simp[hn,Go,Ends',v58,-List.getD_eq_getElem?_getD, *];done)
  |false=>
   by_cases h3:(3:Int)<x.shown.length
   ·have es:shownErr x.shown=3:=if_pos h3;refine w58 _ _ _ (WP.step ?_);simp only[T58,Go,Ends',v58,Tr.sure,SS,hn,hA,hile,h3];repeat' with_reducible first|intro _|apply aI
    all_goals first|exact k59|exact k60|(simp[hn,es,Go,Ends',v58,-List.getD_eq_getElem?_getD, *];done)
   ·have es:shownErr x.shown=(firstR (shownAt x.shown) x.shown).2:=if_neg h3;have k62:=c62 x (by omega);refine w58 _ _ _ (WP.step ?_);simp only[T58,Go,Ends',v58,Tr.sure,SS,hn,hA,hile,h3];repeat' with_reducible first|intro _|apply aI
    all_goals first|exact k59|exact k60|exact k62|(simp[hn,es,Go,Ends',v58,-List.getD_eq_getElem?_getD, *];done)
inductive P57
 |e
 |l0 (x0_11:Int)
inductive R57
 |r0 (r0:Int) (r1:Int)
def T57(b:Book):P57->Tr P57 R57
 |.e=>(.go (.l0 0))
 |.l0 x0_11=>let c1:=b.bodies.getD (x0_11).toNat tBody.zero;let c2:=bodyAt b.bodies (x0_11).toNat c1;let c3:=x0_11<(b.bodies.length:Int);(.br (decide c3) (.need (decide (0<=x0_11)&&decide c3) (.call 58 [iI x0_11,.agg [.str (c1.name),tShown.lst (c1.shown)],.cref 3 fun q=>((cC b):List V).getD q uU] (iI c2) true true (.br (c2 !=(0:Int)) (.out (.r0 x0_11 c2)) (.need (inR .i64 (x0_11+(1:Int))) (.go (.l0 (x0_11+(1:Int)))))))) (.out (.r0 0 0)))
noncomputable def g57(b:Book):P57->List Item × St
 |.e=>bd Tryz.f57 [tBody.lst b.bodies,fG 58 [.cref 3 fun q=>((cC b):List V).getD q uU]] 23
 |.l0 x0_11=>(cutOf Tryz.f57 0,⟨mk 25 [(1,fG 58 [.cref 3 fun q=>((cC b):List V).getD q uU]),(9,tBody.lst b.bodies),(10,iI (b.bodies.length:Int)),(11,iI x0_11)],[],[]⟩)
def n57:R57->Exit × St
 |.r0 r0 r1=>(.ret,⟨mk 25 [(4,iI r0),(5,iI r1)],[],[]⟩)
def v57:R57->V
 |.r0 r0 r1=>.tuple [iI r0,iI r1]
theorem s57(b:Book):Sm 0 (g57 b) (T57 b) (n57)
 |.e=>⟨400,by kernel_rfl⟩
 |.l0 _=>⟨400,by kernel_rfl⟩
theorem q57:∀r,bodyQ Tryz.prog Tryz.f57 (·=v57 r) (n57 r).1 (n57 r).2
 |.r0 r0 r1=>bq (.tuple [iI r0,iI r1]) (by kernel_rfl)
theorem w57(b:Book){post:V->Prop}(h:WQ (T57 b) v57 post .e):PC 57 [tBody.lst b.bodies,fG 58 [.cref 3 fun q=>((cC b):List V).getD q uU]] post:=
 PCalls.wq Tryz.func57 (s57 b) q57 h
theorem c57(b:Book)(hl:b.bodies.length<=5):PC 57 [tBody.lst b.bodies,fG 58 [cB b]] (·=.tuple [iI (firstR (bodyAt b.bodies) b.bodies).1,iI (firstR (bodyAt b.bodies) b.bodies).2]):=by
 refine w57 _ (WP.step ?_);simp only[T57,Go,Ends',v57,Tr.sure,SS];repeat' with_reducible first|intro _|apply aI
 refine WP.findE (fun i=>.l0 i) rfl b.bodies zBody (bodyAt b.bodies) (fun i hi=> ?_) fun hI=> ?_
 ·have hr:inR .i64 ((i:Int)+1)=true:=inR64 (by omega) (by omega);have hi':(i:Int)<b.bodies.length:=by omega
  have k58:=c58 b i (b.bodies.getD i zBody) hi hl;generalize hZ:bodyAt b.bodies i (b.bodies.getD i zBody)=Z at*
  refine WP.once ?_;simp only[T57,Tr.sure,SS,hi',z2,hZ];repeat' with_reducible first|intro _|apply aI
  all_goals first|exact k58|(simp[hr,firstR,Go,Ends',v57,-List.getD_eq_getElem?_getD, *];done)|(simp_all [hr,firstR,Go,Ends',v57,-List.getD_eq_getElem?_getD];done)
 ·have hR:=firstR_none hI;refine WP.step ?_;simp only[T57,Go,Ends',v57,Tr.sure,SS,Int.lt_irrefl];repeat' with_reducible first|intro _|apply aI
  all_goals simp[hR,Go,Ends',v57,-List.getD_eq_getElem?_getD, *]
inductive P105
 |e
 |l0 (x0_8:Int)
inductive R105
 |r0 (r0:Int)
def T105(s:List ByteArray)(v:ByteArray):P105->Tr P105 R105
 |.e=>(.go (.l0 0))
 |.l0 x0_8=>(.br (decide (x0_8<(s.length:Int))) (.need (decide (0<=x0_8)&&decide (x0_8<(s.length:Int))) (.br (v.toList==(s.getD (x0_8).toNat tstr.zero).toList) (.out (.r0 x0_8)) (.need (inR .i64 (x0_8+(1:Int))) (.go (.l0 (x0_8+(1:Int))))))) (.out (.r0 (-1))))
noncomputable def g105(s:List ByteArray)(v:ByteArray):P105->List Item × St
 |.e=>bd Tryz.f105 [tstr.lst s,.str v] 17
 |.l0 x0_8=>(cutOf Tryz.f105 0,⟨mk 19 [(0,tstr.lst s),(1,.str v),(7,iI (s.length:Int)),(8,iI x0_8)],[],[]⟩)
def n105:R105->Exit × St
 |.r0 r0=>(.ret,⟨mk 19 [(4,iI r0)],[],[]⟩)
def v105:R105->V
 |.r0 r0=>iI r0
theorem s105(s:List ByteArray)(v:ByteArray):Sm 0 (g105 s v) (T105 s v) (n105)
 |.e=>⟨400,by kernel_rfl⟩
 |.l0 _=>⟨400,by kernel_rfl⟩
theorem q105:∀r,bodyQ Tryz.prog Tryz.f105 (·=v105 r) (n105 r).1 (n105 r).2
 |.r0 r0=>bq (iI r0) (by kernel_rfl)
theorem w105(s:List ByteArray)(v:ByteArray){post:V->Prop}(h:WQ (T105 s v) v105 post .e):PC 105 [tstr.lst s,.str v] post:=
 PCalls.wq Tryz.func105 (s105 s v) q105 h
theorem e105:∀xs w,(callFunc 105 xs).run Tryz.prog w=.ok (.enter 105 xs) w:=PCalls.enters Tryz.func105 (c:=Tryz.f105.body.getD .skip) (by kernel_rfl) (by kernel_rfl)
theorem c105(s:List ByteArray)(v:ByteArray):PC 105 [tstr.lst s,.str v] (·=iI (place (firstI (fun o=>same v o) 0 s))):=by
 refine PCalls.assume e105 0 (by simp) .list fun hs=> ?_;refine w105 _ _ (WP.step ?_);simp only[T105,Go,Ends',v105,Tr.sure,SS];repeat' with_reducible first|intro _|apply aI
 refine WP.findI (fun i=>.l0 i) rfl s ByteArray.empty (fun o=>same v o) (fun i hi=> ?_) fun hI=> ?_
 ·have hr:=inRi hi hs;have es:same v (s.getD i ByteArray.empty)=(v.toList==(s.getD i ByteArray.empty).toList):=rfl;refine WP.once ?_;simp only[T105,Tr.sure,SS,hi,z12];repeat' with_reducible first|intro _|apply aI
  all_goals first|(simp[hr,place,es,Go,Ends',v105,-List.getD_eq_getElem?_getD, *];done)|(simp_all [hr,place,es,Go,Ends',v105,-List.getD_eq_getElem?_getD];done)
 ·refine WP.step ?_;simp only[T105,Go,Ends',v105,Tr.sure,SS];repeat' with_reducible first|intro _|apply aI
  all_goals simp[hI,place,Go,Ends',v105,-List.getD_eq_getElem?_getD, *]
inductive P67
 |e
inductive R67
 |r0 (r0:Bool)
def T67(s:List ByteArray)(v:ByteArray):P67->Tr P67 R67
 |.e=>(.call 105 [tstr.lst s,.str v] (iI (place (firstI (fun o=>same v o) 0 s))) true true (.out (.r0 (decide ((place (firstI (fun o=>same v o) 0 s))≥(0:Int))))))
noncomputable def g67(s:List ByteArray)(v:ByteArray):P67->List Item × St
 |.e=>bd Tryz.f67 [tstr.lst s,.str v] 7
def n67:R67->Exit × St
 |.r0 r0=>(.ret,⟨mk 9 [(4,.bool r0)],[],[]⟩)
def v67:R67->V
 |.r0 r0=>.bool r0
theorem s67(s:List ByteArray)(v:ByteArray):Sm 0 (g67 s v) (T67 s v) (n67)
 |.e=>⟨400,by kernel_rfl⟩
theorem q67:∀r,bodyQ Tryz.prog Tryz.f67 (·=v67 r) (n67 r).1 (n67 r).2
 |.r0 r0=>bq (.bool r0) (by kernel_rfl)
theorem w67(s:List ByteArray)(v:ByteArray){post:V->Prop}(h:WQ (T67 s v) v67 post .e):PC 67 [tstr.lst s,.str v] post:=
 PCalls.wq Tryz.func67 (s67 s v) q67 h
theorem same_symm(a b:ByteArray):same a b=same b a:=by unfold same;rw[Bool.eq_iff_iff,beq_iff_eq,beq_iff_eq];exact eq_comm
theorem c67(s:List ByteArray)(v:ByteArray):PC 67 [tstr.lst s,.str v] (·=.bool (s.any fun o=>same o v)):=by
 have h1:decide (0<=place (firstI (fun o=>same v o) 0 s))=s.any fun o=>same o v:=by
  have:(fun o=>same o v)=fun o=>same v o:=funext fun o=>same_symm o v;rw[this,<-firstI_any _ s 0,Bool.eq_iff_iff,decide_eq_true_iff];exact place_ge _
 refine w67 _ _ (WP.step ?_);simp only[T67,Go,Ends',v67,Tr.sure,SS];repeat' with_reducible first|intro _|apply aI
 all_goals first|exact c105 _ _|(simp[h1,Go,Ends',v67,-List.getD_eq_getElem?_getD, *];done)
theorem c67t(l:List ByteArray)(v:ByteArray){i:Nat}(h:i<=l.length):PC 67 [.list 1 i (fun r j=>rowsOf tstr l (0+r) j),.str v] (·=.bool ((l.take i).any fun o=>same o v)):=
 PCalls.arg (pre:=[]) (c67 (l.take i) v) (VLe.take tstr l h)
inductive P66
 |e
inductive R66
 |r0 (r0:Int)
def T66(i:Int)(s:ByteArray)(b:Book):P66->Tr P66 R66
 |.e=>(.call 59 [.str s] (.bool (nameOk s)) true true (.br (!(nameOk s)) (.out (.r0 6)) (.need ((decide (0<=(0:Int))&&decide ((0:Int)<=i))&&decide (i<=(b.heads.length:Int))) (.call 67 [.list 1 ((i).toNat-((0:Int)).toNat) (fun i j=>rowsOf tstr b.heads (((0:Int)).toNat+i) j),.str s] (.bool ((b.heads.take ((i).toNat)).any fun o=>same o s)) true true (.br ((b.heads.take ((i).toNat)).any fun o=>same o s) (.out (.r0 5)) (.out (.r0 0)))))))
noncomputable def g66(i:Int)(s:ByteArray)(b:Book):P66->List Item × St
 |.e=>bd Tryz.f66 [iI i,.str s,.cref 3 fun q=>((cC b):List V).getD q uU] 14
def n66:R66->Exit × St
 |.r0 r0=>(.ret,⟨mk 17 [(5,iI r0)],[],[]⟩)
def v66:R66->V
 |.r0 r0=>iI r0
theorem s66(i:Int)(s:ByteArray)(b:Book):Sm 0 (g66 i s b) (T66 i s b) (n66)
 |.e=>⟨400,by kernel_rfl⟩
theorem q66:∀r,bodyQ Tryz.prog Tryz.f66 (·=v66 r) (n66 r).1 (n66 r).2
 |.r0 r0=>bq (iI r0) (by kernel_rfl)
theorem w66(i:Int)(s:ByteArray)(b:Book){post:V->Prop}(h:WQ (T66 i s b) v66 post .e):PC 66 [iI i,.str s,.cref 3 fun q=>((cC b):List V).getD q uU] post:=
 PCalls.wq Tryz.func66 (s66 i s b) q66 h
theorem c66(b:Book)(i:Nat)(s:ByteArray)(hi:i<b.heads.length):PC 66 [iI (i:Int),.str s,cB b] (·=iI (headAt b.heads i s)):=by
 have hile:(i:Int)<=b.heads.length:=by omega
 have k67:=c67t b.heads s (i:=i) (by omega);have e:headAt b.heads i s=if !nameOk s then 6 else if((b.heads.take i).any fun o=>same o s)=true then 5 else 0:=rfl
 have k59:=c59 s;rw[e];generalize hA:(b.heads.take i).any (fun o=>same o s)=A at*
 refine w66 _ _ _ (WP.step ?_);simp only[T66,Go,Ends',v66,Tr.sure,SS,hA,hile];repeat' with_reducible first|intro _|apply aI
 all_goals first|exact k59|exact k67|(simp[Go,Ends',v66,-List.getD_eq_getElem?_getD, *];done)
inductive P65
 |e
 |l0 (x0_11:Int)
inductive R65
 |r0 (r0:Int) (r1:Int)
def T65(b:Book):P65->Tr P65 R65
 |.e=>(.go (.l0 0))
 |.l0 x0_11=>let c1:=headAt b.heads (x0_11).toNat (b.heads.getD (x0_11).toNat tstr.zero);let c2:=x0_11<(b.heads.length:Int);(.br (decide c2) (.need (decide (0<=x0_11)&&decide c2) (.call 66 [iI x0_11,.str (b.heads.getD (x0_11).toNat tstr.zero),.cref 3 fun q=>((cC b):List V).getD q uU] (iI c1) true true (.br (c1 !=(0:Int)) (.out (.r0 x0_11 c1)) (.need (inR .i64 (x0_11+(1:Int))) (.go (.l0 (x0_11+(1:Int)))))))) (.out (.r0 0 0)))
noncomputable def g65(b:Book):P65->List Item × St
 |.e=>bd Tryz.f65 [tstr.lst b.heads,fG 66 [.cref 3 fun q=>((cC b):List V).getD q uU]] 23
 |.l0 x0_11=>(cutOf Tryz.f65 0,⟨mk 25 [(1,fG 66 [.cref 3 fun q=>((cC b):List V).getD q uU]),(9,tstr.lst b.heads),(10,iI (b.heads.length:Int)),(11,iI x0_11)],[],[]⟩)
def n65:R65->Exit × St
 |.r0 r0 r1=>(.ret,⟨mk 25 [(4,iI r0),(5,iI r1)],[],[]⟩)
def v65:R65->V
 |.r0 r0 r1=>.tuple [iI r0,iI r1]
theorem s65(b:Book):Sm 0 (g65 b) (T65 b) (n65)
 |.e=>⟨400,by kernel_rfl⟩
 |.l0 _=>⟨400,by kernel_rfl⟩
theorem q65:∀r,bodyQ Tryz.prog Tryz.f65 (·=v65 r) (n65 r).1 (n65 r).2
 |.r0 r0 r1=>bq (.tuple [iI r0,iI r1]) (by kernel_rfl)
theorem w65(b:Book){post:V->Prop}(h:WQ (T65 b) v65 post .e):PC 65 [tstr.lst b.heads,fG 66 [.cref 3 fun q=>((cC b):List V).getD q uU]] post:=
 PCalls.wq Tryz.func65 (s65 b) q65 h
theorem c65(b:Book)(hl:b.heads.length<=5):PC 65 [tstr.lst b.heads,fG 66 [cB b]] (·=.tuple [iI (firstR (headAt b.heads) b.heads).1,iI (firstR (headAt b.heads) b.heads).2]):=by
 refine w65 _ (WP.step ?_);simp only[T65,Go,Ends',v65,Tr.sure,SS];repeat' with_reducible first|intro _|apply aI
 refine WP.findE (fun i=>.l0 i) rfl b.heads ByteArray.empty (headAt b.heads) (fun i hi=> ?_) fun hI=> ?_
 ·have hr:inR .i64 ((i:Int)+1)=true:=inR64 (by omega) (by omega);have hi':(i:Int)<b.heads.length:=by omega
  have k66:=c66 b i (b.heads.getD i ByteArray.empty) hi;generalize hZ:headAt b.heads i (b.heads.getD i ByteArray.empty)=Z at*
  refine WP.once ?_;simp only[T65,Tr.sure,SS,hi',z12,hZ];repeat' with_reducible first|intro _|apply aI
  all_goals first|exact k66|(simp[hr,firstR,Go,Ends',v65,-List.getD_eq_getElem?_getD, *];done)|(simp_all [hr,firstR,Go,Ends',v65,-List.getD_eq_getElem?_getD];done)
 ·have hR:=firstR_none hI;refine WP.step ?_;simp only[T65,Go,Ends',v65,Tr.sure,SS,Int.lt_irrefl];repeat' with_reducible first|intro _|apply aI
  all_goals simp[hR,Go,Ends',v65,-List.getD_eq_getElem?_getD, *]
end
end Go.Proofs.YtemgodefhcbleaaGreat
