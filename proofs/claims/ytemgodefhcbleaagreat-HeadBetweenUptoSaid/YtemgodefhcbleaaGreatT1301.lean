/-
  Part of the proof of HeadBetween. Conditions: those that stand in each theorem.
-/
import Derived.Laws.Strings
import Derived.Test.YtemgodefhcbleaaGreatB16
set_option linter.unusedSimpArgs false
set_option linter.unusedVariables false
set_option maxRecDepth 100000
namespace Ab
theorem any_of_firstI{τ:Type}{p:τ→Bool}{l:List τ}{i:Nat}:firstI p 0 l=some i→l.any p=true:=fun h=>by
 rw[←firstI_any p l 0,h];rfl
theorem any_of_none{τ:Type}{p:τ→Bool}{l:List τ}:firstI p 0 l=none→l.any p=false:=fun h=>by
 rw[←firstI_any p l 0,h];rfl
end Ab
namespace Go.Proofs.YtemgodefhcbleaaGreat
open Ab Go
theorem blt_asymm{a b:ByteArray}(h:blt a b=true):blt b a=false:=by
 cases q:blt b a with
 |false=>rfl
 |true=>have:=blt_trans h q;rw[blt_irr]at this;cases this
theorem Up.getD_lt{a:List ByteArray}(h:Up a){i k:Nat}(hik:i<k)(hk:k<a.length)(d:ByteArray):blt (a.getD i d) (a.getD k d)=true:=by
 rw[List.getD_eq_getElem?_getD,List.getD_eq_getElem?_getD,List.getElem?_eq_getElem (by omega),List.getElem?_eq_getElem hk]
 exact List.pairwise_iff_getElem.1 h i k (by omega) hk hik
def beyondU(out:List ByteArray)(s:ByteArray):Bool:=decide (out.length=0)||blt (out.getD (out.length-1) ByteArray.empty) s
def bestU(out:List ByteArray)(best s:ByteArray):ByteArray:=if beyondU out s=true∧(best=ByteArray.empty∨blt s best=true)then s else best
theorem bestU_fold(out:List ByteArray):∀(l:List ByteArray) (best:ByteArray),(∀s∈l,s≠ByteArray.empty)→(best≠ByteArray.empty→beyondU out best=true)→
  ((l.foldl (bestU out) best=ByteArray.empty∧best=ByteArray.empty∧∀s∈l,beyondU out s=false)∨
   (l.foldl (bestU out) best≠ByteArray.empty∧beyondU out (l.foldl (bestU out) best)=true∧(l.foldl (bestU out) best=best∨l.foldl (bestU out) best∈l)∧(best=ByteArray.empty∨blt best (l.foldl (bestU out) best)=false)∧∀s∈l,beyondU out s=true→blt s (l.foldl (bestU out) best)=false))
 |[],best,_,hb=>by
  by_cases e:best=ByteArray.empty
  ·exact .inl ⟨e,e,by simp⟩
  ·exact .inr ⟨e,hb e,.inl rfl,.inr (blt_irr _),by simp⟩
 |s::l,best,hl,hb=>by
  have hs:=hl s (by simp)
  have hl':∀t∈l,t≠ByteArray.empty:=fun t ht=>hl t (by simp[ht])
  simp only[List.foldl_cons]
  by_cases c:beyondU out s=true∧(best=ByteArray.empty∨blt s best=true)
  ·have e:bestU out best s=s:=if_pos c
   rw[e]
   rcases bestU_fold out l s hl' (fun _=>c.1)with⟨_,h2,_⟩|⟨h1,h2,h3,h4,h5⟩
   ·exact absurd h2 hs
   ·have h4':blt s (l.foldl (bestU out) s)=false:=by
     rcases h4 with q|q
     ·exact absurd q hs
     ·exact q
    refine .inr ⟨h1,h2,.inr ?_,?_,fun t ht hbt=> ?_⟩
    ·rcases h3 with q|q
     ·rw[q];simp
     ·simp[q]
    ·rcases c.2 with q|q
     ·exact .inl q
     ·refine .inr ?_
      cases z:blt best (l.foldl (bestU out) s)with
      |false=>rfl
      |true=>rw[blt_trans q z]at h4';cases h4'
    ·rcases List.mem_cons.1 ht with q|q
     ·subst q;exact h4'
     ·exact h5 t q hbt
  ·have e:bestU out best s=best:=if_neg c
   rw[e]
   rcases bestU_fold out l best hl' hb with⟨h1,h2,h3⟩|⟨h1,h2,h3,h4,h5⟩
   ·refine .inl ⟨h1,h2,fun t ht=> ?_⟩
    rcases List.mem_cons.1 ht with q|q
    ·subst q
     cases z:beyondU out t with
     |false=>rfl
     |true=>exact absurd ⟨z,.inl h2⟩ c
    ·exact h3 t q
   ·refine .inr ⟨h1,h2,?_,h4,fun t ht hbt=> ?_⟩
    ·rcases h3 with q|q
     ·exact .inl q
     ·exact .inr (by simp[q])
    ·rcases List.mem_cons.1 ht with q|q
     ·subst q
      have nb:best≠ByteArray.empty:=fun z=>c ⟨hbt,.inl z⟩
      have ns:blt t best=false:=by
       cases z:blt t best with
       |false=>rfl
       |true=>exact absurd ⟨hbt,.inr z⟩ c
      have h4':blt best (l.foldl (bestU out) best)=false:=by
       rcases h4 with z|z
       ·exact absurd z nb
       ·exact z
      cases z:blt t (l.foldl (bestU out) best)with
      |false=>rfl
      |true=>
       rcases blt_tri t best with w|w|w
       ·rw[w]at ns;cases ns
       ·subst w;rw[z]at h4';cases h4'
       ·rw[blt_trans w z]at h4';cases h4'
     ·exact h5 t q hbt
theorem best_next{l:List ByteArray}(hl:∀s∈l,s≠ByteArray.empty){k:Nat}(hk:k≤(sortU l).length):l.foldl (bestU ((sortU l).take k)) ByteArray.empty=(sortU l).getD k ByteArray.empty:=by
 have hup:=sortU_up l
 generalize hP:sortU l=P at*
 have hmem:∀t,t∈P↔t∈l:=fun t=>by rw[←hP];exact mem_sortU
 have hbey:∀i,i<P.length→(beyondU (P.take k) (P.getD i ByteArray.empty)=true↔k≤i):=fun i hi=>by
  unfold beyondU
  rw[List.length_take,Nat.min_eq_left hk,Bool.or_eq_true,decide_eq_true_eq]
  have e:(P.take k).getD (k-1) ByteArray.empty=if k=0 then ByteArray.empty else P.getD (k-1) ByteArray.empty:=by
   split
   ·rename_i z;subst z;simp
   ·simp only[List.getD_eq_getElem?_getD,List.getElem?_take];rw[if_pos (by omega)]
  constructor
  ·rintro(h|h)
   ·omega
   ·rcases Nat.lt_or_ge i k with q|q
    ·exfalso
     rw[e,if_neg (by omega)]at h
     rcases Nat.lt_or_ge i (k-1)with z|z
     ·rw[blt_asymm (hup.getD_lt z (by omega) _)]at h;cases h
     ·rw[show i=k-1 by omega,blt_irr]at h;cases h
    ·exact q
  ·intro h
   by_cases z:k=0
   ·exact .inl z
   ·right;rw[e,if_neg z];exact hup.getD_lt (by omega) hi _
 have idx:∀t,t∈l→∃i,i<P.length∧P.getD i ByteArray.empty=t:=fun t ht=>by
  obtain⟨i,hi,he⟩:=List.getElem_of_mem ((hmem t).2 ht)
  exact⟨i,hi,by rw[List.getD_eq_getElem?_getD,List.getElem?_eq_getElem hi];exact he⟩
 rcases bestU_fold (P.take k) l ByteArray.empty hl (fun h=>absurd rfl h)with⟨h1,_,h3⟩|⟨h1,h2,h3,_,h5⟩
 ·rw[h1]
  rcases Nat.lt_or_ge k P.length with q|q
  ·have hm:P.getD k ByteArray.empty∈l:=(hmem _).1 (getD_mem _ _ _ q)
   have:=h3 _ hm
   rw[(hbey k q).2 (Nat.le_refl _)]at this;cases this
  ·rw[List.getD_eq_getElem?_getD,List.getElem?_eq_none q];rfl
 ·generalize l.foldl (bestU (P.take k)) ByteArray.empty=B at*
  have hB:B∈l:=by
   rcases h3 with q|q
   ·exact absurd q h1
   ·exact q
  obtain⟨i,hi,he⟩:=idx B hB
  rw[←he]at h2 h5⊢
  have hki:=(hbey i hi).1 h2
  rcases Nat.lt_or_ge k i with q|q
  ·have hm:P.getD k ByteArray.empty∈l:=(hmem _).1 (getD_mem _ _ _ (by omega))
   have:=h5 _ hm ((hbey k (by omega)).2 (Nat.le_refl _))
   rw[hup.getD_lt q hi]at this;cases this
  ·rw[show i=k by omega]
noncomputable section
inductive P45
 |e
inductive R45
 |r0 (r0:Bool)
noncomputable def T45(n:Int)(s:Span):P45→Tr P45 R45
 |.e=>(.call 96 [iI n,iI s.lo,iI s.hi] (.bool (within n s.lo s.hi)) true true (.out (.r0 (within n s.lo s.hi))))
noncomputable def g45(n:Int)(s:Span):P45→List Item × St
 |.e=>bd Tryz.f45 [iI n,.agg [iI s.lo,iI s.hi]] 9
noncomputable def n45:R45→Exit × St
 |.r0 r0=>(.ret,⟨mk 11 [(4,.bool r0)],[],[]⟩)
noncomputable def v45:R45→V
 |.r0 r0=>.bool r0
theorem s45(n:Int)(s:Span):Sm 0 (g45 n s) (T45 n s) (n45)
 |.e=>⟨400,by kernel_rfl⟩
theorem q45:∀r,bodyQ Tryz.prog Tryz.f45 (·=v45 r) (n45 r).1 (n45 r).2
 |.r0 r0=>bq (.bool r0) (by kernel_rfl)
theorem w45(n:Int)(s:Span){post:V→Prop}(h:WQ (T45 n s) v45 post .e):PC 45 [iI n,.agg [iI s.lo,iI s.hi]] post:=
 PCalls.wq Tryz.func45 (s45 n s) q45 h
theorem c45(n:Int)(s:Span):PC 45 [iI n,.agg (tSpan.cells s)] (·=.bool (within n s.lo s.hi)):=by
 refine w45 _ _ (WP.step ?_)
 simp only[T45,Go,Ends',v45,Tr.sure,SS]
 repeat' with_reducible first|intro _|apply And.intro
 all_goals exact c96 _ _ _
end
noncomputable section
theorem telS(M:List ByteArray)(x:ByteArray)(r j:Nat)(hr:r<M.length+1):VLe (appC M.length (rowsOf tstr M) (litC 1 1 [.str x]) r j) (rowsOf tstr (M++ [x]) r j):=app_at tstr M x rfl rfl r j hr
end
noncomputable section
theorem gt_eq(s l:ByteArray):(!(Op.bytesLess s.toList l.toList||(s.toList==l.toList)))=blt l s:=by
 rw[toList_beq]
 rcases blt_tri l s with h|h|h
 ·have h2:=blt_asymm h
  unfold blt at h h2
  have hne:s≠l:=fun e=>by subst e;rw[h]at h2;cases h2
  simp[h2,hne];unfold blt;rw[h]
 ·subst h;simp[blt_irr]
 ·have h2:=blt_asymm h
  rw[h2];unfold blt at h;simp[h]
def bestB(b:Book)(out:List ByteArray)(i:Nat):ByteArray:=((b.bodies.take i).flatMap namesOf).foldl (bestU out) ByteArray.empty
theorem bestB_next(b:Book)(out:List ByteArray)(i:Nat)(hi:i<b.bodies.length):bestB b out (i+1)=(namesOf (b.bodies.getD i zBody)).foldl (bestU out) (bestB b out i):=by
 unfold bestB;rw[take_snoc zBody _ i hi,List.flatMap_append,List.foldl_append];simp
theorem bestB_all(b:Book)(out:List ByteArray):bestB b out b.bodies.length=(allNames b).foldl (bestU out) ByteArray.empty:=by
 unfold bestB;rw[List.take_length];rfl
def bestS(x:Body)(out:List ByteArray)(s:ByteArray)(q:Nat):ByteArray:=((namesOf x).take q).foldl (bestU out) s
theorem bestS_next(x:Body)(out:List ByteArray)(s:ByteArray)(q:Nat)(hq:q<x.shown.length):bestS x out s (q+1)=bestU out (bestS x out s q) (x.shown.getD q zShown).as_:=by
 have hq':q<(namesOf x).length:=by unfold namesOf;simpa using hq
 unfold bestS
 rw[take_snoc ByteArray.empty _ q hq',List.foldl_append]
 have e:(namesOf x).getD q ByteArray.empty=(x.shown.getD q zShown).as_:=by unfold namesOf;simp[List.getD_eq_getElem?_getD,hq]
 rw[e];rfl
theorem revS(r j:Nat)(hr:r<0)(E:Ty ByteArray):VLe (rowsRev E [] r j) (rowsOf E [] r j):=absurd hr (Nat.not_lt_zero _)
inductive P55
 |e
 |l0 (a0_1:List ByteArray) (n0_1:Nat)
 |l1 (a0_1:List ByteArray) (n0_1:Nat) (x1_4:ByteArray) (x1_5:Int)
 |l2 (a0_1:List ByteArray) (n0_1:Nat) (x1_5:Int) (x2_4:ByteArray) (x2_6:Int)
inductive R55
 |r0 (r0:List ByteArray)
noncomputable def T55(b:Book):P55→Tr P55 R55
 |.e=>(.wait 4 (.own 3 9 1 (.telb 1 1 0 (rowsRev tstr ([])) (rowsOf tstr ([]:List ByteArray)) (.go (.l0 ([]:List ByteArray) 0)))))
 |.l0 a0_1 n0_1=>(.go (.l1 a0_1 n0_1 (ByteArray.mk #[]) 0))
 |.l1 a0_1 n0_1 x1_4 x1_5=>(.br (decide (x1_5<(b.bodies.length:Int))) (.go (.l2 a0_1 n0_1 x1_5 x1_4 0)) (.br (x1_4.toList==(ByteArray.mk #[]).toList) (.wait 1 (.frz 1 ((decide (n0_1≤n0_1))&&true) (.vle 3 (.list 1 n0_1 (rowsOf tstr a0_1)) (tstr.lst a0_1) (.out (.r0 a0_1))))) (.need ((decide (n0_1=n0_1)&&decide (n0_1+1≤4294967296))&&decide (1≤1)) (.scal (fun _=>true) (.telb 1 1 (n0_1+1) (appC n0_1 (rowsOf tstr a0_1) (litC 1 1 [.str x1_4])) (rowsOf tstr (a0_1++ [x1_4])) (.go (.l0 (a0_1++ [x1_4]) (n0_1+1))))))))
 |.l2 a0_1 n0_1 x1_5 x2_4 x2_6=>let c2:=(n0_1:Int)-(1:Int);let c3:=b.bodies.getD (x1_5).toNat tBody.zero;let c4:=decide (0≤x1_5)&&decide (x1_5<(b.bodies.length:Int));let c5:=((c3.shown).getD (x2_6).toNat tShown.zero).as_;let c1:Tr P55 R55:=.br (x2_4.toList==(ByteArray.mk #[]).toList) (.lit true (.lit true (.need (inR .i64 (x2_6+(1:Int))) (.go (.l2 a0_1 n0_1 x1_5 c5 (x2_6+(1:Int))))))) (.lit true (.br (Op.bytesLess c5.toList x2_4.toList) (.need (inR .i64 (x2_6+(1:Int))) (.go (.l2 a0_1 n0_1 x1_5 c5 (x2_6+(1:Int))))) (.need (inR .i64 (x2_6+(1:Int))) (.go (.l2 a0_1 n0_1 x1_5 x2_4 (x2_6+(1:Int)))))));let c6:=x2_6<((c3.shown.length):Int);let c7:=a0_1.getD (c2).toNat tstr.zero;(.need c4 (.br (decide c6) (.need c4 (.need (decide (0≤x2_6)&&decide c6) (.br ((n0_1:Int)==(0:Int)) (.lit true c1) (.need (inR .i64 c2) (.need ((decide (0≤c2)&&decide (c2<(n0_1:Int)))&&decide (n0_1≤n0_1)) (.need (decide ((c2).toNat<n0_1)&&decide (0<1)) (.br (!((Op.bytesLess c5.toList c7.toList)||(c5.toList==c7.toList))) c1 (.lit false (.lit false (.need (inR .i64 (x2_6+(1:Int))) (.go (.l2 a0_1 n0_1 x1_5 x2_4 (x2_6+(1:Int)))))))))))))) (.need (inR .i64 (x1_5+(1:Int))) (.go (.l1 a0_1 n0_1 x2_4 (x1_5+(1:Int)))))))
noncomputable def g55(b:Book):P55→List Item × St
 |.e=>bd Tryz.f55 [.agg (cC b)] 65
 |.l0 a0_1 n0_1=>(cutOf Tryz.f55 0,⟨mk 66 [(1,.ref 0 0 0),(3,.row 1 n0_1)],[.cells (cC b),.rows 9 1 n0_1 (rowsOf tstr a0_1)],[]⟩)
 |.l1 a0_1 n0_1 x1_4 x1_5=>(cutOf Tryz.f55 1,⟨mk 66 [(1,.ref 0 0 0),(3,.row 1 n0_1),(4,.str x1_4),(5,iI x1_5)],[.cells (cC b),.rows 9 1 n0_1 (rowsOf tstr a0_1)],[]⟩)
 |.l2 a0_1 n0_1 x1_5 x2_4 x2_6=>(cutOf Tryz.f55 2,⟨mk 66 [(1,.ref 0 0 0),(3,.row 1 n0_1),(4,.str x2_4),(5,iI x1_5),(6,iI x2_6)],[.cells (cC b),.rows 9 1 n0_1 (rowsOf tstr a0_1)],[]⟩)
noncomputable def n55:R55→Exit × St
 |.r0 r0=>(.ret,⟨mk 66 [(2,tstr.lst r0)],[],[]⟩)
noncomputable def v55:R55→V
 |.r0 r0=>tstr.lst r0
theorem s55(b:Book):Sm 0 (g55 b) (T55 b) (n55)
 |.e=>⟨400,by kernel_rfl⟩
 |.l0 _ _=>⟨400,by kernel_rfl⟩
 |.l1 _ _ _ _=>⟨400,by kernel_rfl⟩
 |.l2 _ _ _ _ _=>⟨400,by kernel_rfl⟩
theorem q55:∀r,bodyQ Tryz.prog Tryz.f55 (·=v55 r) (n55 r).1 (n55 r).2
 |.r0 r0=>bq (tstr.lst r0) (by kernel_rfl)
theorem w55(b:Book){post:V→Prop}(h:WQ (T55 b) v55 post .e):PC 55 [.agg (cC b)] post:=
 PCalls.wq Tryz.func55 (s55 b) q55 h
theorem c55(b:Book)(h:OkBook b):PC 55 [.agg (tBook.cells b)] (·=tstr.lst (personsR b)):=by
 have hnb:=h.nb
 have hloop:∀(out:List ByteArray) (φ:P55⊕R55→Prop),out.length≤15→WP Tryz.prog ⟨none,0⟩ (T55 b) φ (.l1 out out.length (bestB b out b.bodies.length) (b.bodies.length:Int))→WP Tryz.prog ⟨none,0⟩ (T55 b) φ (.l1 out out.length (ByteArray.mk #[]) 0):=fun out φ ho hend=>by
  refine WP.run (fun i=>.l1 out out.length (bestB b out i) (i:Int)) rfl b.bodies.length (fun i hi=> ?_) hend
  have hr:inR .i64 ((i:Int)+1)=true:=inR64 (by omega) (by omega)
  have hi':(i:Int)<b.bodies.length:=by omega
  have hs3:=(shown_iff.1 (h.shown hi)).1
  refine WP.step ?_
  simp only[T55,Go,Ends',v55,Tr.sure,SS,hi']
  repeat' with_reducible first|intro _|apply And.intro
  rw[bestB_next b out i hi]
  generalize bestB b out i=B0
  refine WP.run (fun q=>.l2 out out.length (i:Int) (bestS (b.bodies.getD i zBody) out B0 q) (q:Int)) rfl (b.bodies.getD i zBody).shown.length (fun q hq=> ?_) ?_
  ·have hr2:inR .i64 ((q:Int)+1)=true:=inR64 (by omega) (by omega)
   rw[bestS_next _ _ _ _ hq]
   generalize hX:b.bodies.getD i zBody=X at*
   have hq':(q:Int)<X.shown.length:=by omega
   generalize bestS X out B0 q=best
   generalize hs:(X.shown.getD q zShown).as_=s
   have e1:=isEmpty_eq best
   have e2:Op.bytesLess s.toList best.toList=blt s best:=rfl
   by_cases hn0:out.length=0
   ·have hb:beyondU out s=true:=by unfold beyondU;simp[hn0]
    by_cases g1:best=ByteArray.empty
    ·have eb:bestU out best s=s:=if_pos ⟨hb,.inl g1⟩
     have f1:(best.toList==(ByteArray.mk #[]).toList)=true:=by rw[e1];simpa using g1
     rw[eb]
     refine WP.once ?_
     simp only[T55,Tr.sure,SS,hi',hq',z2,z3,hX,hs,f1,hn0,Int.natCast_zero]
     repeat' with_reducible first|intro _|apply And.intro
     all_goals simp[hr2,Go,Ends',v55,-List.getD_eq_getElem?_getD, *]
    ·have f1:(best.toList==(ByteArray.mk #[]).toList)=false:=by rw[e1];simpa using g1
     cases g2:blt s best with
     |true=>
      have eb:bestU out best s=s:=if_pos ⟨hb,.inr g2⟩
      rw[eb]
      refine WP.once ?_
      simp only[T55,Tr.sure,SS,hi',hq',z2,z3,hX,hs,f1,hn0,e2,g2,Int.natCast_zero]
      repeat' with_reducible first|intro _|apply And.intro
      all_goals simp[hr2,Go,Ends',v55,-List.getD_eq_getElem?_getD, *]
     |false=>
      have eb:bestU out best s=best:=if_neg fun q=>by
       rcases q.2 with z|z
       ·exact g1 z
       ·rw[g2]at z;cases z
      rw[eb]
      refine WP.once ?_
      simp only[T55,Tr.sure,SS,hi',hq',z2,z3,hX,hs,f1,hn0,e2,g2,Int.natCast_zero]
      repeat' with_reducible first|intro _|apply And.intro
      all_goals simp[hr2,Go,Ends',v55,-List.getD_eq_getElem?_getD, *]
   ·have hne:((out.length:Int)==0)=false:=by simpa using hn0
    have hr3:inR .i64 ((out.length:Int)-1)=true:=inR64 (by omega) (by omega)
    have hn1:(0:Int)≤(out.length:Int)-1:=by omega
    have hn2:(out.length:Int)-1<out.length:=by omega
    have hn3:((out.length:Int)-1).toNat=out.length-1:=by omega
    have hn4:out.length-1<out.length:=by omega
    have e3:=gt_eq s (out.getD (out.length-1) ByteArray.empty)
    have eb0:beyondU out s=blt (out.getD (out.length-1) ByteArray.empty) s:=by unfold beyondU;simp[hn0]
    cases g0:blt (out.getD (out.length-1) ByteArray.empty) s with
    |false=>
     have eb:bestU out best s=best:=if_neg fun q=>by have:=q.1;rw[eb0,g0]at this;cases this
     rw[eb]
     refine WP.once ?_
     simp only[T55,Tr.sure,SS,hi',hq',z2,z3,z12,hX,hs,hne,hn1,hn2,hn3,hn4,e3,g0]
     repeat' with_reducible first|intro _|apply And.intro
     all_goals simp[hr2,hr3,Go,Ends',v55,-List.getD_eq_getElem?_getD, *]
    |true=>
     have hb:beyondU out s=true:=eb0.trans g0
     by_cases g1:best=ByteArray.empty
     ·have eb:bestU out best s=s:=if_pos ⟨hb,.inl g1⟩
      have f1:(best.toList==(ByteArray.mk #[]).toList)=true:=by rw[e1];simpa using g1
      rw[eb]
      refine WP.once ?_
      simp only[T55,Tr.sure,SS,hi',hq',z2,z3,z12,hX,hs,hne,hn1,hn2,hn3,hn4,e3,g0,f1]
      repeat' with_reducible first|intro _|apply And.intro
      all_goals simp[hr2,hr3,Go,Ends',v55,-List.getD_eq_getElem?_getD, *]
     ·have f1:(best.toList==(ByteArray.mk #[]).toList)=false:=by rw[e1];simpa using g1
      cases g2:blt s best with
      |true=>
       have eb:bestU out best s=s:=if_pos ⟨hb,.inr g2⟩
       rw[eb]
       refine WP.once ?_
       simp only[T55,Tr.sure,SS,hi',hq',z2,z3,z12,hX,hs,hne,hn1,hn2,hn3,hn4,e3,g0,f1,e2,g2]
       repeat' with_reducible first|intro _|apply And.intro
       all_goals simp[hr2,hr3,Go,Ends',v55,-List.getD_eq_getElem?_getD, *]
      |false=>
       have eb:bestU out best s=best:=if_neg fun q=>by
        rcases q.2 with z|z
        ·exact g1 z
        ·rw[g2]at z;cases z
       rw[eb]
       refine WP.once ?_
       simp only[T55,Tr.sure,SS,hi',hq',z2,z3,z12,hX,hs,hne,hn1,hn2,hn3,hn4,e3,g0,f1,e2,g2]
       repeat' with_reducible first|intro _|apply And.intro
       all_goals simp[hr2,hr3,Go,Ends',v55,-List.getD_eq_getElem?_getD, *]
  ·have e:bestS (b.bodies.getD i zBody) out B0 (b.bodies.getD i zBody).shown.length=(namesOf (b.bodies.getD i zBody)).foldl (bestU out) B0:=by
    unfold bestS;rw[show(b.bodies.getD i zBody).shown.length=(namesOf (b.bodies.getD i zBody)).length by unfold namesOf;simp,List.take_length]
   rw[e]
   refine WP.once ?_
   simp only[T55,Tr.sure,SS,hi',z2,Int.lt_irrefl]
   repeat' with_reducible first|intro _|apply And.intro
   all_goals simp[hr,Go,Ends',v55,-List.getD_eq_getElem?_getD, *]
 have hP:=persons_len h
 have hbest:∀k,k≤(personsR b).length→bestB b ((personsR b).take k) b.bodies.length=(personsR b).getD k ByteArray.empty:=fun k hk=>by
  rw[bestB_all];exact best_next (allNames_ne h) hk
 have hne:∀s∈personsR b,s≠ByteArray.empty:=fun s hs=>allNames_ne h s (mem_sortU.1 hs)
 generalize hPP:personsR b=P at*
 refine w55 _ (WP.step ?_)
 simp only[T55,Go,Ends',v55,Tr.sure,SS]
 repeat' with_reducible first|intro _|apply And.intro
 all_goals first|exact(by with_reducible exact revS _ _ ‹_› _)|skip
 refine WP.run (fun k=>.l0 (P.take k) (P.take k).length) rfl P.length (fun k hk=> ?_) ?_
 ·have htl:(P.take k).length=k:=by rw[List.length_take];omega
  have hx:=hloop (P.take k) (fun x=>x=.inl (.l0 (P.take (k+1)) (P.take (k+1)).length)) (by omega) (by
   rw[hbest k (by omega)]
   have hnx:P.take (k+1)=P.take k++ [P.getD k ByteArray.empty]:=take_snoc _ _ _ hk
   have hln:(P.take k++ [P.getD k ByteArray.empty]).length=(P.take k).length+1:=by simp
   have hgk:=hne _ (getD_mem ByteArray.empty P k hk)
   have hM1:(P.take k).length+1≤4294967296:=by omega
   have f1:((P.getD k ByteArray.empty).toList==(ByteArray.mk #[]).toList)=false:=by rw[isEmpty_eq];simpa using hgk
   rw[hnx,hln]
   generalize P.take k=M at*
   generalize P.getD k ByteArray.empty=x at*
   refine WP.once ?_
   simp only[T55,Tr.sure,SS,f1,Int.lt_irrefl]
   repeat' with_reducible first|intro _|apply And.intro
   all_goals first|exact(by with_reducible exact telS _ _ _ _ ‹_›)|(simp[hM1,Go,Ends',v55,-List.getD_eq_getElem?_getD, *];done)|(simp_all [hM1,Go,Ends',v55,-List.getD_eq_getElem?_getD];done)
   all_goals trace_state)
  refine WP.step ?_
  simp only[T55,Go,Ends',v55,Tr.sure,SS]
  repeat' with_reducible first|intro _|apply And.intro
  all_goals exact hx
 ·rw[List.take_length]
  have hx:=hloop P (Ends' fun r=>v55 r=tstr.lst P) hP (by
   have:=hbest P.length (Nat.le_refl _)
   rw[List.take_length]at this
   rw[this]
   have e0:P.getD P.length ByteArray.empty=ByteArray.empty:=by rw[List.getD_eq_getElem?_getD,List.getElem?_eq_none (Nat.le_refl _)];rfl
   rw[e0]
   have f1:(ByteArray.empty.toList==(ByteArray.mk #[]).toList)=true:=by rw[isEmpty_eq];decide
   refine WP.step ?_
   simp only[T55,Go,Ends',v55,Tr.sure,SS,f1,Int.lt_irrefl]
   repeat' with_reducible first|intro _|apply And.intro
   all_goals first|exact(by exact VLe.refl _)|(simp[Go,Ends',v55,-List.getD_eq_getElem?_getD, *];done)
   all_goals trace_state)
  refine WP.step ?_
  simp only[T55,Go,Ends',v55,Tr.sure,SS]
  repeat' with_reducible first|intro _|apply And.intro
  all_goals exact hx
end
theorem firstE_all{τ:Type}{of:Nat→τ→Int}(d:τ):∀ {l:List τ} {i:Nat},(∀j,j<l.length→of (i+j) (l.getD j d)=0)→firstE of i l=none
 |[],_,_=>rfl
 |x::l,i,h=>by
  have h0:=h 0 (by simp)
  simp only[Nat.add_zero,List.getD_cons_zero]at h0
  simp only[firstE,h0,if_true]
  refine firstE_all d fun j hj=> ?_
  have:=h (j+1) (by simpa using hj)
  rw[show i+(j+1)=i+1+j by omega]at this
  simpa using this
theorem bookCheck_of{b:Book}(h:OkBook b):bookCheck b=(0,0,0):=by
 have e1:firstE (bodyAt b.bodies) 0 b.bodies=none:=firstE_all zBody fun j hj=>by rw[Nat.zero_add];exact h.body j hj
 have e2:firstE (headAt b.heads) 0 b.heads=none:=firstE_all ByteArray.empty fun j hj=>by rw[Nat.zero_add];exact h.head j hj
 have e3:firstE (lineErr b) 0 b.lines=none:=firstE_all zLine fun j hj=>by rw[Nat.zero_add];exact h.lineE j hj
 unfold bookCheck
 have h1:=h.nb
 have h2:=h.nh
 have h3:=h.nl
 rw[if_neg (by omega),e1]
 simp only
 rw[if_neg (by omega),e2]
 simp only
 rw[if_neg (by omega),e3]
theorem outside_no{lo hi:Int}{l:List Int}(h:∀n∈l,lo≤n∧n≤hi):outside lo hi l=false:=by
 unfold outside
 cases e:l.any fun n=> !within n lo hi with
 |false=>rfl
 |true=>
  obtain⟨n,hn,q⟩:=List.any_eq_true.1 e
  rw[not_iff_false]at q
  have:=within_iff.2 (h n hn)
  rw[q]at this;cases this
theorem told_val{b:Book}(h:OkBook b){ns:List Int}(hn:∀n∈ns,0≤n∧n<b.bodies.length){d:Int}(hd:0≤d∧d≤364):toldR b ns d=if(truthsR b []).length=0 then([],8)else(truthsR b [],0):=by
 have e:toldE b ns d=0:=by
  unfold toldE
  rw[bookCheck_of h,if_neg (by decide),outside_no (fun n hm=>by have:=hn n hm;omega),if_neg (by decide),within_iff.2 hd,if_pos rfl]
 unfold toldR
 rw[e,if_neg (by decide)]
theorem told_zero{b:Book}(h:OkBook b){ns:List Int}(hn:∀n∈ns,0≤n∧n<b.bodies.length){d:Int}(hd:0≤d∧d≤364)(ht:0<(truthsR b []).length):(toldR b ns d).2=0:=by
 rw[told_val h hn hd,if_neg (by omega)]
theorem told_eight{b:Book}(h:OkBook b){ns:List Int}(hn:∀n∈ns,0≤n∧n<b.bodies.length){d:Int}(hd:0≤d∧d≤364)(ht:(truthsR b []).length=0):toldR b ns d=([],8):=by
 rw[told_val h hn hd,if_pos ht]
theorem one_in{n m:Int}(h:0≤n∧n<m):∀k∈ [n],0≤k∧k<m:=fun k hk=>by rw[List.mem_singleton.1 hk];exact h
section
variable {b b':Book} {D:Int→Prop}
theorem as_is{head d:Int}(h0:(toldR b [head] d).2=0):asR b head d=((personsR b).filter fun s=>(truthsR b []).any fun t=>same (seenR b t head d) s,0):=by unfold asR;rw[if_neg (fun q=>q h0)]
theorem mem_as{head d:Int}(h0:(toldR b [head] d).2=0){x:ByteArray}:x∈(asR b head d).1↔x∈personsR b∧∃t∈truthsR b [],seenR b t head d=x:=by
 rw[as_is h0,List.mem_filter,List.any_eq_true];simp only[same_iff]
theorem anyS_iff{head:Int}{s:ByteArray}{d:Int}{L:List Truth}:anyS b L head s d=true↔∃t∈L,seenR b t head d=s:=by
 unfold anyS;rw[List.any_eq_true];simp only[same_iff]
theorem between_how(h:OkBook b){head:Int}(hh:0≤head∧head<b.bodies.length){s:ByteArray}(hs:s≠ByteArray.empty):
  ((spanOf b (truthsR b []) head s).lo<0∧∀d,0≤d∧d≤364→anyS b (truthsR b []) head s d=false)∨
  (0≤(spanOf b (truthsR b []) head s).lo∧(spanOf b (truthsR b []) head s).lo≤(spanOf b (truthsR b []) head s).hi∧(spanOf b (truthsR b []) head s).hi≤364∧anyS b (truthsR b []) head s (spanOf b (truthsR b []) head s).lo=true∧anyS b (truthsR b []) head s (spanOf b (truthsR b []) head s).hi=true∧
   ∀d,0≤d∧d≤364→anyS b (truthsR b []) head s d=true→(spanOf b (truthsR b []) head s).lo≤d∧d≤(spanOf b (truthsR b []) head s).hi):=by
 have hA:=fun {d:Int} h0=>anyS_hits h hh hs (d:=d) h0
 have hin:∀x∈hitsX head (keptB b s) (truthsR b []),0≤x.span.lo∧x.span.lo≤x.span.hi∧x.span.hi≤364:=fun x hx=>by
  obtain⟨t,ht,hx2⟩:=List.mem_flatMap.1 hx
  have hx5:=(mem_kept.1 (List.mem_filter.1 hx2).1).1
  exact⟨(stretch_good hx5).lo,(stretch_good hx5).le,stretch_hi hx5⟩
 rcases between_law h hh hs with⟨q1,q2⟩|⟨q1,q2,q3⟩
 ·left
  refine⟨q2,fun d hd=> ?_⟩
  rw[manyX_hits]at q1
  cases hz:anyS b (truthsR b []) head s d with
  |false=>rfl
  |true=>
   obtain⟨x,hx,_⟩:=(hA hd).1 hz
   have:=(hits_span (Q:=hitsX head (keptB b s) (truthsR b [])) (fun e=>by rw[e]at hx;exact absurd hx List.not_mem_nil)).1
   rw[this]at q1;cases q1
 ·right
  rw[manyX_hits]at q1 q3
  have hne:hitsX head (keptB b s) (truthsR b [])≠ []:=fun e=>by rw[e]at q1;cases q1
  obtain⟨_,⟨x,hx,ex⟩,⟨y,hy,ey⟩,ha⟩:=hits_span hne
  obtain⟨x1,x2,x3⟩:=hin x hx
  obtain⟨y1,y2,y3⟩:=hin y hy
  have hxy:=ha x hx
  rw[q3]
  generalize(hitsX head (keptB b s) (truthsR b [])).foldl stepY (0,0,false)=r at*
  simp only
  refine⟨by omega,by omega,by omega,(hA ⟨by omega,by omega⟩).2 ⟨x,hx,by omega,by omega⟩,(hA ⟨by omega,by omega⟩).2 ⟨y,hy,by omega,by omega⟩,fun d hd e=> ?_⟩
  obtain⟨z,hz,z1,z2⟩:=(hA hd).1 e
  have:=ha z hz
  omega
theorem between_is{head:Int}(h0:(toldR b [head] 0).2=0){s:ByteArray}(hs:nameOk s=true):betweenR b head s=if(spanOf b (truthsR b []) head s).lo<0 then(zSpan,4)else(spanOf b (truthsR b []) head s,0):=by
 unfold betweenR;rw[if_neg (fun q=>q h0),if_neg (by rw[hs];decide)]
theorem name_ne{s:ByteArray}(h:nameOk s=true):s≠ByteArray.empty:=fun e=>by rw[e]at h;revert h;decide
end
noncomputable section
def dayR(n:Int):Int:=n.tmod 365
theorem valid_ok{b:Book}(h:validR b=true):OkBook b:=okBook (by simpa[validR]using h)
theorem valid_of{b:Book}(h:OkBook b):validR b=true:=by unfold validR;rw[bookCheck_of h];rfl
inductive P41
 |e
inductive R41
 |r0 (r0:Int)
noncomputable def T41(n:Int):P41→Tr P41 R41
 |.e=>(.need (inR .i64 n) (.need (decide ((365:Int)≠0)) (.out (.r0 (n.tmod (365:Int))))))
noncomputable def g41(n:Int):P41→List Item × St
 |.e=>bd Tryz.f41 [.int .u16 n] 5
noncomputable def n41:R41→Exit × St
 |.r0 r0=>(.ret,⟨mk 6 [(2,iI r0)],[],[]⟩)
noncomputable def v41:R41→V
 |.r0 r0=>iI r0
theorem s41(n:Int):Sm 0 (g41 n) (T41 n) (n41)
 |.e=>⟨400,by kernel_rfl⟩
theorem q41:∀r,bodyQ Tryz.prog Tryz.f41 (·=v41 r) (n41 r).1 (n41 r).2
 |.r0 r0=>bq (iI r0) (by kernel_rfl)
theorem w41(n:Int){post:V→Prop}(h:WQ (T41 n) v41 post .e):PC 41 [.int .u16 n] post:=
 PCalls.wq Tryz.func41 (s41 n) q41 h
theorem c41(n:Int)(h:inR .i64 n=true):PC 41 [.int .u16 n] (·=iI (dayR n)):=by
 refine w41 n (WP.step ?_)
 simp only[T41,Go,Ends',v41,Tr.sure,SS]
 repeat' with_reducible first|intro _|apply And.intro
 all_goals simp[h,dayR,Go,Ends',v41,-List.getD_eq_getElem?_getD, *]
end
noncomputable section
theorem which_in{w:Int}{n:Nat}(hw:0≤w)(hn:0<n):0≤w.tmod (n:Int)∧w.tmod (n:Int)<(n:Int):=by
 rw[Int.tmod_eq_emod_of_nonneg hw]
 exact⟨Int.emod_nonneg _ (by omega),Int.emod_lt_of_pos _ (by omega)⟩
theorem day_in{w:Int}(hw:0≤w):0≤dayR w∧dayR w≤364:=by
 have:=which_in (n:=365) hw (by decide)
 unfold dayR
 have e:((365:Nat):Int)=365:=rfl
 rw[e]at this
 omega
theorem told_bad{b:Book}(h:¬(validR b=true∧b.bodies.length≠0)){n d:Int}:(toldR b [n] d).2≠0:=fun e=>by
 obtain⟨h1,h2,-⟩:=told_ok e
 have:=h2 n (by simp)
 exact h ⟨valid_of h1,by omega⟩
theorem as_bad{b:Book}{n d:Int}(h:(toldR b [n] d).2≠0):asR b n d=([],(toldR b [n] d).2):=by unfold asR;rw[if_pos h]
theorem between_bad{b:Book}{n:Int}{s:ByteArray}(h:(toldR b [n] 0).2≠0):betweenR b n s=(zSpan,(toldR b [n] 0).2):=by unfold betweenR;rw[if_pos h]
end
noncomputable section
theorem index_mem{l:List ByteArray}{s:ByteArray}:0≤indexS l s↔s∈l:=by
 unfold indexS
 cases h:firstI (fun o=>same o s) 0 l with
 |some i=>
  have:=any_of_firstI h
  obtain⟨x,hx,e⟩:=List.any_eq_true.1 this
  rw[same_iff]at e
  subst e
  exact⟨fun _=>hx,fun _=>by simp⟩
 |none=>
  have:=any_of_none h
  constructor
  ·intro q;simp at q
  ·intro q
   have h2:l.any (fun o=>same o s)=true:=List.any_eq_true.2 ⟨s,q,same_iff.2 rfl⟩
   rw[this]at h2;cases h2
theorem names_len{b:Book}(h:OkBook b)(p:ByteArray→Bool):((personsR b).filter p).length≤15:=Nat.le_trans (List.length_filter_le _ _) (persons_len h)
theorem seen_person{b:Book}{t:Truth}{H d:Int}(h:seenR b t H d≠ByteArray.empty):seenR b t H d∈personsR b:=
 shown_person (t:=t) (hd:=H) h (D:=[d]) (by unfold shownR;simp[same_iff])
end
noncomputable section
theorem person_name{b:Book}(h:OkBook b){s:ByteArray}(hs:s∈personsR b):nameOk s=true:=by
 unfold personsR at hs
 rw[mem_sortU]at hs
 unfold allNames at hs
 rw[List.mem_flatMap]at hs
 obtain⟨x,hx,hs⟩:=hs
 rw[List.mem_map]at hs
 obtain⟨z,hz,e⟩:=hs
 obtain⟨i,hi,rfl⟩:=mem_getD zBody hx
 have:=(shown_iff.1 (h.shown hi)).2
 obtain⟨q,hq,rfl⟩:=mem_getD zShown hz
 have h2:=this q hq
 unfold shownAt at h2
 rw[e]at h2
 split at h2
 ·cases h2
 split at h2
 ·cases h2
 split at h2
 ·cases h2
 ·rename_i g;simpa using g
def insideR(n:Int)(s:Span):Bool:=within n s.lo s.hi
theorem c45i(n:Int)(s:Span):PC 45 [iI n,.agg (tSpan.cells s)] (·=.bool (insideR n s)):=c45 n s
theorem between_person{b:Book}(h:OkBook b){H d:Int}(hh:0≤H∧H<b.bodies.length)(hd:0≤d∧d≤364)(h0:(toldR b [H] 0).2=0)(h1:∀d,0≤d∧d≤364→(toldR b [H] d).2=0){s:ByteArray}(hs:s∈personsR b):
  (betweenR b H s=(zSpan,4)∧s∉(asR b H d).1)∨((betweenR b H s).2=0∧0≤(betweenR b H s).1.lo∧(betweenR b H s).1.lo≤(betweenR b H s).1.hi∧(betweenR b H s).1.hi≤364∧(s∈(asR b H d).1→insideR d (betweenR b H s).1=true)∧s∈(asR b H (betweenR b H s).1.lo).1∧s∈(asR b H (betweenR b H s).1.hi).1):=by
 have hn:=person_name h hs
 rw[between_is h0 hn]
 rcases between_how h hh (name_ne hn)with⟨q1,q2⟩|⟨a3,a4,a5,a6,a7,a8⟩
 ·left
  rw[if_pos q1]
  refine⟨rfl,fun q=> ?_⟩
  obtain⟨_,t,ht,e⟩:=(mem_as (h1 d hd)).1 q
  have:=q2 d hd
  rw[anyS_iff.2 ⟨t,ht,e⟩]at this;cases this
 ·right
  rw[if_neg (by omega)]
  refine⟨rfl,a3,a4,a5,fun q=> ?_,?_,?_⟩
  ·obtain⟨_,t,ht,e⟩:=(mem_as (h1 d hd)).1 q
   exact within_iff.2 (a8 d hd (anyS_iff.2 ⟨t,ht,e⟩))
  ·exact(mem_as (h1 _ ⟨a3,by omega⟩)).2 ⟨hs,anyS_iff.1 a6⟩
  ·exact(mem_as (h1 _ ⟨by omega,a5⟩)).2 ⟨hs,anyS_iff.1 a7⟩
theorem between_none{b:Book}(h:OkBook b){H:Int}(hh:0≤H∧H<b.bodies.length)(h0:(toldR b [H] 0).2=0)(hp:(personsR b).length=0){s:ByteArray}(hn:nameOk s=true):betweenR b H s=(zSpan,4):=by
 rw[between_is h0 hn]
 rcases between_how h hh (name_ne hn)with⟨q1,q2⟩|⟨a3,a4,a5,a6,a7,a8⟩
 ·rw[if_pos q1]
 ·obtain⟨t,ht,e⟩:=anyS_iff.1 a6
  have:=seen_person (b:=b) (t:=t) (H:=H) (d:=(spanOf b (truthsR b []) H s).lo) (by rw[e];exact name_ne hn)
  have:=List.length_pos_of_mem this
  omega
theorem name_a:nameOk (ByteArray.mk #[97])=true:=by decide
inductive P13
 |e
inductive R13
 |r0 (r0:Bool)
noncomputable def T13(b:Book)(y:Nat→Int):P13→Tr P13 R13
 |.e=>let c2:=(y (((0:Int)).toNat)).tmod (b.heads.length:Int);let c7:=dayR (y (((2:Int)).toNat));let c8:=betweenR b c2 (ByteArray.mk #[97]);let c10:=(((personsR b).length):Int);let c11:Tr P13 R13:=.call 21 [] (.bool true) true true (.out (.r0 true));let c12:=asR b c2 c7;let c13:=y (((1:Int)).toNat);let c3:=(personsR b).getD ((c13.tmod c10)).toNat tstr.zero;let c1:=betweenR b c2 c3;let c14:Tr P13 R13:=.out (.r0 false);let c4:Tr P13 R13:=.call 29 [.agg (cC b),iI c2,iI (c1.1.lo)] (.tuple [tstr.lst ((asR b c2 (c1.1.lo)).1),iI ((asR b c2 (c1.1.lo)).2)]) true true (.call 29 [.agg (cC b),iI c2,iI (c1.1.hi)] (.tuple [tstr.lst ((asR b c2 (c1.1.hi)).1),iI ((asR b c2 (c1.1.hi)).2)]) true true (.br ((asR b c2 (c1.1.lo)).2==(0:Int)) (.br ((asR b c2 (c1.1.hi)).2==(0:Int)) (.call 46 [tstr.lst ((asR b c2 (c1.1.lo)).1),.str c3] (iI (indexS ((asR b c2 (c1.1.lo)).1) c3)) true true (.br (decide ((indexS ((asR b c2 (c1.1.lo)).1) c3)≥(0:Int))) (.call 46 [tstr.lst ((asR b c2 (c1.1.hi)).1),.str c3] (iI (indexS ((asR b c2 (c1.1.hi)).1) c3)) true true (.br (decide ((indexS ((asR b c2 (c1.1.hi)).1) c3)≥(0:Int))) c11 c14)) (.lit false c14))) (.lit false (.lit false c14))) (.lit false (.lit false (.lit false c14)))));let c5:Tr P13 R13:=.br (c1.2==(4:Int)) (.lit false (.br (c12.2==(0:Int)) (.call 46 [tstr.lst (c12.1),.str c3] (iI (indexS (c12.1) c3)) true true (.lit false (.br (decide ((indexS (c12.1) c3)<(0:Int))) (.br ((c1.1.lo==(0:Int))&&((c1.1.hi==(0:Int))&&true)) c11 c14) (.lit false c14)))) (.lit false (.lit false (.lit false c14))))) (.lit false (.lit false (.lit false (.lit false (.lit false c14)))));let c6:Tr P13 R13:=.call 34 [.agg (cC b),iI 0,.str (ByteArray.mk #[97])] (.tuple [.agg [iI ((betweenR b 0 (ByteArray.mk #[97])).1.lo),iI ((betweenR b 0 (ByteArray.mk #[97])).1.hi)],iI ((betweenR b 0 (ByteArray.mk #[97])).2)]) true true (.br ((betweenR b 0 (ByteArray.mk #[97])).2 !=(0:Int)) c11 c14);let c9:Tr P13 R13:=.lit true (.lit true c14);let c15:List V:=[iI (c1.1.lo),iI (c1.1.hi)];let c16:Tr P13 R13:=.lit true (.lit true c9);(.call 39 [.agg (cC b)] (.bool (validR b)) true true (.br (!(validR b)) (.lit true c6) (.br ((b.bodies.length:Int)==(0:Int)) c6 (.front [(9,41,[.int .u16 (y (((2:Int)).toNat))],iI c7)] [] (((decide (0≤(0:Int))&&decide ((0:Int)<(3:Int)))&&((decide (((0:Int)).toNat<3)&&decide (0<1))&&((inR .i64 (y (((0:Int)).toNat)))&&((decide ((b.heads.length:Int)≠0))&&((decide (0≤(2:Int))&&decide ((2:Int)<(3:Int)))&&((decide (((2:Int)).toNat<3)&&decide (0<1))&&true))))))&&true) true (.call 55 [.agg (cC b)] (tstr.lst (personsR b)) true true (.br (c10==(0:Int)) (.call 34 [.agg (cC b),iI c2,.str (ByteArray.mk #[97])] (.tuple [.agg [iI (c8.1.lo),iI (c8.1.hi)],iI (c8.2)]) true true (.br (c8.2==(4:Int)) (.lit true c11) (.br (c8.2==(8:Int)) c11 c14))) (.need (decide (0≤(1:Int))&&decide ((1:Int)<(3:Int))) (.need (decide (((1:Int)).toNat<3)&&decide (0<1)) (.need (inR .i64 c13) (.need (decide (c10≠0)) (.need (decide (0≤(c13.tmod c10))&&decide ((c13.tmod c10)<c10)) (.call 34 [.agg (cC b),iI c2,.str c3] (.tuple [.agg c15,iI (c1.2)]) true true (.call 29 [.agg (cC b),iI c2,iI c7] (.tuple [tstr.lst (c12.1),iI (c12.2)]) true true (.br (c1.2 !=(0:Int)) (.br (c1.2==(8:Int)) (.br (c12.2==c1.2) (.lit true (.lit true (.lit true (.br ((c1.1.lo==(0:Int))&&((c1.1.hi==(0:Int))&&true)) c11 c14)))) c5) (.lit false c5)) (.br (c12.2 !=(0:Int)) (.lit true c16) (.br (decide (c1.1.lo<(0:Int))) c16 (.br (decide (c1.1.lo>c1.1.hi)) (.lit true c9) (.br (decide (c1.1.hi>(364:Int))) c9 (.call 46 [tstr.lst (c12.1),.str c3] (iI (indexS (c12.1) c3)) true true (.br (decide ((indexS (c12.1) c3)≥(0:Int))) (.call 45 [iI c7,.agg c15] (.bool (insideR c7 (c1.1))) true true (.lit false (.br (!(insideR c7 (c1.1))) c14 c4))) (.lit false (.lit false c4))))))))))))))))))))))
noncomputable def g13(b:Book)(y:Nat→Int):P13→List Item × St
 |.e=>bd Tryz.f13 [.agg (cC b),.arr 1 3 (rowsFn tu16 y)] 190
noncomputable def n13:R13→Exit × St
 |.r0 r0=>(.ret,⟨mk 192 [(4,.bool r0)],[],[]⟩)
noncomputable def v13:R13→V
 |.r0 r0=>.bool r0
theorem s13(b:Book)(y:Nat→Int):Sm 0 (g13 b y) (T13 b y) (n13)
 |.e=>⟨400,by kernel_rfl⟩
theorem q13:∀r,bodyQ Tryz.prog Tryz.f13 (·=v13 r) (n13 r).1 (n13 r).2
 |.r0 r0=>bq (.bool r0) (by kernel_rfl)
theorem w13(b:Book)(y:Nat→Int){post:V→Prop}(h:WQ (T13 b y) v13 post .e):PC 13 [.agg (cC b),.arr 1 3 (rowsFn tu16 y)] post:=
 PCalls.wq Tryz.func13 (s13 b y) q13 h
set_option maxHeartbeats 4000000 in
theorem c13(b:Book)(y:Nat→Int)(hy:∀i,i<3→0≤y i∧y i≤65535):PC 13 [.agg (tBook.cells b),.arr 1 3 (rowsFn tu16 y)] (·=.bool true):=by
 have y0:=hy 0 (by omega)
 have y1:=hy 1 (by omega)
 have y2:=hy 2 (by omega)
 have r0:inR .i64 (y 0)=true:=inR64 (by omega) (by omega)
 have r1:inR .i64 (y 1)=true:=inR64 (by omega) (by omega)
 have r2:inR .i64 (y 2)=true:=inR64 (by omega) (by omega)
 have k41:=c41 (y 2) r2
 have k39:=c39 b
 by_cases hv:validR b=true
 ·have hok:=valid_ok hv
  rw[hv]at k39
  have hnb:=hok.nb
  have hnh:=hok.nh
  by_cases hz:b.bodies.length=0
  ·have hz':((b.bodies.length:Int)==0)=true:=by simp[hz]
   have hb:=told_bad (b:=b) (n:=0) (d:=0) (fun q=>q.2 hz)
   have e:=between_bad (s:=ByteArray.mk #[97]) hb
   have k34:=c34 b 0 (ByteArray.mk #[97])
   rw[e]at k34
   refine w13 b y (WP.step ?_)
   simp only[T13,Go,Ends',v13,Tr.sure,SS,hv,hz',e]
   repeat' with_reducible first|intro _|apply And.intro
   all_goals first|exact k39|exact k34|exact c21|(simp_all [hb,Go,Ends',v13,-List.getD_eq_getElem?_getD];done)
  ·have hz':((b.bodies.length:Int)==0)=false:=beq_eq_false_iff_ne.2 (by omega)
   have hz3:¬(b.heads.length:Int)=0:=by omega
   have hH:=which_in (n:=b.heads.length) y0.1 (by omega)
   have hD:=day_in y2.1
   rw[hnh]at hH hz3
   have k55:=c55 b hok
   generalize hHH:(y 0).tmod (b.bodies.length:Int)=H at*
   generalize hDD:dayR (y 2)=d at*
   have hd0:(0:Int)≤0∧(0:Int)≤364:=by decide
   have e1:(truthsR b []).length=0→∀d,0≤d∧d≤364→toldR b [H] d=([],8):=fun ht d hd=>told_eight hok (one_in hH) hd ht
   have e2:(truthsR b []).length≠0→∀d,0≤d∧d≤364→(toldR b [H] d).2=0:=fun ht d hd=>told_zero hok (one_in hH) hd (by omega)
   by_cases hp:(personsR b).length=0
   ·have hp':(((personsR b).length:Int)==0)=true:=by simp[hp]
    have k34:=c34 b H (ByteArray.mk #[97])
    by_cases ht:(truthsR b []).length=0
    ·have w1:=between_bad (b:=b) (n:=H) (s:=ByteArray.mk #[97]) (by rw[e1 ht 0 hd0];decide)
     rw[e1 ht 0 hd0]at w1
     rw[w1]at k34
     clear e1 e2
     refine w13 b y (WP.step ?_)
     simp only[T13,Go,Ends',v13,Tr.sure,SS,hv,hz',i0,i1,i2,hnh,hHH,hDD,w1,hp']
     repeat' with_reducible first|intro _|apply And.intro
     all_goals first|exact k39|exact k34|exact k41|exact k55|exact c21|(simp[r0,r1,r2,hz,hz3,Go,Ends',v13,-List.getD_eq_getElem?_getD, *];done)
    ·have w1:=between_none hok hH (e2 ht 0 hd0) hp name_a
     rw[w1]at k34
     clear e1 e2
     refine w13 b y (WP.step ?_)
     simp only[T13,Go,Ends',v13,Tr.sure,SS,hv,hz',i0,i1,i2,hnh,hHH,hDD,w1,hp']
     repeat' with_reducible first|intro _|apply And.intro
     all_goals first|exact k39|exact k34|exact k41|exact k55|exact c21|(simp[r0,r1,r2,hz,hz3,Go,Ends',v13,-List.getD_eq_getElem?_getD, *];done)
   ·have hp':(((personsR b).length:Int)==0)=false:=beq_eq_false_iff_ne.2 (by omega)
    have hp3:¬((personsR b).length:Int)=0:=by omega
    have hpl:=persons_len hok
    have hN:=which_in (n:=(personsR b).length) y1.1 (by omega)
    have hsm:=getD_mem ByteArray.empty (personsR b) ((y 1).tmod ((personsR b).length:Int)).toNat (by omega)
    obtain⟨s,hs⟩:∃s,(personsR b).getD ((y 1).tmod ((personsR b).length:Int)).toNat ByteArray.empty=s:=⟨_,rfl⟩
    rw[hs]at hsm
    have k34:=c34 b H s
    have k29:=c29 b H d
    by_cases ht:(truthsR b []).length=0
    ·have w1:=between_bad (b:=b) (n:=H) (s:=s) (by rw[e1 ht 0 hd0];decide)
     have w2:=as_bad (b:=b) (n:=H) (d:=d) (by rw[e1 ht d hD];decide)
     rw[e1 ht 0 hd0]at w1
     rw[e1 ht d hD]at w2
     rw[w1]at k34
     rw[w2]at k29
     clear e1 e2
     refine w13 b y (WP.step ?_)
     simp only[T13,Go,Ends',v13,Tr.sure,SS,hv,hz',i0,i1,i2,hnh,hHH,hDD,w1,w2,hp',z12,hs,z4,zSpan]
     repeat' with_reducible first|intro _|apply And.intro
     all_goals first|exact k39|exact k34|exact k29|exact k41|exact k55|exact c21|(simp[r0,r1,r2,hz,hz3,hp3,hN,Go,Ends',v13,-List.getD_eq_getElem?_getD, *];done)|(simp_all [r0,r1,r2,hz,hz3,hp3,hN,Go,Ends',v13,-List.getD_eq_getElem?_getD];done)
    ·have e2':=e2 ht
     have w2:(asR b H d).2=0:=by rw[as_is (e2' d hD)]
     have hA:∀d,0≤d∧d≤364→(asR b H d).1.length≤15:=fun d hd=>by rw[as_is (e2' d hd)];exact names_len hok _
     have k46:=c46 (asR b H d).1 s (by have:=hA d hD;omega)
     rw[w2]at k29
     rcases between_person hok hH hD (e2' 0 hd0) e2' hsm with⟨w1,q⟩|⟨w1,q1,q2,q3,q4,q5,q6⟩
     ·have hlt:indexS (asR b H d).1 s<0:=Int.not_le.1 fun z=>q (index_mem.1 z)
      rw[w1]at k34
      clear e1 e2 e2' hA
      refine w13 b y (WP.step ?_)
      simp only[T13,Go,Ends',v13,Tr.sure,SS,hv,hz',i0,i1,i2,hnh,hHH,hDD,w1,w2,hp',z12,hs,z4,zSpan]
      repeat' with_reducible first|intro _|apply And.intro
      all_goals first|exact k39|exact k34|exact k29|exact k41|exact k46|exact k55|exact c21|(simp[r0,r1,r2,hz,hz3,hp3,hN,hlt,Go,Ends',v13,-List.getD_eq_getElem?_getD, *];done)|(simp_all [r0,r1,r2,hz,hz3,hp3,hN,hlt,Go,Ends',v13,-List.getD_eq_getElem?_getD];done)
     ·have k29a:=c29 b H (betweenR b H s).1.lo
      have k29b:=c29 b H (betweenR b H s).1.hi
      have v1:(asR b H (betweenR b H s).1.lo).2=0:=by rw[as_is (e2' _ ⟨q1,by omega⟩)]
      have v2:(asR b H (betweenR b H s).1.hi).2=0:=by rw[as_is (e2' _ ⟨by omega,q3⟩)]
      have k46a:=c46 (asR b H (betweenR b H s).1.lo).1 s (by have:=hA _ ⟨q1,by omega⟩;omega)
      have k46b:=c46 (asR b H (betweenR b H s).1.hi).1 s (by have:=hA _ ⟨by omega,q3⟩;omega)
      have g1:0≤indexS (asR b H (betweenR b H s).1.lo).1 s:=index_mem.2 q5
      have g2:0≤indexS (asR b H (betweenR b H s).1.hi).1 s:=index_mem.2 q6
      have g3:¬(betweenR b H s).1.lo<0:=by omega
      have g4:¬(betweenR b H s).1.hi<(betweenR b H s).1.lo:=by omega
      have g5:¬364<(betweenR b H s).1.hi:=by omega
      have n1:decide (indexS (asR b H (betweenR b H s).1.lo).1 s≥0)=true:=decide_eq_true g1
      have n2:decide (indexS (asR b H (betweenR b H s).1.hi).1 s≥0)=true:=decide_eq_true g2
      have k45:=c45i d (betweenR b H s).1
      rw[w1]at k34
      rw[v1]at k29a
      rw[v2]at k29b
      clear e1 e2 e2' hA
      by_cases hx:s∈(asR b H d).1
      ·have g6:0≤indexS (asR b H d).1 s:=index_mem.2 hx
       have g7:=q4 hx
       rw[g7]at k45
       refine w13 b y (WP.step ?_)
       simp only[T13,Go,Ends',v13,Tr.sure,SS,hv,hz',i0,i1,i2,hnh,hHH,hDD,g7,n1,n2,w1,w2,v1,v2,hp',z12,hs,z4]
       repeat' with_reducible first|intro _|apply And.intro
       all_goals first|exact k39|exact k34|exact k29|exact k29a|exact k29b|exact k41|exact k45|exact k46|exact k46a|exact k46b|exact k55|exact c21|(simp[r0,r1,r2,hz,hz3,hp3,hN,g1,g2,g3,g4,g5,g6,Go,Ends',v13,-List.getD_eq_getElem?_getD, *];done)|(simp_all [r0,r1,r2,hz,hz3,hp3,hN,g1,g2,g3,g4,g5,g6,Go,Ends',v13,-List.getD_eq_getElem?_getD];done)
      ·have g6:indexS (asR b H d).1 s<0:=Int.not_le.1 fun z=>hx (index_mem.1 z)
       have n6:decide (indexS (asR b H d).1 s≥0)=false:=decide_eq_false (by omega)
       refine w13 b y (WP.step ?_)
       simp only[T13,Go,Ends',v13,Tr.sure,SS,hv,hz',i0,i1,i2,hnh,hHH,hDD,n1,n2,n6,w1,w2,v1,v2,hp',z12,hs,z4]
       repeat' with_reducible first|intro _|apply And.intro
       all_goals first|exact k39|exact k34|exact k29|exact k29a|exact k29b|exact k41|exact k46|exact k46a|exact k46b|exact k55|exact c21|(simp[r0,r1,r2,hz,hz3,hp3,hN,g1,g2,g3,g4,g5,g6,Go,Ends',v13,-List.getD_eq_getElem?_getD, *];done)|(simp_all [r0,r1,r2,hz,hz3,hp3,hN,g1,g2,g3,g4,g5,g6,Go,Ends',v13,-List.getD_eq_getElem?_getD];done)
 ·have hv':validR b=false:=by simpa using hv
  rw[hv']at k39
  have hb:=told_bad (b:=b) (n:=0) (d:=0) (fun q=>hv q.1)
  have e:=between_bad (s:=ByteArray.mk #[97]) hb
  have k34:=c34 b 0 (ByteArray.mk #[97])
  rw[e]at k34
  refine w13 b y (WP.step ?_)
  simp only[T13,Go,Ends',v13,Tr.sure,SS,hv',e]
  repeat' with_reducible first|intro _|apply And.intro
  all_goals first|exact k39|exact k34|exact c21|(simp_all [hb,Go,Ends',v13,-List.getD_eq_getElem?_getD];done)
end
end Go.Proofs.YtemgodefhcbleaaGreat
