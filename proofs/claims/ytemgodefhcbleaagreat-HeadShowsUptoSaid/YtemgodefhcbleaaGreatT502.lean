/-
  Part of the proof of HeadShows. Conditions: those that stand in each theorem.
-/
import Derived.Test.YtemgodefhcbleaaGreatT501
set_option linter.unusedSimpArgs false
set_option linter.unusedVariables false
set_option maxRecDepth 100000
namespace Go.Proofs.YtemgodefhcbleaaGreat
open Ab Go
noncomputable section
theorem gt_eq(s l:ByteArray):(!(Op.bytesLess s.toList l.toList||(s.toList==l.toList)))=blt l s:=by
 rw[toList_beq];rcases blt_tri l s with h|h|h
 ·have h2:=blt_asymm h;unfold blt at h h2;have hne:s≠l:=fun e=>by subst e;rw[h]at h2;cases h2
  simp[h2,hne];unfold blt;rw[h]
 ·subst h;simp[blt_irr]
 ·have h2:=blt_asymm h;rw[h2];unfold blt at h;simp[h]
def bestB(b:Book)(out:List ByteArray)(i:Nat):ByteArray:=((b.bodies.take i).flatMap namesOf).foldl (bestU out) ByteArray.empty
theorem bestB_next(b:Book)(out:List ByteArray)(i:Nat)(hi:i<b.bodies.length):bestB b out (i+1)=(namesOf (b.bodies.getD i zBody)).foldl (bestU out) (bestB b out i):=by
 unfold bestB;rw[take_snoc zBody _ i hi,List.flatMap_append,List.foldl_append];simp
theorem bestB_all(b:Book)(out:List ByteArray):bestB b out b.bodies.length=(allNames b).foldl (bestU out) ByteArray.empty:=by
 unfold bestB;rw[List.take_length];rfl
def bestS(x:Body)(out:List ByteArray)(s:ByteArray)(q:Nat):ByteArray:=((namesOf x).take q).foldl (bestU out) s
theorem bestS_next(x:Body)(out:List ByteArray)(s:ByteArray)(q:Nat)(hq:q<x.shown.length):bestS x out s (q+1)=bestU out (bestS x out s q) (x.shown.getD q zShown).as_:=by
 have hq':q<(namesOf x).length:=by unfold namesOf;simpa using hq
 unfold bestS;rw[take_snoc ByteArray.empty _ q hq',List.foldl_append];have e:(namesOf x).getD q ByteArray.empty=(x.shown.getD q zShown).as_:=by unfold namesOf;simp[gE,hq]
 rw[e];rfl
theorem revS(r j:Nat)(hr:r<0)(E:Ty ByteArray):VLe (rowsRev E [] r j) (rowsOf E [] r j):=absurd hr (Nat.not_lt_zero _)
inductive P55
 |e
 |l0 (a0_1:List ByteArray) (n0_1:Nat)
 |l1 (a0_1:List ByteArray) (n0_1:Nat) (x1_4:ByteArray) (x1_5:Int)
 |l2 (a0_1:List ByteArray) (n0_1:Nat) (x1_5:Int) (x2_4:ByteArray) (x2_6:Int)
inductive R55
 |r0 (r0:List ByteArray)
def T55(b:Book):P55->Tr P55 R55
 |.e=>(.wait 4 (.own 3 9 1 (.telb 1 1 0 (rowsRev tstr ([])) (rowsOf tstr ([]:List ByteArray)) (.go (.l0 ([]:List ByteArray) 0)))))
 |.l0 a0_1 n0_1=>(.go (.l1 a0_1 n0_1 (ByteArray.mk #[]) 0))
 |.l1 a0_1 n0_1 x1_4 x1_5=>(.br (decide (x1_5<(b.bodies.length:Int))) (.go (.l2 a0_1 n0_1 x1_5 x1_4 0)) (.br (x1_4.toList==(ByteArray.mk #[]).toList) (.wait 1 (.frz 1 ((decide (n0_1<=n0_1))&&true) (.vle 3 (.list 1 n0_1 (rowsOf tstr a0_1)) (tstr.lst a0_1) (.out (.r0 a0_1))))) (.need ((decide (n0_1=n0_1)&&decide (n0_1+1<=4294967296))&&decide (1<=1)) (.scal (fun _=>true) (.telb 1 1 (n0_1+1) (appC n0_1 (rowsOf tstr a0_1) (litC 1 1 [.str x1_4])) (rowsOf tstr (a0_1++ [x1_4])) (.go (.l0 (a0_1++ [x1_4]) (n0_1+1))))))))
 |.l2 a0_1 n0_1 x1_5 x2_4 x2_6=>let c2:=(n0_1:Int)-(1:Int);let c3:=b.bodies.getD (x1_5).toNat tBody.zero;let c4:=decide (0<=x1_5)&&decide (x1_5<(b.bodies.length:Int));let c5:=((c3.shown).getD (x2_6).toNat tShown.zero).as_;let c1:Tr P55 R55:=.br (x2_4.toList==(ByteArray.mk #[]).toList) (.lit true (.lit true (.need (inR .i64 (x2_6+(1:Int))) (.go (.l2 a0_1 n0_1 x1_5 c5 (x2_6+(1:Int))))))) (.lit true (.br (Op.bytesLess c5.toList x2_4.toList) (.need (inR .i64 (x2_6+(1:Int))) (.go (.l2 a0_1 n0_1 x1_5 c5 (x2_6+(1:Int))))) (.need (inR .i64 (x2_6+(1:Int))) (.go (.l2 a0_1 n0_1 x1_5 x2_4 (x2_6+(1:Int)))))));let c6:=x2_6<((c3.shown.length):Int);let c7:=a0_1.getD (c2).toNat tstr.zero;(.need c4 (.br (decide c6) (.need c4 (.need (decide (0<=x2_6)&&decide c6) (.br ((n0_1:Int)==(0:Int)) (.lit true c1) (.need (inR .i64 c2) (.need ((decide (0<=c2)&&decide (c2<(n0_1:Int)))&&decide (n0_1<=n0_1)) (.need (decide ((c2).toNat<n0_1)&&decide (0<1)) (.br (!((Op.bytesLess c5.toList c7.toList)||(c5.toList==c7.toList))) c1 (.lit false (.lit false (.need (inR .i64 (x2_6+(1:Int))) (.go (.l2 a0_1 n0_1 x1_5 x2_4 (x2_6+(1:Int)))))))))))))) (.need (inR .i64 (x1_5+(1:Int))) (.go (.l1 a0_1 n0_1 x2_4 (x1_5+(1:Int)))))))
noncomputable def g55(b:Book):P55->List Item × St
 |.e=>bd Tryz.f55 [.agg (cC b)] 65
 |.l0 a0_1 n0_1=>(cutOf Tryz.f55 0,⟨mk 66 [(1,.ref 0 0 0),(3,.row 1 n0_1)],[.cells (cC b),.rows 9 1 n0_1 (rowsOf tstr a0_1)],[]⟩)
 |.l1 a0_1 n0_1 x1_4 x1_5=>(cutOf Tryz.f55 1,⟨mk 66 [(1,.ref 0 0 0),(3,.row 1 n0_1),(4,.str x1_4),(5,iI x1_5)],[.cells (cC b),.rows 9 1 n0_1 (rowsOf tstr a0_1)],[]⟩)
 |.l2 a0_1 n0_1 x1_5 x2_4 x2_6=>(cutOf Tryz.f55 2,⟨mk 66 [(1,.ref 0 0 0),(3,.row 1 n0_1),(4,.str x2_4),(5,iI x1_5),(6,iI x2_6)],[.cells (cC b),.rows 9 1 n0_1 (rowsOf tstr a0_1)],[]⟩)
def n55:R55->Exit × St
 |.r0 r0=>(.ret,⟨mk 66 [(2,tstr.lst r0)],[],[]⟩)
def v55:R55->V
 |.r0 r0=>tstr.lst r0
theorem s55(b:Book):Sm 0 (g55 b) (T55 b) (n55)
 |.e=>⟨400,by kernel_rfl⟩
 |.l0 _ _=>⟨400,by kernel_rfl⟩
 |.l1 _ _ _ _=>⟨400,by kernel_rfl⟩
 |.l2 _ _ _ _ _=>⟨400,by kernel_rfl⟩
theorem q55:∀r,bodyQ Tryz.prog Tryz.f55 (·=v55 r) (n55 r).1 (n55 r).2
 |.r0 r0=>bq (tstr.lst r0) (by kernel_rfl)
theorem w55(b:Book){post:V->Prop}(h:WQ (T55 b) v55 post .e):PC 55 [.agg (cC b)] post:=
 PCalls.wq Tryz.func55 (s55 b) q55 h
theorem c55(b:Book)(h:OkBook b):PC 55 [.agg (tBook.cells b)] (·=tstr.lst (personsR b)):=by
 have hnb:=h.nb
 have hloop:∀(out:List ByteArray) (φ:P55⊕R55->Prop),out.length<=15->WP Tryz.prog ⟨none,0⟩ (T55 b) φ (.l1 out out.length (bestB b out b.bodies.length) (b.bodies.length:Int))->WP Tryz.prog ⟨none,0⟩ (T55 b) φ (.l1 out out.length (ByteArray.mk #[]) 0):=fun out φ ho hend=>by
  refine WP.run (fun i=>.l1 out out.length (bestB b out i) (i:Int)) rfl b.bodies.length (fun i hi=> ?_) hend;have hr:inR .i64 ((i:Int)+1)=true:=inR64 (by omega) (by omega);have hi':(i:Int)<b.bodies.length:=by omega
  have hs3:=(shown_iff.1 (h.shown hi)).1;refine WP.step ?_;simp only[T55,Go,Ends',v55,Tr.sure,SS,hi'];repeat' with_reducible first|intro _|apply aI
  rw[bestB_next b out i hi];generalize bestB b out i=B0
  refine WP.run (fun q=>.l2 out out.length (i:Int) (bestS (b.bodies.getD i zBody) out B0 q) (q:Int)) rfl (b.bodies.getD i zBody).shown.length (fun q hq=> ?_) ?_
  ·have hr2:inR .i64 ((q:Int)+1)=true:=inR64 (by omega) (by omega);rw[bestS_next _ _ _ _ hq];generalize hX:b.bodies.getD i zBody=X at*
   have hq':(q:Int)<X.shown.length:=by omega
   generalize bestS X out B0 q=best
   generalize hs:(X.shown.getD q zShown).as_=s
   have e1:=isEmpty_eq best;have e2:Op.bytesLess s.toList best.toList=blt s best:=rfl;by_cases hn0:out.length=0
   ·have hb:beyondU out s=true:=by unfold beyondU;simp[hn0]
    by_cases g1:best=ByteArray.empty
    ·have eb:bestU out best s=s:=if_pos ⟨hb,.inl g1⟩;have f1:(best.toList==(ByteArray.mk #[]).toList)=true:=by rw[e1];simpa using g1
     rw[eb];refine WP.once ?_;simp only[T55,Tr.sure,SS,hi',hq',z2,z3,hX,hs,f1,hn0,Int.natCast_zero];repeat' with_reducible first|intro _|apply aI
     all_goals simp[hr2,Go,Ends',v55,-List.getD_eq_getElem?_getD, *]
    ·have f1:(best.toList==(ByteArray.mk #[]).toList)=false:=by rw[e1];simpa using g1
     cases g2:blt s best with
     |true=>
      have eb:bestU out best s=s:=if_pos ⟨hb,.inr g2⟩;rw[eb];refine WP.once ?_;simp only[T55,Tr.sure,SS,hi',hq',z2,z3,hX,hs,f1,hn0,e2,g2,Int.natCast_zero];repeat' with_reducible first|intro _|apply aI
      all_goals simp[hr2,Go,Ends',v55,-List.getD_eq_getElem?_getD, *]
     |false=>
      have eb:bestU out best s=best:=if_neg fun q=>by
       rcases q.2 with z|z
       ·exact g1 z
       ·rw[g2]at z;cases z
      rw[eb];refine WP.once ?_;simp only[T55,Tr.sure,SS,hi',hq',z2,z3,hX,hs,f1,hn0,e2,g2,Int.natCast_zero];repeat' with_reducible first|intro _|apply aI
      all_goals simp[hr2,Go,Ends',v55,-List.getD_eq_getElem?_getD, *]
   ·have hne:((out.length:Int)==0)=false:=by simpa using hn0
    have hr3:inR .i64 ((out.length:Int)-1)=true:=inR64 (by omega) (by omega);have hn1:(0:Int)<=(out.length:Int)-1:=by omega
    have hn2:(out.length:Int)-1<out.length:=by omega
    have hn3:((out.length:Int)-1).toNat=out.length-1:=by omega
    have hn4:out.length-1<out.length:=by omega
    have e3:=gt_eq s (out.getD (out.length-1) ByteArray.empty);have eb0:beyondU out s=blt (out.getD (out.length-1) ByteArray.empty) s:=by unfold beyondU;simp[hn0]
    cases g0:blt (out.getD (out.length-1) ByteArray.empty) s with
    |false=>
     have eb:bestU out best s=best:=if_neg fun q=>by have:=q.1;rw[eb0,g0]at this;cases this
     rw[eb];refine WP.once ?_;simp only[T55,Tr.sure,SS,hi',hq',z2,z3,z12,hX,hs,hne,hn1,hn2,hn3,hn4,e3,g0];repeat' with_reducible first|intro _|apply aI
     all_goals simp[hr2,hr3,Go,Ends',v55,-List.getD_eq_getElem?_getD, *]
    |true=>
     have hb:beyondU out s=true:=eb0.trans g0;by_cases g1:best=ByteArray.empty
     ·have eb:bestU out best s=s:=if_pos ⟨hb,.inl g1⟩;have f1:(best.toList==(ByteArray.mk #[]).toList)=true:=by rw[e1];simpa using g1
      rw[eb];refine WP.once ?_;simp only[T55,Tr.sure,SS,hi',hq',z2,z3,z12,hX,hs,hne,hn1,hn2,hn3,hn4,e3,g0,f1];repeat' with_reducible first|intro _|apply aI
      all_goals simp[hr2,hr3,Go,Ends',v55,-List.getD_eq_getElem?_getD, *]
     ·have f1:(best.toList==(ByteArray.mk #[]).toList)=false:=by rw[e1];simpa using g1
      cases g2:blt s best with
      |true=>
       have eb:bestU out best s=s:=if_pos ⟨hb,.inr g2⟩;rw[eb];refine WP.once ?_;simp only[T55,Tr.sure,SS,hi',hq',z2,z3,z12,hX,hs,hne,hn1,hn2,hn3,hn4,e3,g0,f1,e2,g2];repeat' with_reducible first|intro _|apply aI
       all_goals simp[hr2,hr3,Go,Ends',v55,-List.getD_eq_getElem?_getD, *]
      |false=>
       have eb:bestU out best s=best:=if_neg fun q=>by
        rcases q.2 with z|z
        ·exact g1 z
        ·rw[g2]at z;cases z
       rw[eb];refine WP.once ?_;simp only[T55,Tr.sure,SS,hi',hq',z2,z3,z12,hX,hs,hne,hn1,hn2,hn3,hn4,e3,g0,f1,e2,g2];repeat' with_reducible first|intro _|apply aI
       all_goals simp[hr2,hr3,Go,Ends',v55,-List.getD_eq_getElem?_getD, *]
  ·have e:bestS (b.bodies.getD i zBody) out B0 (b.bodies.getD i zBody).shown.length=(namesOf (b.bodies.getD i zBody)).foldl (bestU out) B0:=by
    unfold bestS;rw[show(b.bodies.getD i zBody).shown.length=(namesOf (b.bodies.getD i zBody)).length by unfold namesOf;simp,List.take_length]
   rw[e];refine WP.once ?_;simp only[T55,Tr.sure,SS,hi',z2,Int.lt_irrefl];repeat' with_reducible first|intro _|apply aI
   all_goals simp[hr,Go,Ends',v55,-List.getD_eq_getElem?_getD, *]
 have hP:=persons_len h
 have hbest:∀k,k<=(personsR b).length->bestB b ((personsR b).take k) b.bodies.length=(personsR b).getD k ByteArray.empty:=fun k hk=>by
  rw[bestB_all];exact best_next (allNames_ne h) hk
 have hne:∀s∈personsR b,s≠ByteArray.empty:=fun s hs=>allNames_ne h s (mem_sortU.1 hs);generalize hPP:personsR b=P at*
 refine w55 _ (WP.step ?_);simp only[T55,Go,Ends',v55,Tr.sure,SS];repeat' with_reducible first|intro _|apply aI
 all_goals first|exact(by with_reducible exact revS _ _ ‹_› _)|skip
 refine WP.run (fun k=>.l0 (P.take k) (P.take k).length) rfl P.length (fun k hk=> ?_) ?_
 ·have htl:(P.take k).length=k:=by rw[List.length_take];omega
  have hx:=hloop (P.take k) (fun x=>x=.inl (.l0 (P.take (k+1)) (P.take (k+1)).length)) (by omega) (by
   rw[hbest k (by omega)];have hnx:P.take (k+1)=P.take k++ [P.getD k ByteArray.empty]:=take_snoc _ _ _ hk;have hln:(P.take k++ [P.getD k ByteArray.empty]).length=(P.take k).length+1:=by simp
   have hgk:=hne _ (getD_mem ByteArray.empty P k hk);have hM1:(P.take k).length+1<=4294967296:=by omega
   have f1:((P.getD k ByteArray.empty).toList==(ByteArray.mk #[]).toList)=false:=by rw[isEmpty_eq];simpa using hgk
   rw[hnx,hln];generalize P.take k=M at*
   generalize P.getD k ByteArray.empty=x at*
   refine WP.once ?_;simp only[T55,Tr.sure,SS,f1,Int.lt_irrefl];repeat' with_reducible first|intro _|apply aI
   all_goals first|exact(by with_reducible exact telS _ _ _ _ ‹_›)|(simp[hM1,Go,Ends',v55,-List.getD_eq_getElem?_getD, *];done)|(simp_all [hM1,Go,Ends',v55,-List.getD_eq_getElem?_getD];done)
   all_goals trace_state)
  refine WP.step ?_;simp only[T55,Go,Ends',v55,Tr.sure,SS];repeat' with_reducible first|intro _|apply aI
  all_goals exact hx
 ·rw[List.take_length]
  have hx:=hloop P (Ends' fun r=>v55 r=tstr.lst P) hP (by
   have:=hbest P.length (Nat.le_refl _);rw[List.take_length]at this;rw[this];have e0:P.getD P.length ByteArray.empty=ByteArray.empty:=by rw[gE,List.getElem?_eq_none (Nat.le_refl _)];rfl
   rw[e0];have f1:(ByteArray.empty.toList==(ByteArray.mk #[]).toList)=true:=by rw[isEmpty_eq];decide
   refine WP.step ?_;simp only[T55,Go,Ends',v55,Tr.sure,SS,f1,Int.lt_irrefl];repeat' with_reducible first|intro _|apply aI
   all_goals first|exact(by exact VLe.refl _)|(simp[Go,Ends',v55,-List.getD_eq_getElem?_getD, *];done)
   all_goals trace_state)
  refine WP.step ?_;simp only[T55,Go,Ends',v55,Tr.sure,SS];repeat' with_reducible first|intro _|apply aI
  all_goals exact hx
end
noncomputable section
def shownDays(x:Body):List Int:=x.shown.map fun s=>s.day
def dayP(b:Book)(d:Nat):Bool:=hasN (marksR b) (d:Int)||(hasN (marksR b) ((d:Int)+1)||(d:Int)==364)
theorem marks_len{b:Book}(h:OkBook b):(marksR b).length<=30:=by
 have h1:=flat_le (l:=b.bodies) (f:=shownDays) (b:=3) fun x hx=>by
  obtain⟨i,hi,rfl⟩:=mem_getD zBody hx;have:=(shown_iff.1 (h.shown hi)).1;unfold shownDays;simpa using this
 have h2:=h.nb;have h3:=h.nl;have e:marksR b=0::(b.lines.map fun x=>x.day)++b.bodies.flatMap shownDays:=rfl;rw[e];simp only[List.length_append,List.length_cons,List.length_map];omega
inductive P52
 |e
 |l0 (x0_4:Int) (a0_1:List Int)
 |l1 (x1_5:Int) (a1_1:List Int)
 |l2 (x1_5:Int) (x2_6:Int) (a2_1:List Int)
 |l3 (a1_1:List Int) (x3_8:Int) (a3_2:List Int)
inductive R52
 |r0 (r0:List Int)
def T52(b:Book):P52->Tr P52 R52
 |.e=>(.wait 8 (.telb 1 1 1 (litC 1 1 [iI 0]) (rowsRev tint ([0])) (.go (.l0 0 ([0])))))
 |.l0 x0_4 a0_1=>let c1:=b.lines.getD (x0_4).toNat tLine.zero;let c2:=x0_4<(b.lines.length:Int);(.br (decide c2) (.need (decide (0<=x0_4)&&decide c2) (.need ((decide (a0_1.length=a0_1.length)&&decide (a0_1.length+1<=4294967296))&&decide (1<=1)) (.scal (fun _=>true) (.need (inR .i64 (x0_4+(1:Int))) (.telb 2 1 1 (litC 1 1 [iI (c1.day)]) (rowsRev tint ([c1.day])) (.go (.l0 (x0_4+(1:Int)) (c1.day::a0_1)))))))) (.go (.l1 0 a0_1)))
 |.l1 x1_5 a1_1=>(.br (decide (x1_5<(b.bodies.length:Int))) (.go (.l2 x1_5 0 a1_1)) (.wait 3 (.own 7 3 1 (.go (.l3 a1_1 0 ([]))))))
 |.l2 x1_5 x2_6 a2_1=>let c1:=((b.bodies.getD (x1_5).toNat tBody.zero).shown).getD (x2_6).toNat tShown.zero;let c2:=x2_6<(((b.bodies.getD (x1_5).toNat tBody.zero).shown.length):Int);let c3:=decide (0<=x1_5)&&decide (x1_5<(b.bodies.length:Int));(.need c3 (.br (decide c2) (.need c3 (.need (decide (0<=x2_6)&&decide c2) (.need ((decide (a2_1.length=a2_1.length)&&decide (a2_1.length+1<=4294967296))&&decide (1<=1)) (.scal (fun _=>true) (.need (inR .i64 (x2_6+(1:Int))) (.telb 2 1 1 (litC 1 1 [iI (c1.day)]) (rowsRev tint ([c1.day])) (.go (.l2 x1_5 (x2_6+(1:Int)) (c1.day::a2_1))))))))) (.need (inR .i64 (x1_5+(1:Int))) (.go (.l1 (x1_5+(1:Int)) a2_1)))))
 |.l3 a1_1 x3_8 a3_2=>let c2:=(decide (a3_2.length=a3_2.length)&&decide (a3_2.length+1<=4294967296))&&decide (1<=1);let c3:=x3_8+(1:Int);let c1:Tr P52 R52:=.need (inR .i64 c3) (.telb 3 1 1 (litC 1 1 [iI x3_8]) (rowsRev tint ([x3_8])) (.go (.l3 a1_1 c3 (x3_8::a3_2))));let c4:=(decide (a1_1.length<=a1_1.length))&&true;(.br (decide (x3_8<=(364:Int))) (.call 44 [.list 1 a1_1.length (rowsRev tint a1_1),iI x3_8] (.bool (hasN a1_1.reverse x3_8)) c4 true (.br (hasN a1_1.reverse x3_8) (.lit true (.lit true (.need c2 (.scal (fun _=>true) c1)))) (.need (inR .i64 c3) (.call 44 [.list 1 a1_1.length (rowsRev tint a1_1),iI c3] (.bool (hasN a1_1.reverse c3)) c4 true (.br (hasN a1_1.reverse c3) (.lit true (.need c2 (.scal (fun _=>true) c1))) (.br (x3_8==(364:Int)) (.need c2 (.scal (fun _=>true) c1)) (.need (inR .i64 c3) (.go (.l3 a1_1 c3 a3_2))))))))) (.out (.r0 a3_2)))
noncomputable def g52(b:Book):P52->List Item × St
 |.e=>bd Tryz.f52 [.agg (cC b)] 78
 |.l0 x0_4 a0_1=>(cutOf Tryz.f52 0,⟨mk 79 [(1,.ref 0 0 0),(3,.row 1 a0_1.length),(4,iI x0_4)],[.cells (cC b),.rows 3 1 a0_1.length (rowsRev tint a0_1)],[]⟩)
 |.l1 x1_5 a1_1=>(cutOf Tryz.f52 1,⟨mk 79 [(1,.ref 0 0 0),(3,.row 1 a1_1.length),(5,iI x1_5)],[.cells (cC b),.rows 3 1 a1_1.length (rowsRev tint a1_1)],[]⟩)
 |.l2 x1_5 x2_6 a2_1=>(cutOf Tryz.f52 2,⟨mk 79 [(1,.ref 0 0 0),(3,.row 1 a2_1.length),(5,iI x1_5),(6,iI x2_6)],[.cells (cC b),.rows 3 1 a2_1.length (rowsRev tint a2_1)],[]⟩)
 |.l3 a1_1 x3_8 a3_2=>(cutOf Tryz.f52 3,⟨mk 79 [(3,.row 1 a1_1.length),(7,.row 2 a3_2.length),(8,iI x3_8)],[.gone,.rows 3 1 a1_1.length (rowsRev tint a1_1),.rows 3 1 a3_2.length (rowsRev tint a3_2)],[]⟩)
def n52:R52->Exit × St
 |.r0 r0=>(.ret,⟨mk 79 [(2,.row 2 r0.length)],[.gone,.gone,.rows 3 1 r0.length (rowsRev tint r0)],[]⟩)
def v52:R52->V
 |.r0 r0=>tint.lst r0.reverse
theorem s52(b:Book):Sm 0 (g52 b) (T52 b) (n52)
 |.e=>⟨400,by kernel_rfl⟩
 |.l0 _ _=>⟨400,by kernel_rfl⟩
 |.l1 _ _=>⟨400,by kernel_rfl⟩
 |.l2 _ _ _=>⟨400,by kernel_rfl⟩
 |.l3 _ _ _=>⟨400,by kernel_rfl⟩
theorem q52:∀r,bodyQ Tryz.prog Tryz.f52 (·=v52 r) (n52 r).1 (n52 r).2
 |.r0 r0=>⟨.inr rfl,by simp[n52],(.row 2 r0.length),(tint.lst r0.reverse),by kernel_rfl,(.weak (.row rfl (Nat.le_refl _)) (VLe.rev tint r0)),rfl⟩
theorem w52(b:Book){post:V->Prop}(h:WQ (T52 b) v52 post .e):PC 52 [.agg (cC b)] post:=
 PCalls.wq Tryz.func52 (s52 b) q52 h
theorem c52(b:Book)(h:OkBook b):PC 52 [.agg (tBook.cells b)] (·=tint.lst (daysR b)):=by
 have hnb:=h.nb;have hnl:=h.nl;have hml:=marks_len h;refine w52 _ (WP.step ?_);simp only[T52,Go,Ends',v52,Tr.sure,SS];repeat' with_reducible first|intro _|apply aI
 all_goals first|exact(by with_reducible exact rev1 _ _ _ ‹_› ‹_›)|skip
 refine WP.run (fun i=>.l0 (i:Int) (0::(b.lines.take i).map fun x=>x.day).reverse) rfl b.lines.length (fun i hi=> ?_) ?_
 ·have hr:inR .i64 ((i:Int)+1)=true:=inR64 (by omega) (by omega);have hi':(i:Int)<b.lines.length:=by omega
  have hl:(0::(b.lines.take i).map fun x=>x.day).reverse.length+1<=4294967296:=by simp;omega
  have hnx:(0::(b.lines.take (i+1)).map fun x=>x.day).reverse=(b.lines.getD i zLine).day::(0::(b.lines.take i).map fun x=>x.day).reverse:=by rw[take_snoc zLine _ i hi];simp
  rw[hnx];generalize(0::(b.lines.take i).map fun x=>x.day).reverse=A at*
  refine WP.once ?_;simp only[T52,Tr.sure,SS,hi',z5];repeat' with_reducible first|intro _|apply aI
  all_goals first|exact(by with_reducible exact rev1 _ _ _ ‹_› ‹_›)|(simp[hr,hl,Go,Ends',v52,-List.getD_eq_getElem?_getD, *];done)
 refine WP.step ?_;simp only[T52,Go,Ends',v52,Tr.sure,SS,Int.lt_irrefl];repeat' with_reducible first|intro _|apply aI
 rw[List.take_length]
 have em:∀i,((0::b.lines.map fun x=>x.day)++(b.bodies.take i).flatMap shownDays).reverse.length<=30:=fun i=>by
  have h1:=flat_le (l:=b.bodies.take i) (f:=shownDays) (b:=3) fun x hx=>by
   obtain⟨k,hk,rfl⟩:=mem_getD zBody (List.mem_of_mem_take hx);have:=(shown_iff.1 (h.shown hk)).1;unfold shownDays;simpa using this
  have h2:(b.bodies.take i).length<=5:=by simp;omega
  simp only[List.length_reverse,List.length_append,List.length_cons,List.length_map];omega
 refine WP.run (fun i=>.l1 (i:Int) ((0::b.lines.map fun x=>x.day)++(b.bodies.take i).flatMap shownDays).reverse) (by simp) b.bodies.length (fun i hi=> ?_) ?_
 ·have hr:inR .i64 ((i:Int)+1)=true:=inR64 (by omega) (by omega);have hi':(i:Int)<b.bodies.length:=by omega
  have hs3:=(shown_iff.1 (h.shown hi)).1;have hl:=em i;have hnx:((0::b.lines.map fun x=>x.day)++(b.bodies.take (i+1)).flatMap shownDays).reverse=(shownDays (b.bodies.getD i zBody)).reverse++((0::b.lines.map fun x=>x.day)++(b.bodies.take i).flatMap shownDays).reverse:=by rw[take_snoc zBody _ i hi,List.flatMap_append];simp
  rw[hnx];refine WP.step ?_;simp only[T52,Go,Ends',v52,Tr.sure,SS,hi'];repeat' with_reducible first|intro _|apply aI
  generalize((0::b.lines.map fun x=>x.day)++(b.bodies.take i).flatMap shownDays).reverse=A at*
  generalize hX:b.bodies.getD i zBody=X at*
  refine WP.run (fun q=>.l2 (i:Int) (q:Int) (((X.shown.take q).map fun s=>s.day).reverse++A)) rfl X.shown.length (fun q hq=> ?_) ?_
  ·have hr2:inR .i64 ((q:Int)+1)=true:=inR64 (by omega) (by omega);have hq':(q:Int)<X.shown.length:=by omega
   have hl2:(((X.shown.take q).map fun s=>s.day).reverse++A).length+1<=4294967296:=by simp;omega
   have hnx2:((X.shown.take (q+1)).map fun s=>s.day).reverse++A=(X.shown.getD q zShown).day::(((X.shown.take q).map fun s=>s.day).reverse++A):=by rw[take_snoc zShown _ q hq];simp
   rw[hnx2];generalize((X.shown.take q).map fun s=>s.day).reverse++A=B at*
   refine WP.once ?_;simp only[T52,Tr.sure,SS,hi',hq',z2,z3,hX];repeat' with_reducible first|intro _|apply aI
   all_goals first|exact(by with_reducible exact rev1 _ _ _ ‹_› ‹_›)|(simp[hr2,hl2,Go,Ends',v52,-List.getD_eq_getElem?_getD, *];done)
  ·rw[List.take_length];have e:(X.shown.map fun s=>s.day).reverse=(shownDays X).reverse:=rfl;rw[e];refine WP.once ?_;simp only[T52,Tr.sure,SS,hi',z2,hX,Int.lt_irrefl];repeat' with_reducible first|intro _|apply aI
   all_goals simp[hr,Go,Ends',v52,-List.getD_eq_getElem?_getD, *]
 rw[List.take_length];have eM:((0::b.lines.map fun x=>x.day)++b.bodies.flatMap shownDays).reverse=(marksR b).reverse:=rfl;rw[eM];have k44:∀n,PC 44 [.list 1 (marksR b).reverse.length (rowsRev tint (marksR b).reverse),iI n] (·=.bool (hasN (marksR b).reverse.reverse n)):=fun n=>c44r _ n;refine WP.step ?_;simp only[T52,Go,Ends',v52,Tr.sure,SS,Int.lt_irrefl];repeat' with_reducible first|intro _|apply aI
 have eD:daysR b=filtTo (dayP b) 365:=rfl;rw[eD];refine WP.run (fun d=>.l3 (marksR b).reverse (d:Int) (filtTo (dayP b) d).reverse) rfl 365 (fun d hd=> ?_) ?_
 ·have hr:inR .i64 ((d:Int)+1)=true:=inR64 (by omega) (by omega);have hd':(d:Int)<=364:=by omega
  have hfl:=filtTo_len (dayP b) d;have hl:(filtTo (dayP b) d).reverse.length+1<=4294967296:=by rw[List.length_reverse];omega
  have k1:=k44 (d:Int);have k2:=k44 ((d:Int)+1);rw[List.reverse_reverse]at k1 k2;have ed:dayP b d=(hasN (marksR b) (d:Int)||(hasN (marksR b) ((d:Int)+1)||(d:Int)==364)):=rfl;rw[filtTo_next,ed];generalize(filtTo (dayP b) d).reverse=A at*
  generalize marksR b=M at*
  cases g1:hasN M (d:Int)with
  |true=>
   refine WP.once ?_;simp only[T52,Tr.sure,SS,hd',List.reverse_reverse,g1];repeat' with_reducible first|intro _|apply aI
   all_goals first|exact(by with_reducible exact rev1 _ _ _ ‹_› ‹_›)|(simp[hr,hl,Go,Ends',v52,-List.getD_eq_getElem?_getD, *];done)|(simp_all [hr,hl,Go,Ends',v52,-List.getD_eq_getElem?_getD];done)
  |false=>
   cases g2:hasN M ((d:Int)+1)with
   |true=>
    refine WP.once ?_;simp only[T52,Tr.sure,SS,hd',List.reverse_reverse,g1,g2];repeat' with_reducible first|intro _|apply aI
    all_goals first|exact(by with_reducible exact rev1 _ _ _ ‹_› ‹_›)|(simp[hr,hl,Go,Ends',v52,-List.getD_eq_getElem?_getD, *];done)|(simp_all [hr,hl,Go,Ends',v52,-List.getD_eq_getElem?_getD];done)
   |false=>
    refine WP.once ?_;simp only[T52,Tr.sure,SS,hd',List.reverse_reverse,g1,g2];repeat' with_reducible first|intro _|apply aI
    all_goals first|exact(by with_reducible exact rev1 _ _ _ ‹_› ‹_›)|(simp[hr,hl,Go,Ends',v52,-List.getD_eq_getElem?_getD, *];done)|(simp_all [hr,hl,Go,Ends',v52,-List.getD_eq_getElem?_getD];done)
 ·have hno:¬((365:Nat):Int)<=364:=by omega
  refine WP.step ?_;simp only[T52,Go,Ends',v52,Tr.sure,SS,hno,List.reverse_reverse];repeat' with_reducible first|intro _|apply aI
theorem filt_next{τ:Type}(d:τ)(p:τ->Bool)(l:List τ)(i:Nat)(hi:i<l.length):((l.take (i+1)).filter p).reverse=if p (l.getD i d)=true then l.getD i d::((l.take i).filter p).reverse else((l.take i).filter p).reverse:=by
 rw[take_snoc d l i hi,List.filter_append,List.reverse_append];generalize l.getD i d=x
 by_cases h:p x=true
 ·simp[h]
 ·simp[h]
theorem filt_len{τ:Type}(p:τ->Bool)(l:List τ)(i:Nat):((l.take i).filter p).reverse.length<=l.length:=by
 rw[List.length_reverse];exact Nat.le_trans (List.length_filter_le _ _) (by rw[List.length_take];omega)
inductive P30
 |e
 |l0 (x0_12:Int) (a0_2:List ByteArray)
 |l1 (x0_12:Int) (a0_2:List ByteArray) (x1_13:Bool) (x1_14:Int)
inductive R30
 |r0 (r1:Int)
 |r1 (r0:List ByteArray) (r1:Int)
def T30(b:Book)(head:Int)(day:Int):P30->Tr P30 R30
 |.e=>let c1:=toldR b ([head]:List Int) day;(.wait 4 (.frz 1 ((decide (1<=1))&&true) (.wait 0 (.vle 18 (.list 1 1 (litC 1 1 [iI head])) (tint.lst ([head]:List Int)) (.call 76 [.agg (cC b),tint.lst ([head]:List Int),iI day] (.tuple [tTruth.lst (c1.1),iI (c1.2)]) true true (.br (c1.2 !=(0:Int)) (.out (.r0 (c1.2))) (.wait 3 (.own 10 9 1 (.call 55 [.agg (cC b)] (tstr.lst (personsR b)) true true (.go (.l0 0 ([]))))))))))))
 |.l0 x0_12 a0_2=>(.br (decide (x0_12<(((personsR b).length):Int))) (.go (.l1 x0_12 a0_2 false 0)) (.out (.r1 a0_2 0)))
 |.l1 x0_12 a0_2 x1_13 x1_14=>let c1:=((toldR b ([head]:List Int) day).1).getD (x1_14).toNat tTruth.zero;let c2:=decide (0<=x0_12)&&decide (x0_12<(((personsR b).length):Int));let c3:=x1_14<(((toldR b ([head]:List Int) day).1.length):Int);let c4:=x1_14+(1:Int);let c5:=x0_12+(1:Int);let c6:=(personsR b).getD (x0_12).toNat tstr.zero;(.br (decide c3) (.br x1_13 (.front [] [(1,true)] (((x1_13==true)&&true)&&true) true (.lit true (.need (inR .i64 c4) (.go (.l1 x0_12 a0_2 true c4))))) (.front [(9,54,[.agg (cC b),.agg [tPair.lst (c1.pairs),(tlist tint).lst (c1.haves)],iI head,iI day],.str (seenR b c1 head day))] [(1,false)] (((x1_13==false)&&((decide (0<=x1_14)&&decide c3)&&(c2&&true)))&&true) true (.lit false (.need (inR .i64 c4) (.go (.l1 x0_12 a0_2 ((seenR b c1 head day).toList==c6.toList) c4)))))) (.br x1_13 (.need c2 (.need ((decide (a0_2.length=a0_2.length)&&decide (a0_2.length+1<=4294967296))&&decide (1<=1)) (.scal (fun _=>true) (.need (inR .i64 c5) (.go (.l0 c5 (c6::a0_2))))))) (.need (inR .i64 c5) (.go (.l0 c5 a0_2)))))
noncomputable def g30(b:Book)(head:Int)(day:Int):P30->List Item × St
 |.e=>bd Tryz.f30 [.agg (cC b),iI head,iI day] 62
 |.l0 x0_12 a0_2=>(cutOf Tryz.f30 0,⟨mk 65 [(1,iI head),(2,iI day),(3,.ref 0 0 0),(8,tTruth.lst ((toldR b ([head]:List Int) day).1)),(10,.row 2 a0_2.length),(11,tstr.lst (personsR b)),(12,iI x0_12)],[.cells (cC b),.gone,.rows 9 1 a0_2.length (rowsRev tstr a0_2)],[]⟩)
 |.l1 x0_12 a0_2 x1_13 x1_14=>(cutOf Tryz.f30 1,⟨mk 65 [(1,iI head),(2,iI day),(3,.ref 0 0 0),(8,tTruth.lst ((toldR b ([head]:List Int) day).1)),(10,.row 2 a0_2.length),(11,tstr.lst (personsR b)),(12,iI x0_12),(13,.bool x1_13),(14,iI x1_14)],[.cells (cC b),.gone,.rows 9 1 a0_2.length (rowsRev tstr a0_2)],[]⟩)
def n30:R30->Exit × St
 |.r0 r1=>(.ret,⟨mk 65 [(6,.nils),(7,iI r1)],[],[]⟩)
 |.r1 r0 r1=>(.ret,⟨mk 65 [(6,.row 2 r0.length),(7,iI r1)],[.gone,.gone,.rows 9 1 r0.length (rowsRev tstr r0)],[]⟩)
def v30:R30->V
 |.r0 r1=>.tuple [tstr.lst ([]:List ByteArray),iI r1]
 |.r1 r0 r1=>.tuple [tstr.lst r0.reverse,iI r1]
theorem s30(b:Book)(head:Int)(day:Int):Sm 0 (g30 b head day) (T30 b head day) (n30)
 |.e=>⟨400,by kernel_rfl⟩
 |.l0 _ _=>⟨400,by kernel_rfl⟩
 |.l1 _ _ _ _=>⟨400,by kernel_rfl⟩
theorem q30:∀r,bodyQ Tryz.prog Tryz.f30 (·=v30 r) (n30 r).1 (n30 r).2
 |.r0 r1=>⟨.inr rfl,by simp[n30],(.tuple [.nils,iI r1]),(.tuple [tstr.lst ([]:List ByteArray),iI r1]),by kernel_rfl,(.tuple rfl fun j hj=>match j,hj with|0,_=>.weak (.imm rfl) VLe.nils|1,_=>.imm rfl),rfl⟩
 |.r1 r0 r1=>⟨.inr rfl,by simp[n30],(.tuple [.row 2 r0.length,iI r1]),(.tuple [tstr.lst r0.reverse,iI r1]),by kernel_rfl,(.tuple rfl fun j hj=>match j,hj with|0,_=>.weak (.row rfl (Nat.le_refl _)) (VLe.rev tstr r0)|1,_=>.imm rfl),rfl⟩
theorem w30(b:Book)(head:Int)(day:Int){post:V->Prop}(h:WQ (T30 b head day) v30 post .e):PC 30 [.agg (cC b),iI head,iI day] post:=
 PCalls.wq Tryz.func30 (s30 b head day) q30 h
theorem c30(b:Book)(head day:Int):PC 30 [.agg (tBook.cells b),iI head,iI day] (·=.tuple [tstr.lst (asR b head day).1,iI (asR b head day).2]):=by
 have k76:=c76 b [head] day;by_cases h:(toldR b [head] day).2=0
 ·obtain⟨h1,h2,h3,h4,h5⟩:=told_ok h;have hh:=h2 head (by simp);have e:asR b head day=((personsR b).filter (fun s=>(truthsR b []).any fun t=>same (seenR b t head day) s),0):=by unfold asR;rw[if_neg (fun q=>q h)]
  have hT:∀t∈truthsR b [],TrueOf b t:=fun t ht=>trueOf h1 ht;have hlen:=truths_len8 h1 [];have hpl:=persons_len h1;have k55:=c55 b h1;rw[h,h5]at k76;generalize hL:truthsR b []=L at*
  generalize hP:personsR b=P at*
  have hmain:WP Tryz.prog ⟨none,0⟩ (T30 b head day) (Ends' fun r=>v30 r=.tuple [tstr.lst (P.filter (fun s=>L.any fun t=>same (seenR b t head day) s)),iI 0]) (.l0 0 []):=by
   refine WP.run (fun i=>.l0 (i:Int) ((P.take i).filter (fun s=>L.any fun t=>same (seenR b t head day) s)).reverse) (by simp) P.length (fun i hi=> ?_) ?_
   ·have hr:inR .i64 ((i:Int)+1)=true:=inR64 (by omega) (by omega);have hi':(i:Int)<P.length:=by omega
    have hl:=filt_len (fun s=>L.any fun t=>same (seenR b t head day) s) P i;have hl2:((P.take i).filter (fun s=>L.any fun t=>same (seenR b t head day) s)).reverse.length+1<=4294967296:=by omega
    rw[filt_next ByteArray.empty _ P i hi];generalize((P.take i).filter (fun s=>L.any fun t=>same (seenR b t head day) s)).reverse=acc at*
    refine WP.step ?_;simp only[T30,Go,Ends',v30,Tr.sure,SS,hi',hP];repeat' with_reducible first|intro _|apply aI
    generalize hs:P.getD i ByteArray.empty=s at*
    refine WP.run (fun k=>.l1 (i:Int) acc ((L.take k).any fun t=>same (seenR b t head day) s) (k:Int)) rfl L.length (fun k hk=> ?_) ?_
    ·have hr2:inR .i64 ((k:Int)+1)=true:=inR64 (by omega) (by omega);have hk':(k:Int)<L.length:=by omega
     have hTk:=hT _ (getD_mem zTruth L k hk);have k54:=c54 b (L.getD k zTruth) head day h1 hTk hh;have es:same (seenR b (L.getD k zTruth) head day) s=((seenR b (L.getD k zTruth) head day).toList==s.toList):=rfl;rw[any_take zTruth _ L k hk,es];generalize((L.take k).any fun t=>same (seenR b t head day) s)=A at*
     cases A with
     |true=>
      refine WP.once ?_;simp only[T30,Tr.sure,SS,hk',hi',h5,z10,z12,hP,hs];repeat' with_reducible first|intro _|apply aI
      all_goals simp[hr2,Go,Ends',v30,-List.getD_eq_getElem?_getD, *]
     |false=>
      refine WP.once ?_;simp only[T30,Tr.sure,SS,hk',hi',h5,z10,z12,hP,hs];repeat' with_reducible first|intro _|apply aI
      all_goals first|exact k54|(simp[hr2,Go,Ends',v30,-List.getD_eq_getElem?_getD, *];done)
    ·rw[List.take_length]
     cases hA:(L.any fun t=>same (seenR b t head day) s)with
     |true=>
      refine WP.once ?_;simp only[T30,Tr.sure,SS,h5,Int.lt_irrefl,hP,hi',z12,hs];repeat' with_reducible first|intro _|apply aI
      all_goals simp[hr,hl2,Go,Ends',v30,-List.getD_eq_getElem?_getD, *]
     |false=>
      refine WP.once ?_;simp only[T30,Tr.sure,SS,h5,Int.lt_irrefl,hP,hi',z12,hs];repeat' with_reducible first|intro _|apply aI
      all_goals simp[hr,hl2,Go,Ends',v30,-List.getD_eq_getElem?_getD, *]
   ·rw[List.take_length];refine WP.step ?_;simp only[T30,Go,Ends',v30,Tr.sure,SS,Int.lt_irrefl,List.reverse_reverse,hP];repeat' with_reducible first|intro _|apply aI
  rw[e];refine w30 _ _ _ (WP.step ?_);simp only[T30,Go,Ends',v30,Tr.sure,SS,h,h5,hP];repeat' with_reducible first|intro _|apply aI
  all_goals first|exact k76|exact k55|exact hmain|exact(by with_reducible exact lit_int1 _)|(simp[h,Go,Ends',v30,-List.getD_eq_getElem?_getD, *];done)
 ·have e:asR b head day=([],(toldR b [head] day).2):=by unfold asR;rw[if_pos h]
  rw[e];refine w30 _ _ _ (WP.step ?_);simp only[T30,Go,Ends',v30,Tr.sure,SS];repeat' with_reducible first|intro _|apply aI
  all_goals first|exact k76|exact(by with_reducible exact lit_int1 _)|(simp[h,Go,Ends',v30,-List.getD_eq_getElem?_getD, *];done)|(simp_all [h,Go,Ends',v30,-List.getD_eq_getElem?_getD];done)
theorem many_take(b:Book)(L:List Truth)(head:Int)(s:ByteArray)(k:Nat)(hk:k<L.length):manyS b (L.take (k+1)) head s=if shownR b (L.getD k zTruth) head s (daysR b)=true then manyS b (L.take k) head s+1 else manyS b (L.take k) head s:=by
 unfold manyS;rw[take_snoc zTruth L k hk,List.filter_append,List.length_append];generalize L.getD k zTruth=x
 by_cases h:shownR b x head s (daysR b)=true
 ·simp[h]
 ·simp[h]
theorem many_le(b:Book)(L:List Truth)(head:Int)(s:ByteArray):manyS b L head s<=L.length:=List.length_filter_le _ _
inductive P33
 |e
 |l0 (x0_13:Int) (a0_2:List ByteArray) (a0_3:List ByteArray)
 |l1 (x0_13:Int) (a0_2:List ByteArray) (a0_3:List ByteArray) (x1_14:Int) (x1_15:Int)
inductive R33
 |r0 (r2:Int)
 |r1 (r0:List ByteArray) (r1:List ByteArray) (r2:Int)
def T33(b:Book)(head:Int):P33->Tr P33 R33
 |.e=>let c1:=toldR b ([head]:List Int) 0;(.wait 4 (.frz 1 ((decide (1<=1))&&true) (.wait 0 (.vle 19 (.list 1 1 (litC 1 1 [iI head])) (tint.lst ([head]:List Int)) (.call 76 [.agg (cC b),tint.lst ([head]:List Int),iI 0] (.tuple [tTruth.lst (c1.1),iI (c1.2)]) true true (.br (c1.2 !=(0:Int)) (.out (.r0 (c1.2))) (.wait 3 (.own 9 9 1 (.own 10 9 1 (.front [(1,55,[.agg (cC b)],tstr.lst (personsR b))] [] true true (.call 52 [.agg (cC b)] (tint.lst (daysR b)) true true (.go (.l0 0 ([]) ([]))))))))))))))
 |.l0 x0_13 a0_2 a0_3=>(.br (decide (x0_13<(((personsR b).length):Int))) (.go (.l1 x0_13 a0_2 a0_3 0 0)) (.out (.r1 a0_2 a0_3 0)))
 |.l1 x0_13 a0_2 a0_3 x1_14 x1_15=>let c1:=(personsR b).getD (x0_13).toNat tstr.zero;let c2:=decide (0<=x0_13)&&decide (x0_13<(((personsR b).length):Int));let c3:=((toldR b ([head]:List Int) 0).1).getD (x1_15).toNat tTruth.zero;let c4:=x0_13+(1:Int);let c5:=(decide (a0_3.length=a0_3.length)&&decide (a0_3.length+1<=4294967296))&&decide (1<=1);let c6:=(((toldR b ([head]:List Int) 0).1.length):Int);let c7:=x1_15+(1:Int);let c8:=inR .i64 c4;let c9:=shownR b c3 head c1 (daysR b);let c10:=decide (x1_14>(0:Int));(.br (decide (x1_15<c6)) (.front [] [] (((decide (0<=x1_15)&&decide (x1_15<c6))&&(c2&&true))&&true) true (.call 53 [.agg (cC b),.agg [tPair.lst (c3.pairs),(tlist tint).lst (c3.haves)],iI head,.str c1,tint.lst (daysR b)] (.bool c9) true true (.br c9 (.need (inR .i64 (x1_14+(1:Int))) (.need (inR .i64 c7) (.go (.l1 x0_13 a0_2 a0_3 (x1_14+(1:Int)) c7)))) (.need (inR .i64 c7) (.go (.l1 x0_13 a0_2 a0_3 x1_14 c7)))))) (.br (x1_14==c6) (.need c2 (.need ((decide (a0_2.length=a0_2.length)&&decide (a0_2.length+1<=4294967296))&&decide (1<=1)) (.scal (fun _=>true) (.br c10 (.need c2 (.need c5 (.scal (fun _=>true) (.need c8 (.go (.l0 c4 (c1::a0_2) (c1::a0_3))))))) (.need c8 (.go (.l0 c4 (c1::a0_2) a0_3))))))) (.br c10 (.need c2 (.need c5 (.scal (fun _=>true) (.need c8 (.go (.l0 c4 a0_2 (c1::a0_3))))))) (.need c8 (.go (.l0 c4 a0_2 a0_3))))))
noncomputable def g33(b:Book)(head:Int):P33->List Item × St
 |.e=>bd Tryz.f33 [.agg (cC b),iI head] 76
 |.l0 x0_13 a0_2 a0_3=>(cutOf Tryz.f33 0,⟨mk 78 [(1,iI head),(2,.ref 0 0 0),(7,tTruth.lst ((toldR b ([head]:List Int) 0).1)),(9,.row 2 a0_2.length),(10,.row 3 a0_3.length),(11,tstr.lst (personsR b)),(12,tint.lst (daysR b)),(13,iI x0_13)],[.cells (cC b),.gone,.rows 9 1 a0_2.length (rowsRev tstr a0_2),.rows 9 1 a0_3.length (rowsRev tstr a0_3)],[]⟩)
 |.l1 x0_13 a0_2 a0_3 x1_14 x1_15=>(cutOf Tryz.f33 1,⟨mk 78 [(1,iI head),(2,.ref 0 0 0),(7,tTruth.lst ((toldR b ([head]:List Int) 0).1)),(9,.row 2 a0_2.length),(10,.row 3 a0_3.length),(11,tstr.lst (personsR b)),(12,tint.lst (daysR b)),(13,iI x0_13),(14,iI x1_14),(15,iI x1_15)],[.cells (cC b),.gone,.rows 9 1 a0_2.length (rowsRev tstr a0_2),.rows 9 1 a0_3.length (rowsRev tstr a0_3)],[]⟩)
def n33:R33->Exit × St
 |.r0 r2=>(.ret,⟨mk 78 [(4,.nils),(5,.nils),(6,iI r2)],[],[]⟩)
 |.r1 r0 r1 r2=>(.ret,⟨mk 78 [(4,.row 2 r0.length),(5,.row 3 r1.length),(6,iI r2)],[.gone,.gone,.rows 9 1 r0.length (rowsRev tstr r0),.rows 9 1 r1.length (rowsRev tstr r1)],[]⟩)
def v33:R33->V
 |.r0 r2=>.tuple [tstr.lst ([]:List ByteArray),tstr.lst ([]:List ByteArray),iI r2]
 |.r1 r0 r1 r2=>.tuple [tstr.lst r0.reverse,tstr.lst r1.reverse,iI r2]
theorem s33(b:Book)(head:Int):Sm 0 (g33 b head) (T33 b head) (n33)
 |.e=>⟨400,by kernel_rfl⟩
 |.l0 _ _ _=>⟨400,by kernel_rfl⟩
 |.l1 _ _ _ _ _=>⟨400,by kernel_rfl⟩
theorem q33:∀r,bodyQ Tryz.prog Tryz.f33 (·=v33 r) (n33 r).1 (n33 r).2
 |.r0 r2=>⟨.inr rfl,by simp[n33],(.tuple [.nils,.nils,iI r2]),(.tuple [tstr.lst ([]:List ByteArray),tstr.lst ([]:List ByteArray),iI r2]),by kernel_rfl,(.tuple rfl fun j hj=>match j,hj with|0,_=>.weak (.imm rfl) VLe.nils|1,_=>.weak (.imm rfl) VLe.nils|2,_=>.imm rfl),rfl⟩
 |.r1 r0 r1 r2=>⟨.inr rfl,by simp[n33],(.tuple [.row 2 r0.length,.row 3 r1.length,iI r2]),(.tuple [tstr.lst r0.reverse,tstr.lst r1.reverse,iI r2]),by kernel_rfl,(.tuple rfl fun j hj=>match j,hj with|0,_=>.weak (.row rfl (Nat.le_refl _)) (VLe.rev tstr r0)|1,_=>.weak (.row rfl (Nat.le_refl _)) (VLe.rev tstr r1)|2,_=>.imm rfl),rfl⟩
theorem w33(b:Book)(head:Int){post:V->Prop}(h:WQ (T33 b head) v33 post .e):PC 33 [.agg (cC b),iI head] post:=
 PCalls.wq Tryz.func33 (s33 b head) q33 h
theorem c33(b:Book)(head:Int):PC 33 [.agg (tBook.cells b),iI head] (·=.tuple [tstr.lst (everR b head).1,tstr.lst (everR b head).2.1,iI (everR b head).2.2]):=by
 have k76:=c76 b [head] 0;by_cases h:(toldR b [head] 0).2=0
 ·obtain⟨h1,h2,h3,h4,h5⟩:=told_ok h;have hh:=h2 head (by simp);have e:everR b head=((personsR b).filter (fun s=>manyS b (truthsR b []) head s==(truthsR b []).length),(personsR b).filter (fun s=>decide (0<manyS b (truthsR b []) head s)),0):=by unfold everR;rw[if_neg (fun q=>q h)]
  have hT:∀t∈truthsR b [],TrueOf b t:=fun t ht=>trueOf h1 ht;have hlen:=truths_len8 h1 [];have hpl:=persons_len h1;have k55:=c55 b h1;have k52:=c52 b h1;rw[h,h5]at k76;generalize hL:truthsR b []=L at*
  generalize hP:personsR b=P at*
  have hmain:WP Tryz.prog ⟨none,0⟩ (T33 b head) (Ends' fun r=>v33 r=.tuple [tstr.lst (P.filter (fun s=>manyS b L head s==L.length)),tstr.lst (P.filter (fun s=>decide (0<manyS b L head s))),iI 0]) (.l0 0 [] []):=by
   refine WP.run (fun i=>.l0 (i:Int) ((P.take i).filter (fun s=>manyS b L head s==L.length)).reverse ((P.take i).filter (fun s=>decide (0<manyS b L head s))).reverse) (by simp) P.length (fun i hi=> ?_) ?_
   ·have hr:inR .i64 ((i:Int)+1)=true:=inR64 (by omega) (by omega);have hi':(i:Int)<P.length:=by omega
    have hla:=filt_len (fun s=>manyS b L head s==L.length) P i;have hlb:=filt_len (fun s=>decide (0<manyS b L head s)) P i;have hl2:((P.take i).filter (fun s=>manyS b L head s==L.length)).reverse.length+1<=4294967296:=by omega
    have hl3:((P.take i).filter (fun s=>decide (0<manyS b L head s))).reverse.length+1<=4294967296:=by omega
    rw[filt_next ByteArray.empty _ P i hi,filt_next ByteArray.empty (fun s=>decide (0<manyS b L head s)) P i hi];generalize((P.take i).filter (fun s=>manyS b L head s==L.length)).reverse=acc at*
    generalize((P.take i).filter (fun s=>decide (0<manyS b L head s))).reverse=acc2 at*
    refine WP.step ?_;simp only[T33,Go,Ends',v33,Tr.sure,SS,hi',hP];repeat' with_reducible first|intro _|apply aI
    generalize hs:P.getD i ByteArray.empty=s at*
    refine WP.run (fun k=>.l1 (i:Int) acc acc2 (manyS b (L.take k) head s:Int) (k:Int)) rfl L.length (fun k hk=> ?_) ?_
    ·have hr2:inR .i64 ((k:Int)+1)=true:=inR64 (by omega) (by omega);have hk':(k:Int)<L.length:=by omega
     have hTk:=hT _ (getD_mem zTruth L k hk);have k53:=c53 b (L.getD k zTruth) head s (daysR b) h1 hTk hh;have hml:=many_le b (L.take k) head s;rw[List.length_take]at hml;have hr3:inR .i64 ((manyS b (L.take k) head s:Int)+1)=true:=inR64 (by omega) (by omega);rw[many_take b L head s k hk];generalize manyS b (L.take k) head s=A at*
     cases g:shownR b (L.getD k zTruth) head s (daysR b)with
     |true=>
      rw[g]at k53;refine WP.once ?_;simp only[T33,Tr.sure,SS,hk',hi',h5,z10,z12,hP,hs,g];repeat' with_reducible first|intro _|apply aI
      all_goals first|exact k53|(simp[hr2,hr3,Go,Ends',v33,-List.getD_eq_getElem?_getD, *];done)
     |false=>
      rw[g]at k53;refine WP.once ?_;simp only[T33,Tr.sure,SS,hk',hi',h5,z10,z12,hP,hs,g];repeat' with_reducible first|intro _|apply aI
      all_goals first|exact k53|(simp[hr2,hr3,Go,Ends',v33,-List.getD_eq_getElem?_getD, *];done)
    ·rw[List.take_length];generalize manyS b L head s=A at*
     by_cases g1:A=L.length
     ·have g1':((A:Int)==(L.length:Int))=true:=by simp[g1]
      have g2:(0:Int)<(A:Int):=by omega
      have g3:0<A:=by omega
      refine WP.once ?_;simp only[T33,Tr.sure,SS,h5,Int.lt_irrefl,hP,hi',z12,hs,g1',g2];repeat' with_reducible first|intro _|apply aI
      all_goals simp[hr,hl2,hl3,g1,g3,Go,Ends',v33,-List.getD_eq_getElem?_getD, *]
     ·have g1':((A:Int)==(L.length:Int))=false:=by simp;omega
      by_cases g3:0<A
      ·have g2:(0:Int)<(A:Int):=by omega
       refine WP.once ?_;simp only[T33,Tr.sure,SS,h5,Int.lt_irrefl,hP,hi',z12,hs,g1',g2];repeat' with_reducible first|intro _|apply aI
       all_goals simp[hr,hl2,hl3,g1,g3,Go,Ends',v33,-List.getD_eq_getElem?_getD, *]
      ·have g2:¬(0:Int)<(A:Int):=by omega
       refine WP.once ?_;simp only[T33,Tr.sure,SS,h5,Int.lt_irrefl,hP,hi',z12,hs,g1',g2];repeat' with_reducible first|intro _|apply aI
       all_goals simp[hr,hl2,hl3,g1,g3,Go,Ends',v33,-List.getD_eq_getElem?_getD, *]
   ·rw[List.take_length];refine WP.step ?_;simp only[T33,Go,Ends',v33,Tr.sure,SS,Int.lt_irrefl,List.reverse_reverse,hP];repeat' with_reducible first|intro _|apply aI
  rw[e];refine w33 _ _ (WP.step ?_);simp only[T33,Go,Ends',v33,Tr.sure,SS,h,h5,hP];repeat' with_reducible first|intro _|apply aI
  all_goals first|exact k76|exact k55|exact k52|exact hmain|exact(by with_reducible exact lit_int1 _)|(simp[h,Go,Ends',v33,-List.getD_eq_getElem?_getD, *];done)
 ·have e:everR b head=([],[],(toldR b [head] 0).2):=by unfold everR;rw[if_pos h]
  rw[e];refine w33 _ _ (WP.step ?_);simp only[T33,Go,Ends',v33,Tr.sure,SS];repeat' with_reducible first|intro _|apply aI
  all_goals first|exact k76|exact(by with_reducible exact lit_int1 _)|(simp[h,Go,Ends',v33,-List.getD_eq_getElem?_getD, *];done)|(simp_all [h,Go,Ends',v33,-List.getD_eq_getElem?_getD];done)
end
noncomputable section
theorem meet_meet(s:Span){d:Int}(hd:0<=d):meetS (meetS s d) d=meetS s d:=by
 unfold meetS;by_cases h:s.lo<0
 ·simp[h]
 ·simp[h]
theorem days_len(b:Book):(daysR b).length<=365:=by
 unfold daysR;rw[List.length_map];exact Nat.le_trans (List.length_filter_le _ _) (by simp)
inductive P35
 |e
 |l0 (x0_12:Int) (c0_3_0:Int) (c0_3_1:Int)
 |l1 (x0_12:Int) (x1_13:Int) (c1_3_0:Int) (c1_3_1:Int)
inductive R35
 |r0 (r0_0:Int) (r0_1:Int) (r1:Int)
def T35(b:Book)(head:Int)(as_:ByteArray):P35->Tr P35 R35
 |.e=>let c2:=([head]:List Int);let c1:Tr P35 R35:=.br ((toldR b c2 0).2 !=(0:Int)) (.out (.r0 0 0 ((toldR b c2 0).2))) (.call 52 [.agg (cC b)] (tint.lst (daysR b)) true true (.go (.l0 0 (-1) 0)));(.wait 4 (.frz 2 ((decide (1<=1))&&true) (.wait 0 (.vle 17 (.list 1 1 (litC 1 1 [iI head])) (tint.lst c2) (.call 76 [.agg (cC b),tint.lst c2,iI 0] (.tuple [tTruth.lst ((toldR b c2 0).1),iI ((toldR b c2 0).2)]) true true (.br ((toldR b c2 0).2==(0:Int)) (.call 87 [.str as_] (.bool (nameOk as_)) true true (.br (!(nameOk as_)) (.br ((6:Int) !=(0:Int)) (.out (.r0 0 0 6)) (.call 52 [.agg (cC b)] (tint.lst (daysR b)) true true (.go (.l0 0 (-1) 0)))) c1)) (.lit false c1)))))))
 |.l0 x0_12 c0_3_0 c0_3_1=>(.br (decide (x0_12<(((daysR b).length):Int))) (.go (.l1 x0_12 0 c0_3_0 c0_3_1)) (.br (decide (c0_3_0<(0:Int))) (.out (.r0 0 0 4)) (.out (.r0 c0_3_0 c0_3_1 0))))
 |.l1 x0_12 x1_13 c1_3_0 c1_3_1=>let c1:=((toldR b ([head]:List Int) 0).1).getD (x1_13).toNat tTruth.zero;let c2:=decide (0<=x0_12)&&decide (x0_12<(((daysR b).length):Int));let c3:=(daysR b).getD (x0_12).toNat tint.zero;let c4:=x1_13+(1:Int);let c5:=x1_13<(((toldR b ([head]:List Int) 0).1.length):Int);(.br (decide c5) (.front [(10,54,[.agg (cC b),.agg [tPair.lst (c1.pairs),(tlist tint).lst (c1.haves)],iI head,iI c3],.str (seenR b c1 head c3))] [] (((decide (0<=x1_13)&&decide c5)&&(c2&&true))&&true) true (.br (!((seenR b c1 head c3).toList==as_.toList)) (.need (inR .i64 c4) (.go (.l1 x0_12 c4 c1_3_0 c1_3_1))) (.br (decide (c1_3_0<(0:Int))) (.need c2 (.need c2 (.need (inR .i64 c4) (.go (.l1 x0_12 c4 c3 c3))))) (.need c2 (.need (inR .i64 c4) (.go (.l1 x0_12 c4 c1_3_0 c3))))))) (.need (inR .i64 (x0_12+(1:Int))) (.go (.l0 (x0_12+(1:Int)) c1_3_0 c1_3_1))))
noncomputable def g35(b:Book)(head:Int)(as_:ByteArray):P35->List Item × St
 |.e=>bd Tryz.f35 [.agg (cC b),iI head,.str as_] 75
 |.l0 x0_12 c0_3_0 c0_3_1=>(cutOf Tryz.f35 0,⟨mk 78 [(1,iI head),(2,.str as_),(3,.ref 0 0 0),(6,.ref 1 0 0),(8,tTruth.lst ((toldR b ([head]:List Int) 0).1)),(10,tint.lst (daysR b)),(11,.ref 3 0 0),(12,iI x0_12)],[.cells (cC b),.cells [iI 0,iI 0],.gone,.cells [iI c0_3_0,iI c0_3_1]],[]⟩)
 |.l1 x0_12 x1_13 c1_3_0 c1_3_1=>(cutOf Tryz.f35 1,⟨mk 78 [(1,iI head),(2,.str as_),(3,.ref 0 0 0),(6,.ref 1 0 0),(8,tTruth.lst ((toldR b ([head]:List Int) 0).1)),(10,tint.lst (daysR b)),(11,.ref 3 0 0),(12,iI x0_12),(13,iI x1_13)],[.cells (cC b),.cells [iI 0,iI 0],.gone,.cells [iI c1_3_0,iI c1_3_1]],[]⟩)
def n35:R35->Exit × St
 |.r0 r0_0 r0_1 r1=>(.ret,⟨mk 78 [(6,.ref 1 0 0),(7,iI r1)],[.gone,.cells [iI r0_0,iI r0_1]],[]⟩)
def v35:R35->V
 |.r0 r0_0 r0_1 r1=>.tuple [.agg [iI r0_0,iI r0_1],iI r1]
theorem s35(b:Book)(head:Int)(as_:ByteArray):Sm 0 (g35 b head as_) (T35 b head as_) (n35)
 |.e=>⟨400,by kernel_rfl⟩
 |.l0 _ _ _=>⟨400,by kernel_rfl⟩
 |.l1 _ _ _ _=>⟨400,by kernel_rfl⟩
theorem q35:∀r,bodyQ Tryz.prog Tryz.f35 (·=v35 r) (n35 r).1 (n35 r).2
 |.r0 r0_0 r0_1 r1=>bq (.tuple [.agg [iI r0_0,iI r0_1],iI r1]) (by kernel_rfl)
theorem w35(b:Book)(head:Int)(as_:ByteArray){post:V->Prop}(h:WQ (T35 b head as_) v35 post .e):PC 35 [.agg (cC b),iI head,.str as_] post:=
 PCalls.wq Tryz.func35 (s35 b head as_) q35 h
theorem c35(b:Book)(head:Int)(as_:ByteArray):PC 35 [.agg (tBook.cells b),iI head,.str as_] (·=.tuple [.agg (tSpan.cells (betweenR b head as_).1),iI (betweenR b head as_).2]):=by
 have k76:=c76 b [head] 0;by_cases h:(toldR b [head] 0).2=0
 ·cases hn:nameOk as_ with
  |false=>
   have e:betweenR b head as_=(zSpan,6):=by unfold betweenR;rw[if_neg (fun q=>q h),if_pos hn]
   have k87:=c87 as_;rw[hn]at k87;rw[e];rw[h]at k76;refine w35 _ _ _ (WP.step ?_);simp only[T35,Go,Ends',v35,Tr.sure,SS,h,hn];repeat' with_reducible first|intro _|apply aI
   all_goals first|exact k76|exact k87|exact(by with_reducible exact lit_int1 _)|(simp[h,hn,tSpan,zSpan,Go,Ends',v35,-List.getD_eq_getElem?_getD, *];done)|(simp_all [h,hn,tSpan,zSpan,Go,Ends',v35,-List.getD_eq_getElem?_getD];done)
  |true=>
   obtain⟨h1,h2,h3,h4,h5⟩:=told_ok h;have hh:=h2 head (by simp);have k87:=c87 as_;have hT:∀t∈truthsR b [],TrueOf b t:=fun t ht=>trueOf h1 ht;have hlen:=truths_len8 h1 [];have k52:=c52 b h1;have e:betweenR b head as_=if(spanOf b (truthsR b []) head as_).lo<0 then(zSpan,4)else(spanOf b (truthsR b []) head as_,0):=by unfold betweenR;rw[if_neg (fun q=>q h),if_neg (by rw[hn];decide)]
   rw[h,h5]at k76;rw[hn]at k87;generalize hL:truthsR b []=L at*
   have hdl:=days_len b;have hdi:=fun i (hi:i<(daysR b).length)=>days_in (getD_mem 0 _ i hi)
   have hmain:WP Tryz.prog ⟨none,0⟩ (T35 b head as_) (Ends' fun r=>v35 r=.tuple [.agg (tSpan.cells (betweenR b head as_).1),iI (betweenR b head as_).2]) (.l0 0 (-1) 0):=by
    unfold spanOf at e;generalize hD:daysR b=D at*
    refine WP.run (fun i=>.l0 (i:Int) ((D.take i).foldl (spanG b L head as_) ⟨-1,0⟩).lo ((D.take i).foldl (spanG b L head as_) ⟨-1,0⟩).hi) rfl D.length (fun i hi=> ?_) ?_
    ·have hr:inR .i64 ((i:Int)+1)=true:=inR64 (by omega) (by omega);have hi':(i:Int)<D.length:=by omega
     have hd:=hdi i hi;rw[foldl_take _ _ 0 D i hi];generalize(D.take i).foldl (spanG b L head as_) ⟨-1,0⟩=s at*
     refine WP.step ?_;simp only[T35,Go,Ends',v35,Tr.sure,SS,hi',hD];repeat' with_reducible first|intro _|apply aI
     refine WP.run (fun k=>.l1 (i:Int) (k:Int) (if(L.take k).any (fun t=>same (seenR b t head (D.getD i 0)) as_)=true then meetS s (D.getD i 0)else s).lo (if(L.take k).any (fun t=>same (seenR b t head (D.getD i 0)) as_)=true then meetS s (D.getD i 0)else s).hi) rfl L.length (fun k hk=> ?_) ?_
     ·have hr2:inR .i64 ((k:Int)+1)=true:=inR64 (by omega) (by omega);have hk':(k:Int)<L.length:=by omega
      have hTk:=hT _ (getD_mem zTruth L k hk);have k54:=c54 b (L.getD k zTruth) head (D.getD i 0) h1 hTk hh;have es:same (seenR b (L.getD k zTruth) head (D.getD i 0)) as_=((seenR b (L.getD k zTruth) head (D.getD i 0)).toList==as_.toList):=rfl;rw[any_take zTruth _ L k hk,es];have hmm:=meet_meet s hd.1;have hml:¬(meetS s (D.getD i 0)).lo<0:=by unfold meetS;simp only;split<;>omega
      have hmh:(meetS s (D.getD i 0)).hi=D.getD i 0:=rfl;have hm1:s.lo<0->(meetS s (D.getD i 0)).lo=D.getD i 0:=fun q=>if_pos q;have hm2:¬s.lo<0->(meetS s (D.getD i 0)).lo=s.lo:=fun q=>if_neg q;generalize((L.take k).any fun t=>same (seenR b t head (D.getD i 0)) as_)=A at*
      generalize hd':D.getD i 0=d at*
      generalize hm:meetS s d=m at*
      cases hx:((seenR b (L.getD k zTruth) head d).toList==as_.toList)with
      |false=>
       cases A with
       |true=>
        refine WP.once ?_;simp only[T35,Tr.sure,SS,hk',hi',h5,z1,z10,hD,hd',hx,↓reduceIte,Bool.or_true,Bool.true_or,Bool.or_false];repeat' with_reducible first|intro _|apply aI
        all_goals first|exact k54|(simp[hr2,Go,Ends',v35,-List.getD_eq_getElem?_getD, *];done)
       |false=>
        refine WP.once ?_;simp only[T35,Tr.sure,SS,hk',hi',h5,z1,z10,hD,hd',hx,↓reduceIte,Bool.or_true,Bool.true_or,Bool.or_false];repeat' with_reducible first|intro _|apply aI
        all_goals first|exact k54|(simp[hr2,Go,Ends',v35,-List.getD_eq_getElem?_getD, *];done)
      |true=>
       cases A with
       |true=>
        refine WP.once ?_;simp only[T35,Tr.sure,SS,hk',hi',h5,z1,z10,hD,hd',hx,hml,↓reduceIte,Bool.or_true,Bool.true_or,Bool.or_false];repeat' with_reducible first|intro _|apply aI
        all_goals first|exact k54|(simp[hr2,hml,hmh,Go,Ends',v35,-List.getD_eq_getElem?_getD, *];done)
       |false=>
        by_cases hs:s.lo<0
        ·have hm3:=hm1 hs;refine WP.once ?_;simp only[T35,Tr.sure,SS,hk',hi',h5,z1,z10,hD,hd',hx,↓reduceIte,Bool.or_true,Bool.true_or,Bool.false_or,Bool.or_false,hs,Bool.false_eq_true];repeat' with_reducible first|intro _|apply aI
         all_goals first|exact k54|(simp[hr2,hs,hm3,hmh,Go,Ends',v35,-List.getD_eq_getElem?_getD, *];done)
        ·have hm3:=hm2 hs;refine WP.once ?_;simp only[T35,Tr.sure,SS,hk',hi',h5,z1,z10,hD,hd',hx,↓reduceIte,Bool.or_true,Bool.true_or,Bool.false_or,Bool.or_false,hs,Bool.false_eq_true];repeat' with_reducible first|intro _|apply aI
         all_goals first|exact k54|(simp[hr2,hs,hm3,hmh,Go,Ends',v35,-List.getD_eq_getElem?_getD, *];done)
     ·rw[List.take_length];have eg:spanG b L head as_ s (D.getD i 0)=if(L.any fun t=>same (seenR b t head (D.getD i 0)) as_)=true then meetS s (D.getD i 0)else s:=rfl
      rw[eg];generalize(if(L.any fun t=>same (seenR b t head (D.getD i 0)) as_)=true then meetS s (D.getD i 0)else s)=s'
      refine WP.once ?_;simp only[T35,Tr.sure,SS,h5,Int.lt_irrefl,hD];repeat' with_reducible first|intro _|apply aI
      all_goals simp[hr,Go,Ends',v35,-List.getD_eq_getElem?_getD, *]
    ·rw[List.take_length,e];generalize D.foldl (spanG b L head as_) ⟨-1,0⟩=s at*
     by_cases hs:s.lo<0
     ·rw[if_pos hs];refine WP.step ?_;simp only[T35,Go,Ends',v35,Tr.sure,SS,Int.lt_irrefl,hD,hs];repeat' with_reducible first|intro _|apply aI
      all_goals simp[tSpan,zSpan,Go,Ends',v35,-List.getD_eq_getElem?_getD, *]
     ·rw[if_neg hs];refine WP.step ?_;simp only[T35,Go,Ends',v35,Tr.sure,SS,Int.lt_irrefl,hD,hs];repeat' with_reducible first|intro _|apply aI
      all_goals simp[tSpan,zSpan,Go,Ends',v35,-List.getD_eq_getElem?_getD, *]
   refine w35 _ _ _ (WP.step ?_);simp only[T35,Go,Ends',v35,Tr.sure,SS,h,hn,h5];repeat' with_reducible first|intro _|apply aI
   all_goals first|exact k76|exact k87|exact k52|exact hmain|exact(by with_reducible exact lit_int1 _)|(simp[h,Go,Ends',v35,-List.getD_eq_getElem?_getD, *];done)
 ·have e:betweenR b head as_=(zSpan,(toldR b [head] 0).2):=by unfold betweenR;rw[if_pos h]
  rw[e];refine w35 _ _ _ (WP.step ?_);simp only[T35,Go,Ends',v35,Tr.sure,SS];repeat' with_reducible first|intro _|apply aI
  all_goals first|exact k76|exact(by with_reducible exact lit_int1 _)|(simp[h,tSpan,zSpan,Go,Ends',v35,-List.getD_eq_getElem?_getD, *];done)|(simp_all [h,tSpan,zSpan,Go,Ends',v35,-List.getD_eq_getElem?_getD];done)
end
noncomputable section
inductive P5
 |e
inductive R5
 |r0 (r0:Bool)
def T5(b:Book)(x:Nat->Int)(as_:ByteArray):P5->Tr P5 R5
 |.e=>let c1:=x (((0:Int)).toNat);let c2:=asR b c1 (x (((1:Int)).toNat));let c3:=decide (0<=(0:Int))&&decide ((0:Int)<(2:Int));let c4:=decide (((0:Int)).toNat<2)&&decide (0<1);let c5:=betweenR b c1 as_;let c6:=everR b c1;let c7:Tr P5 R5:=.out (.r0 false);let c8:=decide (0<=(1:Int))&&decide ((1:Int)<(2:Int));let c9:V:=.tuple [tstr.lst (c6.1),tstr.lst (c6.2.1),iI (c6.2.2)];let c10:V:=.tuple [.agg [iI (c5.1.lo),iI (c5.1.hi)],iI (c5.2)];let c11:=decide (((1:Int)).toNat<2)&&decide (0<1);let c12:List V:=[.agg (cC b),iI c1,iI (x (((1:Int)).toNat))];let c13:V:=.tuple [tstr.lst (c2.1),iI (c2.2)];let c14:List V:=[.agg (cC b),iI c1,.str as_];(.need c3 (.need c4 (.need c8 (.need c11 (.call 29 c12 c13 true true (.need c3 (.need c4 (.need c8 (.need c11 (.call 30 c12 c13 true true (.call 31 [tstr.lst (c2.1),tstr.lst (c2.1)] (.bool (sameS (c2.1) (c2.1))) true true (.br (!(sameS (c2.1) (c2.1))) (.lit true c7) (.br (c2.2 !=c2.2) c7 (.need c3 (.need c4 (.call 32 [.agg (cC b),iI c1] c9 true true (.need c3 (.need c4 (.call 33 [.agg (cC b),iI c1] c9 true true (.call 31 [tstr.lst (c6.1),tstr.lst (c6.1)] (.bool (sameS (c6.1) (c6.1))) true true (.br (!(sameS (c6.1) (c6.1))) (.lit true (.lit true c7)) (.call 31 [tstr.lst (c6.2.1),tstr.lst (c6.2.1)] (.bool (sameS (c6.2.1) (c6.2.1))) true true (.br (!(sameS (c6.2.1) (c6.2.1))) (.lit true c7) (.br (c6.2.2 !=c6.2.2) c7 (.need c3 (.need c4 (.call 34 c14 c10 true true (.need c3 (.need c4 (.call 35 c14 c10 true true (.br ((c5.1.lo==c5.1.lo)&&((c5.1.hi==c5.1.hi)&&true)) (.br (c5.2==c5.2) (.call 21 [] (.bool true) true true (.out (.r0 true))) c7) (.lit false c7))))))))))))))))))))))))))))))))
noncomputable def g5(b:Book)(x:Nat->Int)(as_:ByteArray):P5->List Item × St
 |.e=>bd Tryz.f5 [.agg (cC b),.arr 1 2 (rowsFn tint x),.str as_] 97
def n5:R5->Exit × St
 |.r0 r0=>(.ret,⟨mk 100 [(6,.bool r0)],[],[]⟩)
def v5:R5->V
 |.r0 r0=>.bool r0
theorem s5(b:Book)(x:Nat->Int)(as_:ByteArray):Sm 0 (g5 b x as_) (T5 b x as_) (n5)
 |.e=>⟨400,by kernel_rfl⟩
theorem q5:∀r,bodyQ Tryz.prog Tryz.f5 (·=v5 r) (n5 r).1 (n5 r).2
 |.r0 r0=>bq (.bool r0) (by kernel_rfl)
theorem w5(b:Book)(x:Nat->Int)(as_:ByteArray){post:V->Prop}(h:WQ (T5 b x as_) v5 post .e):PC 5 [.agg (cC b),.arr 1 2 (rowsFn tint x),.str as_] post:=
 PCalls.wq Tryz.func5 (s5 b x as_) q5 h
theorem sameS_self(l:List ByteArray):sameS l l=true:=by simp[sameS]
theorem c5(b:Book)(x:Nat->Int)(as_:ByteArray):PC 5 [.agg (tBook.cells b),.arr 1 2 (rowsFn tint x),.str as_] (·=.bool true):=by
 refine w5 b x as_ (WP.step ?_);simp only[T5,Go,Ends',v5,Tr.sure,SS];repeat' with_reducible first|intro _|apply aI
 all_goals first|exact(c29 b _ _)|exact(c30 b _ _)|exact(c31 _ _)|exact(c32 b _)|exact(c33 b _)|exact(c34 b _ _)|exact(c35 b _ _)|exact c21|(simp[sameS_self,Go,Ends',v5,-List.getD_eq_getElem?_getD, *];done)|(simp_all [sameS_self,Go,Ends',v5,-List.getD_eq_getElem?_getD];done)
end
end Go.Proofs.YtemgodefhcbleaaGreat
