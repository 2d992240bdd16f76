/-
  Part of the proof of HeadEver. Conditions: those that stand in each theorem.
-/
import Derived.Test.YtemgodefhcbleaaGreatT1201
set_option linter.unusedSimpArgs false
set_option linter.unusedVariables false
set_option maxRecDepth 100000
namespace Go.Proofs.YtemgodefhcbleaaGreat
open Ab Go
noncomputable section
theorem index_mem{l:List ByteArray}{s:ByteArray}:0<=indexS l s↔s∈l:=by
 unfold indexS
 cases h:firstI (fun o=>same o s) 0 l with
 |some i=>
  have:=any_of_firstI h;obtain⟨x,hx,e⟩:=List.any_eq_true.1 this;rw[same_iff]at e;subst e;exact⟨fun _=>hx,fun _=>by simp⟩
 |none=>
  have:=any_of_none h;constructor
  ·intro q;simp at q
  ·intro q;have h2:l.any (fun o=>same o s)=true:=List.any_eq_true.2 ⟨s,q,same_iff.2 rfl⟩;rw[this]at h2;cases h2
theorem part_of{l m:List ByteArray}(h:∀s∈l,s∈m):partR l m=true:=by
 unfold partR;rw[List.all_eq_true];exact fun s hs=>decide_eq_true (index_mem.2 (h s hs))
theorem names_len{b:Book}(h:OkBook b)(p:ByteArray->Bool):((personsR b).filter p).length<=15:=Nat.le_trans (List.length_filter_le _ _) (persons_len h)
theorem seen_person{b:Book}{t:Truth}{H d:Int}(h:seenR b t H d≠ByteArray.empty):seenR b t H d∈personsR b:=
 shown_person (t:=t) (hd:=H) h (D:=[d]) (by unfold shownR;simp[same_iff])
inductive P12
 |e
 |l0 (x0_18:Int)
inductive R12
 |r0 (r0:Bool)
def T12(b:Book)(y:Nat->Int):P12->Tr P12 R12
 |.e=>let c1:=(y (((0:Int)).toNat)).tmod (b.heads.length:Int);let c4:=everR b c1;let c5:=(((truthsR b ([])).length):Int);let c6:=((c4.1.length):Int)+((c4.2.1.length):Int);let c7:Tr P12 R12:=.out (.r0 false);let c3:Tr P12 R12:=.call 32 [.agg (cC b),iI 0] (.tuple [tstr.lst ((everR b 0).1),tstr.lst ((everR b 0).2.1),iI ((everR b 0).2.2)]) true true (.br ((everR b 0).2.2 !=(0:Int)) (.call 21 [] (.bool true) true true (.out (.r0 true))) c7);let c8:=y (((2:Int)).toNat);let c9:=y (((1:Int)).toNat);let c2:=asR b c1 (dayR c9);let c10:=c6+((c2.1.length):Int);let c11:Tr P12 R12:=.lit true (.lit true c7);(.call 39 [.agg (cC b)] (.bool (validR b)) true true (.br (!(validR b)) (.lit true c3) (.br ((b.bodies.length:Int)==(0:Int)) c3 (.front [(9,41,[.int .u16 c9],iI (dayR c9))] [] (((decide (0<=(0:Int))&&decide ((0:Int)<(3:Int)))&&((decide (((0:Int)).toNat<3)&&decide (0<1))&&((inR .i64 (y (((0:Int)).toNat)))&&((decide ((b.heads.length:Int)≠0))&&((decide (0<=(1:Int))&&decide ((1:Int)<(3:Int)))&&((decide (((1:Int)).toNat<3)&&decide (0<1))&&true))))))&&true) true (.call 32 [.agg (cC b),iI c1] (.tuple [tstr.lst (c4.1),tstr.lst (c4.2.1),iI (c4.2.2)]) true true (.call 29 [.agg (cC b),iI c1,iI (dayR c9)] (.tuple [tstr.lst (c2.1),iI (c2.2)]) true true (.call 51 [.agg (cC b),.nils] (tTruth.lst (truthsR b ([]))) true true (.br (c5==(0:Int)) (.br (c4.2.2==(8:Int)) (.br (c2.2==c4.2.2) (.need (inR .i64 c6) (.need (inR .i64 c10) (.br (c10==(0:Int)) (.call 21 [] (.bool true) true true (.out (.r0 true))) c7))) (.lit false c7)) (.lit false (.lit false c7))) (.br (c4.2.2 !=(0:Int)) (.lit true c11) (.br (c2.2 !=(0:Int)) c11 (.call 48 [tstr.lst (c4.1),tstr.lst (c4.2.1)] (.bool (partR (c4.1) (c4.2.1))) true true (.br (!(partR (c4.1) (c4.2.1))) (.lit true c7) (.call 48 [tstr.lst (c2.1),tstr.lst (c4.2.1)] (.bool (partR (c2.1) (c4.2.1))) true true (.br (!(partR (c2.1) (c4.2.1))) c7 (.need (decide (0<=(2:Int))&&decide ((2:Int)<(3:Int))) (.need (decide (((2:Int)).toNat<3)&&decide (0<1)) (.need (inR .i64 c8) (.need (decide (c5≠0)) (.need (decide (0<=(c8.tmod c5))&&decide ((c8.tmod c5)<c5)) (.call 52 [.agg (cC b)] (tint.lst (daysR b)) true true (.go (.l0 0))))))))))))))))))))))
 |.l0 x0_18=>let c1:=(truthsR b ([])).getD (((y (((2:Int)).toNat)).tmod (((truthsR b ([])).length):Int))).toNat tTruth.zero;let c2:=(y (((0:Int)).toNat)).tmod (b.heads.length:Int);let c3:=dayR (y (((1:Int)).toNat));let c4:=((everR b c2).1).getD (x0_18).toNat tstr.zero;let c5:=seenR b c1 c2 c3;let c6:Tr P12 R12:=.call 21 [] (.bool true) true true (.out (.r0 true));let c7:=x0_18<(((everR b c2).1.length):Int);let c8:=(asR b c2 c3).1;let c9:=shownR b c1 c2 c4 (daysR b);(.br (decide c7) (.front [] [] (((decide (0<=x0_18)&&decide c7)&&true)&&true) true (.call 53 [.agg (cC b),.agg [tPair.lst (c1.pairs),(tlist tint).lst (c1.haves)],iI c2,.str c4,tint.lst (daysR b)] (.bool c9) true true (.br (!c9) (.out (.r0 false)) (.need (inR .i64 (x0_18+(1:Int))) (.go (.l0 (x0_18+(1:Int)))))))) (.call 54 [.agg (cC b),.agg [tPair.lst (c1.pairs),(tlist tint).lst (c1.haves)],iI c2,iI c3] (.str c5) true true (.br (c5.toList==(ByteArray.mk #[]).toList) (.lit true c6) (.call 46 [tstr.lst c8,.str c5] (iI (indexS c8 c5)) true true (.br (decide ((indexS c8 c5)≥(0:Int))) c6 (.out (.r0 false)))))))
noncomputable def g12(b:Book)(y:Nat->Int):P12->List Item × St
 |.e=>bd Tryz.f12 [.agg (cC b),.arr 1 3 (rowsFn tu16 y)] 149
 |.l0 x0_18=>(cutOf Tryz.f12 0,⟨mk 151 [(2,.ref 0 0 0),(8,iI ((y (((0:Int)).toNat)).tmod (b.heads.length:Int))),(9,iI (dayR (y (((1:Int)).toNat)))),(10,tstr.lst ((everR b ((y (((0:Int)).toNat)).tmod (b.heads.length:Int))).1)),(13,tstr.lst ((asR b ((y (((0:Int)).toNat)).tmod (b.heads.length:Int)) (dayR (y (((1:Int)).toNat)))).1)),(16,.ref 2 0 0),(17,tint.lst (daysR b)),(18,iI x0_18)],[.cells (cC b),.gone,.cells [tPair.lst (((truthsR b ([])).getD (((y (((2:Int)).toNat)).tmod (((truthsR b ([])).length):Int))).toNat tTruth.zero).pairs),(tlist tint).lst (((truthsR b ([])).getD (((y (((2:Int)).toNat)).tmod (((truthsR b ([])).length):Int))).toNat tTruth.zero).haves)]],[]⟩)
def n12:R12->Exit × St
 |.r0 r0=>(.ret,⟨mk 151 [(4,.bool r0)],[],[]⟩)
def v12:R12->V
 |.r0 r0=>.bool r0
theorem s12(b:Book)(y:Nat->Int):Sm 0 (g12 b y) (T12 b y) (n12)
 |.e=>⟨400,by kernel_rfl⟩
 |.l0 _=>⟨400,by kernel_rfl⟩
theorem q12:∀r,bodyQ Tryz.prog Tryz.f12 (·=v12 r) (n12 r).1 (n12 r).2
 |.r0 r0=>bq (.bool r0) (by kernel_rfl)
theorem w12(b:Book)(y:Nat->Int){post:V->Prop}(h:WQ (T12 b y) v12 post .e):PC 12 [.agg (cC b),.arr 1 3 (rowsFn tu16 y)] post:=
 PCalls.wq Tryz.func12 (s12 b y) q12 h
set_option maxHeartbeats 4000000 in
theorem c12(b:Book)(y:Nat->Int)(hy:∀i,i<3->0<=y i/\y i<=65535):PC 12 [.agg (tBook.cells b),.arr 1 3 (rowsFn tu16 y)] (·=.bool true):=by
 have y0:=hy 0 (by omega);have y1:=hy 1 (by omega);have y2:=hy 2 (by omega);have r0:inR .i64 (y 0)=true:=inR64 (by omega) (by omega);have r1:inR .i64 (y 1)=true:=inR64 (by omega) (by omega);have r2:inR .i64 (y 2)=true:=inR64 (by omega) (by omega);have k41:=c41 (y 1) r1;have k39:=c39 b;by_cases hv:validR b=true
 ·have hok:=valid_ok hv;rw[hv]at k39;have hnb:=hok.nb;have hnh:=hok.nh;by_cases hz:b.bodies.length=0
  ·have hz':((b.bodies.length:Int)==0)=true:=by simp[hz]
   have hb:=told_bad (b:=b) (n:=0) (d:=0) (fun q=>q.2 hz);have e:=ever_bad hb;have k32:=c32 b 0;rw[e]at k32;refine w12 b y (WP.step ?_);simp only[T12,Go,Ends',v12,Tr.sure,SS,hv,hz',e];repeat' with_reducible first|intro _|apply aI
   all_goals first|exact k39|exact k32|exact c21|(simp_all [hb,Go,Ends',v12,-List.getD_eq_getElem?_getD];done)
  ·have hz':((b.bodies.length:Int)==0)=false:=beq_eq_false_iff_ne.2 (by omega);have hz3:¬(b.heads.length:Int)=0:=by omega
   have hH:=which_in (n:=b.heads.length) y0.1 (by omega);have hD:=day_in y1.1;rw[hnh]at hH hz3;have k51:=c51n b hok;have k52:=c52 b hok;have hsml:=truths_len8 hok [];generalize hHH:(y 0).tmod (b.bodies.length:Int)=H at*
   generalize hDD:dayR (y 1)=d at*
   have k32:=c32 b H;have k29:=c29 b H d;by_cases ht:(truthsR b []).length=0
   ·have e1:=told_eight hok (one_in hH) (by decide:(0:Int)<=0/\(0:Int)<=364) ht;have e2:=told_eight hok (one_in hH) hD ht;have w1:=ever_bad (b:=b) (n:=H) (by rw[e1];decide);have w2:=as_bad (b:=b) (n:=H) (d:=d) (by rw[e2];decide);rw[e1]at w1;rw[e2]at w2;rw[w1]at k32;rw[w2]at k29;have ht':(((truthsR b []).length:Int)==0)=true:=by simp[ht]
    have hr1:inR .i64 ((([]:List ByteArray).length:Int)+(([]:List ByteArray).length:Int))=true:=by decide
    have hr2:inR .i64 ((([]:List ByteArray).length:Int)+(([]:List ByteArray).length:Int)+(([]:List ByteArray).length:Int))=true:=by decide
    refine w12 b y (WP.step ?_);simp only[T12,Go,Ends',v12,Tr.sure,SS,hv,hz',i0,i1,i2,hnh,hHH,hDD,w1,w2,ht'];repeat' with_reducible first|intro _|apply aI
    all_goals first|exact k39|exact k32|exact k29|exact k51|exact k41|exact c21|(simp[r0,r1,r2,hz,hz3,hr1,hr2,Go,Ends',v12,-List.getD_eq_getElem?_getD, *];done)|(simp_all [r0,r1,r2,hz,hz3,hr1,hr2,Go,Ends',v12,-List.getD_eq_getElem?_getD];done)
   ·have e1:=told_zero hok (one_in hH) (by decide:(0:Int)<=0/\(0:Int)<=364) (by omega);have e2:=told_zero hok (one_in hH) hD (by omega);have w1:(everR b H).2.2=0:=by rw[ever_is e1]
    have w2:(asR b H d).2=0:=by rw[as_is e2]
    have hS:(everR b H).1.length<=15:=by rw[ever_is e1];exact names_len hok _
    have hM:(everR b H).2.1.length<=15:=by rw[ever_is e1];exact names_len hok _
    have hA:(asR b H d).1.length<=15:=by rw[as_is e2];exact names_len hok _
    have ht':(((truthsR b []).length:Int)==0)=false:=beq_eq_false_iff_ne.2 (by omega);have ht3:¬((truthsR b []).length:Int)=0:=by omega
    have hT:=which_in (n:=(truthsR b []).length) y2.1 (by omega);have htm:=getD_mem zTruth (truthsR b []) ((y 2).tmod ((truthsR b []).length:Int)).toNat (by omega)
    have p1:partR (everR b H).1 (everR b H).2.1=true:=part_of fun s hs=>by
     obtain⟨q1,q2⟩:=(mem_sure hok e1 hH).1 hs;exact(mem_may hok e1 hH).2 ⟨q1,_,htm,q2 _ htm⟩
    have p2:partR (asR b H d).1 (everR b H).2.1=true:=part_of fun s hs=>by
     obtain⟨q1,t,q2,q3⟩:=(mem_as e2).1 hs;exact(mem_may hok e1 hH).2 ⟨q1,t,q2,d,hD,q3⟩
    have hsh:∀i,i<(everR b H).1.length->shownR b ((truthsR b []).getD ((y 2).tmod ((truthsR b []).length:Int)).toNat zTruth) H ((everR b H).1.getD i ByteArray.empty) (daysR b)=true:=fun i hi=>
     (shown_sees hok htm hH).2 (((mem_sure hok e1 hH).1 (getD_mem _ _ _ hi)).2 _ htm)
    have hse:seenR b ((truthsR b []).getD ((y 2).tmod ((truthsR b []).length:Int)).toNat zTruth) H d=ByteArray.empty\/0<=indexS (asR b H d).1 (seenR b ((truthsR b []).getD ((y 2).tmod ((truthsR b []).length:Int)).toNat zTruth) H d):=by
     by_cases q:seenR b ((truthsR b []).getD ((y 2).tmod ((truthsR b []).length:Int)).toNat zTruth) H d=ByteArray.empty
     ·exact .inl q
     ·exact .inr (index_mem.2 ((mem_as e2).2 ⟨seen_person q,_,htm,rfl⟩))
    have hto:=trueOf hok htm;have k54:=c54 b _ H d hok hto hH;have k53:=fun s=>c53 b _ H s (daysR b) hok hto hH;have k46:=c46 (asR b H d).1 (seenR b ((truthsR b []).getD ((y 2).tmod ((truthsR b []).length:Int)).toNat zTruth) H d) (by omega);have k48:=c48 (everR b H).1 (everR b H).2.1 (by omega) (by omega);have k48b:=c48 (asR b H d).1 (everR b H).2.1 (by omega) (by omega);rw[w1]at k32;rw[w2]at k29
    rw[p1]at k48;rw[p2]at k48b
    have hmain:WP Tryz.prog ⟨none,0⟩ (T12 b y) (Ends' fun r=>v12 r=.bool true) (.l0 0):=by
     refine WP.run (fun i=>.l0 (i:Int)) rfl (everR b H).1.length (fun i hi=> ?_) ?_
     ·have hr:inR .i64 ((i:Int)+1)=true:=inR64 (by omega) (by omega);have hi':(i:Int)<(everR b H).1.length:=by omega
      have hx:=hsh i hi;have k53i:=k53 ((everR b H).1.getD i ByteArray.empty);rw[hx]at k53i;refine WP.once ?_;simp only[T12,Tr.sure,SS,hi',hx,i0,i1,i2,hnh,hHH,hDD,z10,z12,Int.toNat_natCast];repeat' with_reducible first|intro _|apply aI
      all_goals first|exact k53i|(simp[hr,Go,Ends',v12,-List.getD_eq_getElem?_getD, *];done)
     ·rcases hse with q|q
      ·rw[q]at k54;have hq:(ByteArray.empty.toList==(ByteArray.mk #[]).toList)=true:=by rw[isEmpty_eq];rfl
       refine WP.step ?_;simp only[T12,Go,Ends',v12,Tr.sure,SS,Int.lt_irrefl,i0,i1,i2,hnh,hHH,hDD,z10,z12,q,hq];repeat' with_reducible first|intro _|apply aI
       all_goals first|exact k54|exact c21
      ·have hge:(decide (indexS (asR b H d).1 (seenR b ((truthsR b []).getD ((y 2).tmod ((truthsR b []).length:Int)).toNat zTruth) H d)≥0))=true:=decide_eq_true q;refine WP.step ?_;simp only[T12,Go,Ends',v12,Tr.sure,SS,Int.lt_irrefl,i0,i1,i2,hnh,hHH,hDD,z10,z12];repeat' with_reducible first|intro _|apply aI
       all_goals first|exact k54|exact k46|exact c21|(simp_all [q,hge,Go,Ends',v12,-List.getD_eq_getElem?_getD];done)
    generalize(truthsR b []).getD ((y 2).tmod ((truthsR b []).length:Int)).toNat zTruth=t at*
    refine w12 b y (WP.step ?_);simp only[T12,Go,Ends',v12,Tr.sure,SS,hv,hz',i0,i1,i2,hnh,hHH,hDD,w1,w2,ht',p1,p2];repeat' with_reducible first|intro _|apply aI
    all_goals first|exact k39|exact k32|exact k29|exact k51|exact k52|exact k41|exact k48|exact k48b|exact hmain|(simp[r0,r1,r2,hz,hz3,hT,ht3,Go,Ends',v12,-List.getD_eq_getElem?_getD, *];done)
 ·have hv':validR b=false:=by simpa using hv
  rw[hv']at k39;have hb:=told_bad (b:=b) (n:=0) (d:=0) (fun q=>hv q.1);have e:=ever_bad hb;have k32:=c32 b 0;rw[e]at k32;refine w12 b y (WP.step ?_);simp only[T12,Go,Ends',v12,Tr.sure,SS,hv',e];repeat' with_reducible first|intro _|apply aI
  all_goals first|exact k39|exact k32|exact c21|(simp_all [hb,Go,Ends',v12,-List.getD_eq_getElem?_getD];done)
end
end Go.Proofs.YtemgodefhcbleaaGreat
