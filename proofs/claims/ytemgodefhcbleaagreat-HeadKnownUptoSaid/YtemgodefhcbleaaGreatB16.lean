/-
  Part of the proof of the Head laws. Conditions: those that stand in each theorem.
-/
import Derived.Test.YtemgodefhcbleaaGreatB15
set_option linter.unusedSimpArgs false
set_option linter.unusedVariables false
set_option maxRecDepth 100000
namespace Go.Proofs.YtemgodefhcbleaaGreat
open Ab Go
noncomputable section
theorem VLe.padDS(l:List Stretch)(n:Nat):VLe (.list 5 l.length (rowsOf tStretch (padD l n))) (tStretch.lst l):=
 VLe.list fun i j hi _=>by
  simp only[rowsOf,padD,List.getD_eq_getElem?_getD,List.getElem?_append_left hi]
theorem padD_len{l:List Stretch}{n:Nat}(h:l.length≤n):(padD l n).length=n:=by simp[padD];omega
theorem VLe.padDN{l:List Stretch}{n:Nat}(h:l.length≤n):VLe (.list 5 n (rowsOf tStretch (padD l n))) (tStretch.lst (padD l n)):=by
 have:=padD_len h
 generalize padD l n=z at*
 subst this;exact VLe.refl _
theorem VLe.one{x y:V}(h:VLe x y)(j:Nat):VLe (([x]:List V).getD j uU) (([y]:List V).getD j uU):=by
 cases j with
 |zero=>exact h
 |succ j=>exact VLe.refl _
theorem c34(b:Book)(head:Int)(as_:ByteArray):PC 34 [.agg (tBook.cells b),iI head,.str as_] (·=.tuple [.agg (tSpan.cells (betweenR b head as_).1),iI (betweenR b head as_).2]):=by
 have k74:=c74 b 0 [head]
 have k59:=c59 as_
 have hlit:VLe (.list 1 1 (litC 1 1 [iI head])) (tint.lst [head]):=VLe.lit tint [head] rfl rfl (fun _=>rfl)
 by_cases h0:(toldR b [head] 0).2=0
 ·obtain⟨hok,hns,hday,hne,htl⟩:=told_ok h0
  have hv:=hns head (by simp)
  rw[if_pos h0,h0]at k74
  cases hn:nameOk as_ with
  |false=>
   have e:betweenR b head as_=(zSpan,6):=by unfold betweenR;rw[if_neg (fun q=>q h0),if_pos hn]
   rw[hn]at k59
   rw[e]
   refine w34y b head as_ (WP.step ?_)
   simp only[T34y,Go,Ends',v34y,Tr.sure,SS,hn]
   repeat' with_reducible first|intro _|apply And.intro
   all_goals first|exact k74|exact k59|exact(by with_reducible exact hlit)|(simp[hn,tSpan,zSpan,Go,Ends',v34y,-List.getD_eq_getElem?_getD, *];done)
   skip
  |true=>
   have hs:as_≠ByteArray.empty:=fun e=>by rw[e]at hn;revert hn;decide
   have e:betweenR b head as_=if(spanOf b (truthsR b []) head as_).lo<0 then(zSpan,4)else(spanOf b (truthsR b []) head as_,0):=by unfold betweenR;rw[if_neg (fun q=>q h0),if_neg (by rw[hn];decide)]
   have k75:=c75 (lookOf b) 0
   have k84:=c84x b hok
   have hsl:(stretchesR b).length≤100000:=by have:=strD_len hok 365;unfold stretchesR;omega
   have k85:=c85x as_ (stretchesR b) hsl
   have hkl:(keptB b as_).length≤100000:=Nat.le_trans (List.length_filter_le _ _) hsl
   have hkl2:(keptB b as_).length≤(stretchesR b).length:=List.length_filter_le _ _
   have hr:=range34 b hok head (keptB b as_) hkl fun x hx=>by
    have hx5:=(mem_kept.1 hx).1
    obtain⟨j,hj,hjb⟩:=(stretch_good hx5).body
    have:=stretch_line hx5
    have:=hok.nb
    omega
   have hps:=fun j=>VLe.one (VLe.padDS (keptB b as_) (stretchesR b).length) j
   have hpn:=VLe.padDN hkl2
   have hq0:=VLe.padDS (keptB b as_) (stretchesR b).length
   have u1:underL 0 [V.str as_]=true:=rfl
   have u4:underL 0 [tStretch.lst (keptB b as_)]=true:=rfl
   rw[hn]at k59
   rw[e]
   rcases between_law hok hv hs with⟨q1,q2⟩|⟨q1,q2,q3⟩
   ·rw[if_pos q2]
    rw[q1]at hr
    refine w34y b head as_ (WP.step ?_)
    simp only[T34y,Go,Ends',v34y,Tr.sure,SS,hn,q1,hkl2]
    repeat' with_reducible first|intro _|apply And.intro
    all_goals first|exact k74|exact k59|exact k75|exact(by with_reducible exact hlit)|exact(k84 _)|exact(k85 _ 5 rfl)|exact hr|exact hpn|exact hq0|exact u1|exact(hps _)|(simp[hn,q1,hkl2,tSpan,zSpan,Go,Ends',v34y,-List.getD_eq_getElem?_getD, *];done)
    skip
   ·rw[if_neg q2,q3]
    rw[q1]at hr
    refine w34y b head as_ (WP.step ?_)
    simp only[T34y,Go,Ends',v34y,Tr.sure,SS,hn,q1,hkl2]
    repeat' with_reducible first|intro _|apply And.intro
    all_goals first|exact k74|exact k59|exact k75|exact(by with_reducible exact hlit)|exact(k84 _)|exact(k85 _ 5 rfl)|exact hr|exact hpn|exact hq0|exact u1|exact(hps _)|(simp[hn,q1,hkl2,tSpan,Go,Ends',v34y,-List.getD_eq_getElem?_getD, *];done)
    skip
 ·have hP:betweenR b head as_=(zSpan,(toldR b [head] 0).2):=by unfold betweenR;rw[if_pos h0]
  rw[if_neg h0]at k74
  rw[hP]
  refine w34n b head as_ (WP.step ?_)
  simp only[T34n,Go,Ends',v34n,Tr.sure,SS,h0]
  repeat' with_reducible first|intro _|apply And.intro
  all_goals first|exact(PCalls.arg (pre:=[.agg (tBook.cells b),iI 0]) k74 hlit)|(simp[h0,tSpan,zSpan,Go,Ends',v34n,-List.getD_eq_getElem?_getD, *];done)
  skip
end
noncomputable section
inductive P32a
 |e
inductive R32a
 |r0 (r0:Int) (r1:Int) (r2:MS)
noncomputable def T32a(n:Nat)(P:List Pair)(H:List (Nat→Int))(K:List Stretch)(hd:Int)(ct:Int)(M:MS):P32a→Tr P32a R32a
 |.e=>(.out (.r0 hd ct M))
noncomputable def g32a(n:Nat)(P:List Pair)(H:List (Nat→Int))(K:List Stretch)(hd:Int)(ct:Int)(M:MS):P32a→List Item × St
 |.e=>([.code (asgOf (rangeOf Tryz.f32))],⟨[uU,uU,uU,.ref 1 0 0,uU,uU,uU,uU,rR (tStretch.lst K),.ref 7 0 0,.ref 9 0 0,uU,uU,uU,uU,uU,uU,uU,uU,uU,uU,uU,uU,uU,uU,uU,uU,uU,uU,uU,uU,uU,.agg [.list 2 n (rowsOf tPair P),.list 5 (n+1) (rowsOf tHave H)],uU,uU,uU,uU,uU,uU,uU,uU,uU,uU,uU,uU,uU,uU,uU,uU,uU,uU,uU,uU,uU,uU,uU,uU,uU,uU,uU,uU,uU,uU,uU,uU,uU,uU,uU,uU,uU,uU,uU,uU,uU,uU,uU,uU,uU,uU,uU,uU,uU,uU,uU,uU,uU,uU,uU,uU,uU,uU,uU,uU,uU],[.gone,.cells [iI hd],.gone,.gone,.gone,.gone,.gone,.cells [iI ct],.obj (mT M),.cells [.map 8]],[]⟩)
noncomputable def n32a(n:Nat)(P:List Pair)(H:List (Nat→Int))(K:List Stretch)(hd:Int)(ct:Int)(M:MS):R32a→Exit × St
 |.r0 r0 r1 r2=>(.normal,⟨mk 94 [(3,.ref 1 0 0),(8,rR (tStretch.lst K)),(9,.ref 7 0 0),(10,.ref 9 0 0),(11,.ref 10 0 0)],[.gone,.cells [iI r0],.gone,.gone,.gone,.gone,.gone,.cells [iI r1],.obj (mT r2),.cells [.map 8],.cells [.list 2 n (rowsOf tPair P),.list 5 (n+1) (rowsOf tHave H)]],[]⟩)
theorem s32a(n:Nat)(P:List Pair)(H:List (Nat→Int))(K:List Stretch)(hd:Int)(ct:Int)(M:MS):Sm 10 (g32a n P H K hd ct M) (T32a n P H K hd ct M) (n32a n P H K hd ct M)
 |.e=>⟨400,by kernel_rfl⟩
inductive P32b
 |e
 |l0 (x0_37:Int) (o0_8:MS) (a0_11:List ByteArray)
inductive R32b
 |r0 (r0:Int) (r1:Int) (r2:MS)
noncomputable def T32b(n:Nat)(P:List Pair)(H:List (Nat→Int))(K:List Stretch)(hd:Int)(ct:Int)(M:MS):P32b→Tr P32b R32b
 |.e=>(.need (inR .i64 (ct+(1:Int))) (.wait 2 (.own 12 9 1 (.go (.l0 0 M ([]))))))
 |.l0 x0_37 o0_8 a0_11=>let c1:=K.getD (x0_37).toNat tStretch.zero;let c2:List V:=[.list 2 n (rowsOf tPair P),.list 5 (n+1) (rowsOf tHave H)];let c3:Tr P32b R32b:=.need (inR .i64 (x0_37+(1:Int))) (.go (.l0 (x0_37+(1:Int)) o0_8 a0_11));let c9:=true&&(true&&(true&&(true&&(true&&(true&&true)))));let c10:=decide (0≤c1.line)&&decide (c1.line<((n+1):Int));let c11:=H.getD (c1.line).toNat tHave.zero;let c12:Tr P32b R32b:=.need (inR .i64 (x0_37+(1:Int))) (.go (.l0 (x0_37+(1:Int)) (addN o0_8 (c1.as_)) (c1.as_::a0_11)));let c13:=(decide (a0_11.length=a0_11.length)&&decide (a0_11.length+1≤4294967296))&&decide (1≤1);let c15:=(cntN o0_8 (c1.as_))+(1:Int);let c16:List V:=[.list 1 a0_11.length (rowsRev tstr a0_11),.str (c1.as_)];let c17:=((decide (a0_11.length≤a0_11.length))&&true)&&true;let c18:=rowsRev tstr (c1.as_::a0_11);let c19:=litC 1 1 [.str (c1.as_)];let c20:=mT (addN o0_8 (c1.as_));let c21:=iI (cntN o0_8 (c1.as_));let c22:=c1.span.lo;let c23:=c1.span.hi;let c14:List V:=[iI (c1.line),iI (c1.body),.str (c1.as_),iI c22,iI c23];let c24:List V:=[iI (ct+(1:Int))];let c25:=(decide (0≤(4:Int))&&decide ((4:Int)<(5:Int)))&&true;let c26:=(decide (0≤(3:Int))&&decide ((3:Int)<(5:Int)))&&true;let c27:=(decide (0≤(2:Int))&&decide ((2:Int)<(5:Int)))&&true;let c28:=(decide (0≤(1:Int))&&decide ((1:Int)<(5:Int)))&&true;let c29:=(decide (0≤(0:Int))&&decide ((0:Int)<(5:Int)))&&true;let c30:=opAt Tryz.f32 16 5;let c31:=opAt Tryz.f32 16 3;let c32:=a0_11.length+1;let c33:List V:=[iI (c1.line),iI 4,.str (c1.as_),iI c22,iI c23];let c4:List Blk:=[.gone,.cells [iI hd],.gone,.gone,.gone,.gone,.gone,.cells c24,.obj (mT o0_8),.cells [.map 8],.cells c2,.rows 9 1 c32 c18,.cells c33,.rows 9 1 1 c19];let c34:List V:=[iI (c1.line),iI 3,.str (c1.as_),iI c22,iI c23];let c5:List Blk:=[.gone,.cells [iI hd],.gone,.gone,.gone,.gone,.gone,.cells c24,.obj (mT o0_8),.cells [.map 8],.cells c2,.rows 9 1 c32 c18,.cells c34,.rows 9 1 1 c19];let c35:List V:=[iI (c1.line),iI 2,.str (c1.as_),iI c22,iI c23];let c6:List Blk:=[.gone,.cells [iI hd],.gone,.gone,.gone,.gone,.gone,.cells c24,.obj (mT o0_8),.cells [.map 8],.cells c2,.rows 9 1 c32 c18,.cells c35,.rows 9 1 1 c19];let c36:List V:=[iI (c1.line),iI 1,.str (c1.as_),iI c22,iI c23];let c7:List Blk:=[.gone,.cells [iI hd],.gone,.gone,.gone,.gone,.gone,.cells c24,.obj (mT o0_8),.cells [.map 8],.cells c2,.rows 9 1 c32 c18,.cells c36,.rows 9 1 1 c19];let c37:List V:=[iI (c1.line),iI 0,.str (c1.as_),iI c22,iI c23];let c8:List Blk:=[.gone,.cells [iI hd],.gone,.gone,.gone,.gone,.gone,.cells c24,.obj (mT o0_8),.cells [.map 8],.cells c2,.rows 9 1 c32 c18,.cells c37,.rows 9 1 1 c19];let c38:Tr P32b R32b:=.lit false c3;let c39:=inR .i64 c15;let c40:=(c11 4)==hd;(.br (decide (x0_37<(K.length:Int))) (.need (decide (0≤x0_37)&&decide (x0_37<(K.length:Int))) (.wait 1 (.cas (decide (c1.body=0)) (.telc 12 c14 c37 (.br ((c11 0)==hd) (.front [(15,67,c16,.bool (a0_11.reverse.any fun o=>same o (c1.as_)))] [(11,true)] ((true&&(true&&(true&&(true&&(true&&(true&&(c10&&(c29&&(true&&(true&&(true&&((((c11 0)==hd)==true)&&c9))))))))))))&&c17) true (.br (!(a0_11.reverse.any fun o=>same o (c1.as_))) (.need c13 (.scal (fun _=>true) (.sem c31 [(.tmp 64,.map 8),(.tmp 66,.str (c1.as_))] c8 c21 c8 true (.need c39 (.sem c30 [(.tmp 64,.map 8),(.tmp 66,.str (c1.as_)),(.tmp 68,iI c15)] c8 (uU) [.gone,.cells [iI hd],.gone,.gone,.gone,.gone,.gone,.cells c24,.obj c20,.cells [.map 8],.cells c2,.rows 9 1 c32 c18,.cells c37,.rows 9 1 1 c19] true c12))))) c3)) (.front [] [(11,false)] ((true&&(true&&(true&&(true&&(true&&(true&&(c10&&(c29&&(true&&(true&&(true&&((((c11 0)==hd)==false)&&c9))))))))))))&&true) true c38))) (.cas (decide (c1.body=1)) (.telc 12 c14 c36 (.br ((c11 1)==hd) (.front [(15,67,c16,.bool (a0_11.reverse.any fun o=>same o (c1.as_)))] [(11,true)] ((true&&(true&&(true&&(true&&(true&&(true&&(c10&&(c28&&(true&&(true&&(true&&((((c11 1)==hd)==true)&&c9))))))))))))&&c17) true (.br (!(a0_11.reverse.any fun o=>same o (c1.as_))) (.need c13 (.scal (fun _=>true) (.sem c31 [(.tmp 64,.map 8),(.tmp 66,.str (c1.as_))] c7 c21 c7 true (.need c39 (.sem c30 [(.tmp 64,.map 8),(.tmp 66,.str (c1.as_)),(.tmp 68,iI c15)] c7 (uU) [.gone,.cells [iI hd],.gone,.gone,.gone,.gone,.gone,.cells c24,.obj c20,.cells [.map 8],.cells c2,.rows 9 1 c32 c18,.cells c36,.rows 9 1 1 c19] true c12))))) c3)) (.front [] [(11,false)] ((true&&(true&&(true&&(true&&(true&&(true&&(c10&&(c28&&(true&&(true&&(true&&((((c11 1)==hd)==false)&&c9))))))))))))&&true) true c38))) (.cas (decide (c1.body=2)) (.telc 12 c14 c35 (.br ((c11 2)==hd) (.front [(15,67,c16,.bool (a0_11.reverse.any fun o=>same o (c1.as_)))] [(11,true)] ((true&&(true&&(true&&(true&&(true&&(true&&(c10&&(c27&&(true&&(true&&(true&&((((c11 2)==hd)==true)&&c9))))))))))))&&c17) true (.br (!(a0_11.reverse.any fun o=>same o (c1.as_))) (.need c13 (.scal (fun _=>true) (.sem c31 [(.tmp 64,.map 8),(.tmp 66,.str (c1.as_))] c6 c21 c6 true (.need c39 (.sem c30 [(.tmp 64,.map 8),(.tmp 66,.str (c1.as_)),(.tmp 68,iI c15)] c6 (uU) [.gone,.cells [iI hd],.gone,.gone,.gone,.gone,.gone,.cells c24,.obj c20,.cells [.map 8],.cells c2,.rows 9 1 c32 c18,.cells c35,.rows 9 1 1 c19] true c12))))) c3)) (.front [] [(11,false)] ((true&&(true&&(true&&(true&&(true&&(true&&(c10&&(c27&&(true&&(true&&(true&&((((c11 2)==hd)==false)&&c9))))))))))))&&true) true c38))) (.cas (decide (c1.body=3)) (.telc 12 c14 c34 (.br ((c11 3)==hd) (.front [(15,67,c16,.bool (a0_11.reverse.any fun o=>same o (c1.as_)))] [(11,true)] ((true&&(true&&(true&&(true&&(true&&(true&&(c10&&(c26&&(true&&(true&&(true&&((((c11 3)==hd)==true)&&c9))))))))))))&&c17) true (.br (!(a0_11.reverse.any fun o=>same o (c1.as_))) (.need c13 (.scal (fun _=>true) (.sem c31 [(.tmp 64,.map 8),(.tmp 66,.str (c1.as_))] c5 c21 c5 true (.need c39 (.sem c30 [(.tmp 64,.map 8),(.tmp 66,.str (c1.as_)),(.tmp 68,iI c15)] c5 (uU) [.gone,.cells [iI hd],.gone,.gone,.gone,.gone,.gone,.cells c24,.obj c20,.cells [.map 8],.cells c2,.rows 9 1 c32 c18,.cells c34,.rows 9 1 1 c19] true c12))))) c3)) (.front [] [(11,false)] ((true&&(true&&(true&&(true&&(true&&(true&&(c10&&(c26&&(true&&(true&&(true&&((((c11 3)==hd)==false)&&c9))))))))))))&&true) true c38))) (.cas (decide (c1.body=4)) (.telc 12 c14 c33 (.br c40 (.front [(15,67,c16,.bool (a0_11.reverse.any fun o=>same o (c1.as_)))] [(11,true)] ((true&&(true&&(true&&(true&&(true&&(true&&(c10&&(c25&&(true&&(true&&(true&&((c40==true)&&c9))))))))))))&&c17) true (.br (!(a0_11.reverse.any fun o=>same o (c1.as_))) (.need c13 (.scal (fun _=>true) (.sem c31 [(.tmp 64,.map 8),(.tmp 66,.str (c1.as_))] c4 c21 c4 true (.need c39 (.sem c30 [(.tmp 64,.map 8),(.tmp 66,.str (c1.as_)),(.tmp 68,iI c15)] c4 (uU) [.gone,.cells [iI hd],.gone,.gone,.gone,.gone,.gone,.cells c24,.obj c20,.cells [.map 8],.cells c2,.rows 9 1 c32 c18,.cells c33,.rows 9 1 1 c19] true c12))))) c3)) (.front [] [(11,false)] ((true&&(true&&(true&&(true&&(true&&(true&&(c10&&(c25&&(true&&(true&&(true&&((c40==false)&&c9))))))))))))&&true) true c38))) .never))))))) (.out (.r0 hd (ct+(1:Int)) o0_8)))
noncomputable def g32b(n:Nat)(P:List Pair)(H:List (Nat→Int))(K:List Stretch)(hd:Int)(ct:Int)(M:MS):P32b→List Item × St
 |.e=>([.code (bdyOf (rangeOf Tryz.f32))],⟨[uU,uU,uU,.ref 1 0 0,uU,uU,uU,uU,rR (tStretch.lst K),.ref 7 0 0,.ref 9 0 0,.ref 10 0 0,uU,uU,uU,uU,uU,uU,uU,uU,uU,uU,uU,uU,uU,uU,uU,uU,uU,uU,uU,uU,uU,uU,uU,uU,uU,uU,uU,uU,uU,uU,uU,uU,uU,uU,uU,uU,uU,uU,uU,uU,uU,uU,uU,uU,uU,uU,uU,uU,uU,uU,uU,uU,uU,uU,uU,uU,uU,uU,uU,uU,uU,uU,uU,uU,uU,uU,uU,uU,uU,uU,uU,uU,uU,uU,uU,uU,uU,uU,uU,uU,uU,uU],[.gone,.cells [iI hd],.gone,.gone,.gone,.gone,.gone,.cells [iI ct],.obj (mT M),.cells [.map 8],.cells [.list 2 n (rowsOf tPair P),.list 5 (n+1) (rowsOf tHave H)]],[]⟩)
 |.l0 x0_37 o0_8 a0_11=>((cuts [] (bdyOf (rangeOf Tryz.f32))).getD 0 [],⟨mk 94 [(3,.ref 1 0 0),(10,.ref 9 0 0),(11,.ref 10 0 0),(12,.row 11 a0_11.length),(35,tStretch.lst K),(36,iI (K.length:Int)),(37,iI x0_37)],[.gone,.cells [iI hd],.gone,.gone,.gone,.gone,.gone,.cells [iI (ct+(1:Int))],.obj (mT o0_8),.cells [.map 8],.cells [.list 2 n (rowsOf tPair P),.list 5 (n+1) (rowsOf tHave H)],.rows 9 1 a0_11.length (rowsRev tstr a0_11)],[]⟩)
noncomputable def n32b(n:Nat)(P:List Pair)(H:List (Nat→Int))(K:List Stretch)(hd:Int)(ct:Int)(M:MS):R32b→Exit × St
 |.r0 r0 r1 r2=>(.normal,⟨mk 94 [],[.gone,.cells [iI r0],.gone,.gone,.gone,.gone,.gone,.cells [iI r1],.obj (mT r2),.cells [.map 8]],[]⟩)
theorem s32b(n:Nat)(P:List Pair)(H:List (Nat→Int))(K:List Stretch)(hd:Int)(ct:Int)(M:MS):Sm 10 (g32b n P H K hd ct M) (T32b n P H K hd ct M) (n32b n P H K hd ct M)
 |.e=>⟨400,by kernel_rfl⟩
 |.l0 _ _ _=>⟨400,by kernel_rfl⟩
theorem idxN_cons(a:ByteArray)(n:Int)(M:MS)(s:ByteArray):idxN ((a,n)::M) s=if a=s then 0 else idxN M s+1:=by
 unfold idxN
 rw[List.findIdx_cons]
 by_cases h:a=s
 ·simp[h]
 ·simp[h]
theorem cntN_cons(a:ByteArray)(n:Int)(M:MS)(s:ByteArray):cntN ((a,n)::M) s=if a=s then n else cntN M s:=by
 unfold cntN
 rw[idxN_cons]
 by_cases h:a=s
 ·rw[if_pos h,if_pos h];rfl
 ·rw[if_neg h,if_neg h];simp[List.getD_eq_getElem?_getD]
theorem addN_cons(a:ByteArray)(n:Int)(M:MS)(s:ByteArray):addN ((a,n)::M) s=if a=s then(a,n+1)::M else(a,n)::addN M s:=by
 unfold addN
 rw[idxN_cons,cntN_cons]
 by_cases h:a=s
 ·simp[h]
 ·simp only[if_neg h,List.length_cons,Nat.add_lt_add_iff_right,List.set_cons_succ,List.cons_append]
  split<;>rfl
theorem cnt_add(s s':ByteArray):∀M:MS,cntN (addN M s) s'=if s'=s then cntN M s+1 else cntN M s'
 |[]=>by
  have e:addN [] s=[(s,1)]:=rfl
  rw[e,cntN_cons]
  have e0:∀z,cntN [] z=0:=fun z=>rfl
  rw[e0,e0]
  by_cases h:s'=s
  ·rw[if_pos h,if_pos h.symm];rfl
  ·rw[if_neg h,if_neg (fun q=>h q.symm)]
 |(a,n)::M=>by
  have ih:=cnt_add s s' M
  rw[addN_cons]
  by_cases h:a=s
  ·subst h
   rw[if_pos rfl,cntN_cons,cntN_cons,cntN_cons,if_pos rfl]
   by_cases h2:s'=a
   ·subst h2;simp
   ·rw[if_neg (fun q=>h2 q.symm),if_neg h2,if_neg (fun q=>h2 q.symm)]
  ·rw[if_neg h,cntN_cons,cntN_cons,cntN_cons,if_neg h,ih]
   by_cases h2:a=s'
   ·rw[if_pos h2,if_pos h2,if_neg (fun q=>h (h2.trans q))]
   ·rw[if_neg h2,if_neg h2]
abbrev ES:=MS × List ByteArray
def stepE(hd:Int)(H:List (Nat→Int))(s:ES)(x:Stretch):ES:=if hitX hd H x=true then(if(s.2.any fun o=>same o x.as_)=true then s else(addN s.1 x.as_,s.2++ [x.as_]))else s
def runE(hd:Int)(H:List (Nat→Int))(K:List Stretch)(M:MS):ES:=K.foldl (stepE hd H) (M,[])
theorem runE_step(hd:Int)(H:List (Nat→Int))(K:List Stretch)(M:MS)(i:Nat)(hi:i<K.length):runE hd H (K.take (i+1)) M=stepE hd H (runE hd H (K.take i) M) (K.getD i zStretch):=by
 unfold runE;rw[take_snoc zStretch K i hi,List.foldl_append];rfl
theorem runE_len(hd:Int)(H:List (Nat→Int))(K:List Stretch)(M:MS):∀i,i≤K.length→(runE hd H (K.take i) M).2.length≤i∧∀s,cntN M s≤cntN (runE hd H (K.take i) M).1 s∧cntN (runE hd H (K.take i) M).1 s≤cntN M s+i
 |0,_=>⟨Nat.le_refl _,fun s=>⟨Int.le_refl _,by simp[runE]⟩⟩
 |i+1,hi=>by
  obtain⟨h1,h2⟩:=runE_len hd H K M i (by omega)
  rw[runE_step hd H K M i (by omega)]
  generalize runE hd H (K.take i) M=S at*
  unfold stepE
  split
  ·split
   ·exact⟨by omega,fun s=>by have:=h2 s;omega⟩
   ·refine⟨by simp;omega,fun s=> ?_⟩
    have:=h2 s
    have e:=cnt_add (K.getD i zStretch).as_ s S.1
    simp only
    rw[e]
    split
    ·rename_i q;rw[q]at this⊢;omega
    ·omega
  ·exact⟨by omega,fun s=>by have:=h2 s;omega⟩
theorem look32(hh:List Blk)(M:MS)(s:ByteArray)(hm:hh[8]? =some (.obj (mT M))):SemOK Tryz.prog (opAt Tryz.f32 16 3) [(.tmp 64,.map 8),(.tmp 66,.str s)] hh (iI (cntN M s)) hh:=by
 have e:opAt Tryz.f32 16 3=.lookup 140 (.tmp 64) (.tmp 66) false:=by kernel_rfl
 rw[e]
 exact semT_lookup (kt:=9) (et:=3) (by kernel_rfl) (by kernel_rfl) (by kernel_rfl) hm s
theorem upd32(hh:List Blk)(M:MS)(s:ByteArray)(hm:hh[8]? =some (.obj (mT M))):SemOK Tryz.prog (opAt Tryz.f32 16 5) [(.tmp 64,.map 8),(.tmp 66,.str s),(.tmp 68,iI (cntN M s+1))] hh uU (hh.set 8 (.obj (mT (addN M s)))):=by
 have e:opAt Tryz.f32 16 5=.mapUpdate 140 (.tmp 64) (.tmp 66) (.tmp 68):=by kernel_rfl
 rw[e]
 exact semT_update (kt:=9) (et:=3) (by kernel_rfl) (by kernel_rfl) hm s
abbrev HE32(hd:Int)(c:Int)(M:MS):List Blk:=[.gone,.cells [iI hd],.gone,.gone,.gone,.gone,.gone,.cells [iI c],.obj (mT M),.cells [.map 8]]
theorem body32(l:Nat)(n:Nat)(P:List Pair)(H:List (Nat→Int))(K:List Stretch)(hd ct:Int)(M:MS)(hK:K.length≤100000)(hc:0≤ct∧ct≤100000000)(hM:∀s,0≤cntN M s∧cntN M s≤100000000)(hin:∀x∈K,0≤x.line∧x.line≤n∧0≤x.body∧x.body<5):
  AWP Tryz.prog ⟨some l,10⟩ (bdyOf (rangeOf Tryz.f32)) (g32b n P H K hd ct M .e).2 fun e S2=>e=.normal∧S2.h=HE32 hd (ct+1) (runE hd H K M).1:=by
 refine AWP.wp mx (T32b n P H K hd ct M) (g32b n P H K hd ct M) (n32b n P H K hd ct M) .e rfl (s32b n P H K hd ct M) (post:=fun r=>(n32b n P H K hd ct M r).1=.normal∧(n32b n P H K hd ct M r).2.h=HE32 hd (ct+1) (runE hd H K M).1) ?_ (fun r hr=>hr)
 have hz:tStretch.zero=zStretch:=rfl
 have hrc:inR .i64 (ct+1)=true:=inR64 (by omega) (by omega)
 have hmain:WP Tryz.prog ⟨some l,10⟩ (T32b n P H K hd ct M) (Ends' fun r=>(n32b n P H K hd ct M r).1=.normal∧(n32b n P H K hd ct M r).2.h=HE32 hd (ct+1) (runE hd H K M).1) (.l0 0 M []):=by
  refine WP.run (fun i=>.l0 (i:Int) (runE hd H (K.take i) M).1 (runE hd H (K.take i) M).2.reverse) rfl K.length (fun i hi=> ?_) ?_
  ·have hr:inR .i64 ((i:Int)+1)=true:=inR64 (by omega) (by omega)
   have hi':(i:Int)<K.length:=by omega
   obtain⟨q1,q2,q3,q4⟩:=hin _ (getD_mem zStretch K i hi)
   obtain⟨n1,n2⟩:=runE_len hd H K M i (by omega)
   rw[runE_step hd H K M i hi]
   generalize hS:runE hd H (K.take i) M=S at*
   generalize hX:K.getD i zStretch=X at*
   obtain⟨SM,So⟩:=S
   obtain⟨xl,xb,xs,⟨xlo,xhi⟩⟩:=X
   simp only at q1 q2 q3 q4 n1 n2
   have hl1:xl<(n:Int)+1:=by omega
   have hcn:inR .i64 (cntN SM xs+1)=true:=by have:=n2 xs;have:=hM xs;exact inR64 (by omega) (by omega)
   have hal:So.reverse.length+1≤4294967296:=by rw[List.length_reverse];omega
   have kl:VLe (.list 1 So.reverse.length (rowsRev tstr So.reverse)) (tstr.lst So.reverse.reverse):=VLe.rev tstr So.reverse
   have k67:=PCalls.arg (pre:=[]) (c67 So.reverse.reverse xs) kl
   have hsr:(So++ [xs]).reverse=xs::So.reverse:=by simp
   have hrr:So.reverse.reverse=So:=List.reverse_reverse _
   unfold stepE hitX
   simp only
   clear hS hin n2 hM hK
   rcases show xb=0∨xb=1∨xb=2∨xb=3∨xb=4 by omega with rfl|rfl|rfl|rfl|rfl
   all_goals
    simp only[Int.toNat_zero,Int.toNat_one,Int.reduceToNat]
   ·rcases Bool.eq_false_or_eq_true ((H.getD xl.toNat tHave.zero) 0==hd)with hh|hh
    ·rcases Bool.eq_false_or_eq_true (So.any fun o=>same o xs)with ha|ha
     all_goals
      simp only[hh,ha,Bool.false_eq_true,↓reduceIte,hsr]
      rw[←hrr]at ha
      generalize So.reverse=A at*
      rw[ha]at k67
      refine WP.once ?_
      simp only[T32b,Tr.sure,SS,hi',hz,hX,hh,ha,q1,hl1,Int.toNat_natCast,Int.reduceEq]
      repeat' with_reducible first|intro _|apply And.intro
      all_goals first|exact(VLe.refl _)|exact k67|exact(look32 _ _ _ rfl)|exact(upd32 _ _ _ rfl)|(simp[hr,hcn,hal,ha,Go,Ends',-List.getD_eq_getElem?_getD, *];done)
    ·simp only[hh,Bool.false_eq_true,↓reduceIte]
     generalize So.reverse=A at*
     refine WP.once ?_
     simp only[T32b,Tr.sure,SS,hi',hz,hX,hh,q1,hl1,Int.toNat_natCast,Int.reduceEq]
     repeat' with_reducible first|intro _|apply And.intro
     all_goals first|exact(VLe.refl _)|(simp[hr,Go,Ends',-List.getD_eq_getElem?_getD, *];done)
   ·rcases Bool.eq_false_or_eq_true ((H.getD xl.toNat tHave.zero) 1==hd)with hh|hh
    ·rcases Bool.eq_false_or_eq_true (So.any fun o=>same o xs)with ha|ha
     all_goals
      simp only[hh,ha,Bool.false_eq_true,↓reduceIte,hsr]
      rw[←hrr]at ha
      generalize So.reverse=A at*
      rw[ha]at k67
      refine WP.once ?_
      simp only[T32b,Tr.sure,SS,hi',hz,hX,hh,ha,q1,hl1,Int.toNat_natCast,Int.reduceEq]
      repeat' with_reducible first|intro _|apply And.intro
      all_goals first|exact(VLe.refl _)|exact k67|exact(look32 _ _ _ rfl)|exact(upd32 _ _ _ rfl)|(simp[hr,hcn,hal,ha,Go,Ends',-List.getD_eq_getElem?_getD, *];done)
    ·simp only[hh,Bool.false_eq_true,↓reduceIte]
     generalize So.reverse=A at*
     refine WP.once ?_
     simp only[T32b,Tr.sure,SS,hi',hz,hX,hh,q1,hl1,Int.toNat_natCast,Int.reduceEq]
     repeat' with_reducible first|intro _|apply And.intro
     all_goals first|exact(VLe.refl _)|(simp[hr,Go,Ends',-List.getD_eq_getElem?_getD, *];done)
   ·rcases Bool.eq_false_or_eq_true ((H.getD xl.toNat tHave.zero) 2==hd)with hh|hh
    ·rcases Bool.eq_false_or_eq_true (So.any fun o=>same o xs)with ha|ha
     all_goals
      simp only[hh,ha,Bool.false_eq_true,↓reduceIte,hsr]
      rw[←hrr]at ha
      generalize So.reverse=A at*
      rw[ha]at k67
      refine WP.once ?_
      simp only[T32b,Tr.sure,SS,hi',hz,hX,hh,ha,q1,hl1,Int.toNat_natCast,Int.reduceEq]
      repeat' with_reducible first|intro _|apply And.intro
      all_goals first|exact(VLe.refl _)|exact k67|exact(look32 _ _ _ rfl)|exact(upd32 _ _ _ rfl)|(simp[hr,hcn,hal,ha,Go,Ends',-List.getD_eq_getElem?_getD, *];done)
    ·simp only[hh,Bool.false_eq_true,↓reduceIte]
     generalize So.reverse=A at*
     refine WP.once ?_
     simp only[T32b,Tr.sure,SS,hi',hz,hX,hh,q1,hl1,Int.toNat_natCast,Int.reduceEq]
     repeat' with_reducible first|intro _|apply And.intro
     all_goals first|exact(VLe.refl _)|(simp[hr,Go,Ends',-List.getD_eq_getElem?_getD, *];done)
   ·rcases Bool.eq_false_or_eq_true ((H.getD xl.toNat tHave.zero) 3==hd)with hh|hh
    ·rcases Bool.eq_false_or_eq_true (So.any fun o=>same o xs)with ha|ha
     all_goals
      simp only[hh,ha,Bool.false_eq_true,↓reduceIte,hsr]
      rw[←hrr]at ha
      generalize So.reverse=A at*
      rw[ha]at k67
      refine WP.once ?_
      simp only[T32b,Tr.sure,SS,hi',hz,hX,hh,ha,q1,hl1,Int.toNat_natCast,Int.reduceEq]
      repeat' with_reducible first|intro _|apply And.intro
      all_goals first|exact(VLe.refl _)|exact k67|exact(look32 _ _ _ rfl)|exact(upd32 _ _ _ rfl)|(simp[hr,hcn,hal,ha,Go,Ends',-List.getD_eq_getElem?_getD, *];done)
    ·simp only[hh,Bool.false_eq_true,↓reduceIte]
     generalize So.reverse=A at*
     refine WP.once ?_
     simp only[T32b,Tr.sure,SS,hi',hz,hX,hh,q1,hl1,Int.toNat_natCast,Int.reduceEq]
     repeat' with_reducible first|intro _|apply And.intro
     all_goals first|exact(VLe.refl _)|(simp[hr,Go,Ends',-List.getD_eq_getElem?_getD, *];done)
   ·rcases Bool.eq_false_or_eq_true ((H.getD xl.toNat tHave.zero) 4==hd)with hh|hh
    ·rcases Bool.eq_false_or_eq_true (So.any fun o=>same o xs)with ha|ha
     all_goals
      simp only[hh,ha,Bool.false_eq_true,↓reduceIte,hsr]
      rw[←hrr]at ha
      generalize So.reverse=A at*
      rw[ha]at k67
      refine WP.once ?_
      simp only[T32b,Tr.sure,SS,hi',hz,hX,hh,ha,q1,hl1,Int.toNat_natCast,Int.reduceEq]
      repeat' with_reducible first|intro _|apply And.intro
      all_goals first|exact(VLe.refl _)|exact k67|exact(look32 _ _ _ rfl)|exact(upd32 _ _ _ rfl)|(simp[hr,hcn,hal,ha,Go,Ends',-List.getD_eq_getElem?_getD, *];done)
    ·simp only[hh,Bool.false_eq_true,↓reduceIte]
     generalize So.reverse=A at*
     refine WP.once ?_
     simp only[T32b,Tr.sure,SS,hi',hz,hX,hh,q1,hl1,Int.toNat_natCast,Int.reduceEq]
     repeat' with_reducible first|intro _|apply And.intro
     all_goals first|exact(VLe.refl _)|(simp[hr,Go,Ends',-List.getD_eq_getElem?_getD, *];done)
  ·rw[List.take_length]
   refine WP.step ?_
   simp only[T32b,Go,Ends',Tr.sure,SS,Int.lt_irrefl]
   repeat' with_reducible first|intro _|apply And.intro
   all_goals exact rfl
 refine WP.step ?_
 simp only[T32b,Go,Ends',Tr.sure,SS]
 repeat' with_reducible first|intro _|apply And.intro
 all_goals first|exact hmain|(simp[hrc,Go,Ends',-List.getD_eq_getElem?_getD, *];done)
end
noncomputable section
def everX(hd:Int)(K:List Stretch)(l:List Truth):MS:=l.foldl (fun M t=>(runE hd (t.haves.map fnH) K M).1) []
abbrev t32(b:Book)(K:List Stretch):List V:=[uU,uU,uU,.ref 1 0 0,uU,uU,uU,uU,rR (tStretch.lst K),.ref 7 0 0,.ref 9 0 0]++List.replicate 20 uU++ [trF b 0]++List.replicate 62 uU
abbrev t32r(b:Book)(K:List Stretch):List V:=[uU,uU,uU,.ref 1 0 0,.row 3 0,.row 2 0,uU,uU,rR (tStretch.lst K),.ref 7 0 0,.ref 9 0 0]++List.replicate 20 uU++ [trF b 0]++List.replicate 62 uU
theorem everX_step{hd:Int}{K:List Stretch}{l:List Truth}{k:Nat}{t:Truth}(h:l[k]? =some t):everX hd K (l.take (k+1))=(runE hd (t.haves.map fnH) K (everX hd K (l.take k))).1:=by
 unfold everX;rw[take_get h,List.foldl_append];rfl
def metE(hd:Int)(H:List (Nat→Int))(K:List Stretch)(s:ByteArray):Bool:=K.any fun x=>hitX hd H x&&decide (x.as_=s)
theorem runE_cnt(hd:Int)(H:List (Nat→Int))(K:List Stretch)(M:MS)(s:ByteArray):∀i,i≤K.length→(s∈(runE hd H (K.take i) M).2↔metE hd H (K.take i) s=true)∧cntN (runE hd H (K.take i) M).1 s=cntN M s+if metE hd H (K.take i) s=true then 1 else 0
 |0,_=>by simp[runE,metE]
 |i+1,hi=>by
  obtain⟨h1,h2⟩:=runE_cnt hd H K M s i (by omega)
  have hmt:metE hd H (K.take (i+1)) s=(metE hd H (K.take i) s||(hitX hd H (K.getD i zStretch)&&decide ((K.getD i zStretch).as_=s))):=by
   unfold metE;rw[take_snoc zStretch K i (by omega),List.any_append];simp
  rw[runE_step hd H K M i (by omega),hmt]
  generalize runE hd H (K.take i) M=S at*
  generalize K.getD i zStretch=x at*
  unfold stepE
  by_cases hh:hitX hd H x=true
  ·rw[if_pos hh]
   by_cases ha:(S.2.any fun o=>same o x.as_)=true
   ·rw[if_pos ha,hh,Bool.true_and]
    have hmem:x.as_∈S.2:=by
     obtain⟨o,ho,e⟩:=List.any_eq_true.1 ha
     rw[same_iff]at e;exact e▸ho
    by_cases hs:x.as_=s
    ·rw[hs]at hmem
     rw[h1.1 hmem]at h2⊢
     simp only[Bool.true_or]at h2⊢
     exact⟨⟨fun _=>by simp,fun _=>hmem⟩,by simpa using h2⟩
    ·simp only[hs,decide_false,Bool.or_false]
     exact⟨h1,h2⟩
   ·rw[if_neg ha,hh,Bool.true_and]
    have hno:x.as_∉S.2:=fun q=>ha (List.any_eq_true.2 ⟨_,q,same_iff.2 rfl⟩)
    simp only[cnt_add]
    by_cases hs:x.as_=s
    ·subst hs
     have hm0:metE hd H (K.take i) x.as_=false:=by
      cases q:metE hd H (K.take i) x.as_ with
      |false=>rfl
      |true=>exact absurd (h1.2 q) hno
     rw[hm0]at h2⊢
     simp only[Bool.false_eq_true,if_false]at h2
     simp[h2]
    ·rw[if_neg (fun q=>hs q.symm)]
     simp only[hs,decide_false,Bool.or_false,List.mem_append,List.mem_singleton,fun q:s=x.as_=>hs q.symm,or_false]
     refine⟨?_,h2⟩
     constructor
     ·rintro(q|q)
      ·exact h1.1 q
      ·exact absurd q.symm hs
     ·exact fun q=>.inl (h1.2 q)
  ·rw[if_neg hh]
   have:hitX hd H x=false:=by simpa using hh
   rw[this,Bool.false_and,Bool.or_false]
   exact⟨h1,h2⟩
theorem runE_all(hd:Int)(H:List (Nat→Int))(K:List Stretch)(M:MS)(s:ByteArray):cntN (runE hd H K M).1 s=cntN M s+if metE hd H K s=true then 1 else 0:=by
 have:=(runE_cnt hd H K M s K.length (Nat.le_refl _)).2
 rwa[List.take_length]at this
theorem everX_is(hd:Int)(K:List Stretch)(s:ByteArray):∀(l:List Truth) (M:MS),cntN (l.foldl (fun M t=>(runE hd (t.haves.map fnH) K M).1) M) s=cntN M s+((l.filter fun t=>metE hd (t.haves.map fnH) K s).length:Int)
 |[],M=>by simp
 |t::l,M=>by
  rw[List.foldl_cons,everX_is hd K s l,runE_all,List.filter_cons]
  split
  ·simp only[List.length_cons];omega
  ·omega
theorem everX_count(hd:Int)(K:List Stretch)(l:List Truth)(s:ByteArray):cntN (everX hd K l) s=((l.filter fun t=>metE hd (t.haves.map fnH) K s).length:Int):=by
 have:=everX_is hd K s l []
 rw[show cntN [] s=0 from rfl,Int.zero_add]at this;exact this
theorem range32(b:Book)(h:OkBook b)(hd:Int)(K:List Stretch)(hK:K.length≤100000)(hin:∀x∈K,0≤x.line∧x.line≤b.lines.length∧0≤x.body∧x.body<5):
  AWP Tryz.prog ⟨none,0⟩ (rangeOf Tryz.f32) ⟨t32r b K,[.cells (tBook.cells b),.cells [iI hd],.rows 9 1 0 (rowsRev tstr []),.rows 9 1 0 (rowsRev tstr []),.gone,.gone,.gone,.cells [iI 0],.obj (mT []),.cells [.map 8]],[]⟩ (fun e T=>e=.normal∧T=⟨t32r b K,[.cells (tBook.cells b),.cells [iI hd],.rows 9 1 0 (rowsRev tstr []),.rows 9 1 0 (rowsRev tstr []),.gone,.gone,.gone,.cells [iI ((truthsR b []).length:Int)],.obj (mT (everX hd K (truthsR b []))),.cells [.map 8],.obj (.deferred (some []))],[10]⟩):=by
 have e:rangeOf Tryz.f32=.rangeFunc (.tmp 31) #[32] (asgOf (rangeOf Tryz.f32)) (bdyOf (rangeOf Tryz.f32)):=by kernel_rfl
 have hlen:(ysB b 0).length=(truthsR b []).length:=by unfold ysB;rw[List.length_map,butL_zero]
 have hfull:(truthsR b []).take (ysB b 0).length=truthsR b []:=by rw[hlen,List.take_length]
 have hsmall:=truths_len8 h []
 rw[e]
 refine(AWP.rangeVT (fs:=[true,false,true,true]) (T:=t32 b K) (H:=fun k=>HE32 hd (k:Int) (everX hd K ((truthsR b []).take k))) (f:=110) (ys:=ysB b 0) (caps:=[rR (lk (lookOf b)),rR (iI 0)])
  rfl rfl (fun i hi hv=> ?_) rfl (fun j=>match j with|4=>.inr (.undef _)|5=>.inr (.undef _)|0=>.inl rfl|1=>.inl rfl|2=>.inl rfl|3=>.inl rfl|j+6=>.inl rfl) rfl rfl (PCalls.enters Tryz.func110 (c:=Tryz.f110.body.getD .skip) (by kernel_rfl) (by kernel_rfl)) (c110 b h 0) rfl (fun _=>rfl) (fun _=>rfl) (fun l k us hu=> ?_) (fun q i k hk=>freeAll (fun b hb=> ?_) i k hk)).mono fun e T q=>⟨q.1,by rw[q.2,hfull,hlen];rfl⟩
 ·match i,hi,hv with
  |0,_,hv=>cases hv
  |1,hi,_=>simp at hi
  |2,_,hv=>cases hv
  |3,_,hv=>cases hv
  |i+4,hi,_=>simp at hi
 ·obtain⟨t,ht,rfl⟩:=ysB_get hu
  rw[butL_zero]at ht
  have hkl:=(List.getElem?_eq_some_iff.1 ht).1
  have hnx:=everX_step (hd:=hd) (K:=K) ht
  have hcn:∀s,0≤cntN (everX hd K ((truthsR b []).take k)) s∧cntN (everX hd K ((truthsR b []).take k)) s≤100000000:=fun s=>by
   rw[everX_count]
   have:=List.length_filter_le (fun t=>metE hd (t.haves.map fnH) K s) ((truthsR b []).take k)
   rw[List.length_take]at this
   omega
  rw[hnx]
  generalize everX hd K ((truthsR b []).take k)=M at*
  refine⟨rfl,?_⟩
  refine AWP.forget (t:=(setPs [32] [.agg [.list 2 b.lines.length (rowsOf tPair t.pairs),.list 5 (b.lines.length+1) (rowsOf tHave (t.haves.map fnH))]] (t32 b K)).set 31 uU) (by simp) (forget_set _ 31) ?_
  refine AWP.wp mx (T32a b.lines.length t.pairs (t.haves.map fnH) K hd (k:Int) M) (g32a b.lines.length t.pairs (t.haves.map fnH) K hd (k:Int) M) (n32a b.lines.length t.pairs (t.haves.map fnH) K hd (k:Int) M) .e rfl (s32a b.lines.length t.pairs (t.haves.map fnH) K hd (k:Int) M)
   (post:=fun r=>(n32a b.lines.length t.pairs (t.haves.map fnH) K hd (k:Int) M r).1=.normal∧(n32a b.lines.length t.pairs (t.haves.map fnH) K hd (k:Int) M r).2=(g32b b.lines.length t.pairs (t.haves.map fnH) K hd (k:Int) M .e).2) ?_ (fun r hr=> ?_)
  ·refine WP.step ?_
   simp only[T32a,Go,Ends',Tr.sure,SS]
   repeat' with_reducible first|intro _|apply And.intro
   all_goals exact rfl
  ·rw[hr.2]
   exact⟨hr.1,rfl,body32 l b.lines.length t.pairs (t.haves.map fnH) K hd (k:Int) M hK ⟨by omega,by omega⟩ hcn hin⟩
 ·simp only[List.mem_cons,List.not_mem_nil,or_false]at hb
  rcases hb with rfl|rfl|rfl|rfl|rfl|rfl|rfl|rfl|rfl|rfl
  all_goals trivial
end
noncomputable section
inductive P32y
 |e
 |l1 (a1_2:List ByteArray) (a1_3:List ByteArray) (i1_11:Array Nat)
inductive R32y
 |r0 (r0:List ByteArray) (r1:List ByteArray) (r2:Int)
 |r1 (r0:List ByteArray) (r1:List ByteArray) (r2:Int)
noncomputable def T32y(b:Book)(head:Int):P32y→Tr P32y R32y
 |.e=>let c3:=rowsRev tstr ([]);let c4:=stretchesR b;let c1:List V:=[uU,uU,uU,.ref 1 0 0,.row 3 0,.row 2 0,uU,uU,rR (tStretch.lst c4),.ref 7 0 0,.ref 9 0 0,uU,uU,uU,uU,uU,uU,uU,uU,uU,uU,uU,uU,uU,uU,uU,uU,uU,uU,uU,uU,fG 110 [rR (lk (lookOf b)),rR (iI 0)],uU,uU,uU,uU,uU,uU,uU,uU,uU,uU,uU,uU,uU,uU,uU,uU,uU,uU,uU,uU,uU,uU,uU,uU,uU,uU,uU,uU,uU,uU,uU,uU,uU,uU,uU,uU,uU,uU,uU,uU,uU,uU,uU,uU,uU,uU,uU,uU,uU,uU,uU,uU,uU,uU,uU,uU,uU,uU,uU,uU,uU,uU];let c5:=(decide (c4.length≤c4.length))&&true;let c6:=rowsOf tStretch c4;let c7:=everX head c4 (truthsR b []);let c2:List Blk:=[.cells (cC b),.cells [iI head],.rows 9 1 0 c3,.rows 9 1 0 c3,.gone,.gone,.gone,.cells [iI ((truthsR b []).length:Int)],.obj (mT c7),.cells [.map 8],.obj (.deferred (some []))];(.wait 2 (.own 5 9 1 (.own 4 9 1 (.wait 2 (.frz 4 ((decide (1≤1))&&true) (.wait 0 (.vle 20 (.list 1 1 (litC 1 1 [iI head])) (tint.lst ([head]:List Int)) (.call 74 [.agg (cC b),iI 0,tint.lst ([head]:List Int)] (.tuple [lk (lookOf b),iI 0]) true true (.br ((0:Int) !=(0:Int)) (.wait 2 (.own 5 9 1 (.own 4 9 1 (.out (.r0 ([]) ([]) 0))))) (.hcall 84 [lk (lookOf b)] (.row 5 (c4.length)) [.cells (cC b),.cells [iI head],.rows 9 1 0 c3,.rows 9 1 0 c3,.gone] [.cells (cC b),.cells [iI head],.rows 9 1 0 c3,.rows 9 1 0 c3,.gone,.rows 142 5 (c4.length) c6] true (.wait 1 (.frz 5 (c5&&(c5&&true)) (.vle 28 (.list 5 (c4.length) c6) (tStretch.lst c4) (.telc 6 [.list 5 (c4.length) c6] [tStretch.lst c4] (.wait 2 (.frz 6 (underL 0 [tStretch.lst c4]) (.sem (opAt Tryz.f32 6 0) [] [.cells (cC b),.cells [iI head],.rows 9 1 0 c3,.rows 9 1 0 c3,.gone,.gone,.gone,.cells [iI 0]] (.map 8) [.cells (cC b),.cells [iI head],.rows 9 1 0 c3,.rows 9 1 0 c3,.gone,.gone,.gone,.cells [iI 0],.obj (mT ([]))] true (.call 75 [lk (lookOf b),iI 0] (fG 110 [rR (lk (lookOf b)),rR (iI 0)]) true true (.wait 1 (.drop ⟨[uU,uU,uU,.nil,.nil,.nil,uU,uU,.nil,.nil,.nil,uU,uU,uU,uU,uU,uU,uU,uU,uU,uU,uU,uU,uU,uU,uU,uU,uU,uU,uU,uU,.nil,uU,uU,uU,uU,uU,uU,uU,uU,uU,uU,uU,uU,uU,uU,uU,uU,uU,uU,uU,uU,uU,uU,uU,uU,uU,uU,uU,uU,uU,uU,uU,uU,uU,uU,uU,uU,uU,uU,uU,uU,uU,uU,uU,uU,uU,uU,uU,uU,uU,uU,uU,uU,uU,uU,uU,uU,uU,uU,uU,uU,uU,uU],[.void,.void,.void,.void,.void,.void,.void,.void,.void,.void],[]⟩ (.over (rangeOf Tryz.f32) ⟨c1,[.cells (cC b),.cells [iI head],.rows 9 1 0 c3,.rows 9 1 0 c3,.gone,.gone,.gone,.cells [iI 0],.obj (mT ([])),.cells [.map 8]],[]⟩ .normal ⟨c1,c2,[10]⟩ true (.sem (opAt Tryz.f32 18 1) [(.tmp 70,.map 8)] c2 (.ref 11 0 0) [.cells (cC b),.cells [iI head],.rows 9 1 0 c3,.rows 9 1 0 c3,.gone,.gone,.gone,.cells [iI ((truthsR b []).length:Int)],.obj (mT c7),.cells [.map 8],.obj (.deferred (some [])),.iter (.map 8) (c7.length) (#[])] true (.go (.l1 ([]) ([]) (#[])))))))))))))))))))))))))
 |.l1 a1_2 a1_3 i1_11=>let c1:=everX head (stretchesR b) (truthsR b []);let c3:=leftM c1.length i1_11;let c5:=((truthsR b []).length:Int);let c6:=sortT a1_3.reverse;let c7:=sortT a1_2.reverse;let c8:V:=.list 1 a1_3.length (rowsOf tstr c6);let c9:V:=.list 1 a1_2.length (rowsOf tstr c7);let c10:=decide (a1_3.length≤a1_3.length);let c11:=decide (a1_2.length≤a1_2.length);let c12:=rowsRev tstr a1_3;let c13:=rowsRev tstr a1_2;let c2:List Blk:=[.gone,.gone,.rows 9 1 a1_2.length c13,.rows 9 1 a1_3.length c12,.gone,.gone,.gone,.cells [iI c5],.obj (mT c1),.gone,.obj (.deferred (some [])),.iter (.map 8) (c1.length) i1_11];let c4:List Blk:=[.gone,.gone,.rows 9 1 a1_2.length c13,.rows 9 1 a1_3.length (rowsOf tstr c6),.gone,.gone,.gone,.cells [iI c5],.obj (mT c1),.gone,.obj (.deferred (some [])),.iter (.map 8) (c1.length) i1_11];(.wait 1 (.cas (decide (leftM c1.length i1_11≠ [])) (.semn (opAt Tryz.f32 19 0) [(.tmp 71,.ref 11 0 0)] c2 (c3.length) (fun j=>.tuple [.bool true,.str ((c1.getD (c3.getD j 0) (ByteArray.empty,0)).1),iI ((c1.getD (c3.getD j 0) (ByteArray.empty,0)).2)]) (fun j=>[.gone,.gone,.rows 9 1 a1_2.length c13,.rows 9 1 a1_3.length c12,.gone,.gone,.gone,.cells [iI c5],.obj (mT c1),.gone,.obj (.deferred (some [])),.iter (.map 8) (c1.length) (i1_11.push (c3.getD j 0))]) true (fun j=>(.lit true (.sem (opAt Tryz.f32 20 0) [(.tmp 71,.ref 11 0 0)] [.gone,.gone,.rows 9 1 a1_2.length c13,.rows 9 1 a1_3.length c12,.gone,.gone,.gone,.cells [iI c5],.obj (mT c1),.gone,.obj (.deferred (some [])),.iter (.map 8) (c1.length) (i1_11.push (c3.getD j 0))] (.tuple [.str ((c1.getD (c3.getD j 0) (ByteArray.empty,0)).1),iI ((c1.getD (c3.getD j 0) (ByteArray.empty,0)).2)]) [.gone,.gone,.rows 9 1 a1_2.length c13,.rows 9 1 a1_3.length c12,.gone,.gone,.gone,.cells [iI c5],.obj (mT c1),.gone,.obj (.deferred (some [])),.iter (.map 8) (c1.length) (i1_11.push (c3.getD j 0))] true (.need ((decide (a1_2.length=a1_2.length)&&decide (a1_2.length+1≤4294967296))&&decide (1≤1)) (.scal (fun _=>true) (.br ((c1.getD (c3.getD j 0) (ByteArray.empty,0)).2==c5) (.need ((decide (a1_3.length=a1_3.length)&&decide (a1_3.length+1≤4294967296))&&decide (1≤1)) (.scal (fun _=>true) (.go (.l1 ((c1.getD (c3.getD j 0) (ByteArray.empty,0)).1::a1_2) ((c1.getD (c3.getD j 0) (ByteArray.empty,0)).1::a1_3) (i1_11.push (c3.getD j 0)))))) (.go (.l1 ((c1.getD (c3.getD j 0) (ByteArray.empty,0)).1::a1_2) a1_3 (i1_11.push (c3.getD j 0))))))))))) (.sem (opAt Tryz.f32 19 0) [(.tmp 71,.ref 11 0 0)] c2 (.tuple [.bool false]) c2 true (.lit false (.hcall 82 [.row 3 a1_3.length] (.tuple []) c2 c4 true (.hcall 82 [.row 2 a1_2.length] (.tuple []) c4 [.gone,.gone,.rows 9 1 a1_2.length (rowsOf tstr c7),.rows 9 1 a1_3.length (rowsOf tstr c6),.gone,.gone,.gone,.cells [iI c5],.obj (mT c1),.gone,.obj (.deferred (some [])),.iter (.map 8) (c1.length) i1_11] true (.wait 1 (.frz 3 (c10&&(c10&&true)) (.vle 88 c8 (tstr.lst c6) (.vle 4 c8 (tstr.lst c6) (.frz 2 (c11&&(c11&&true)) (.vle 90 c9 (tstr.lst c7) (.vle 5 c9 (tstr.lst c7) (.out (.r1 c6 c7 0)))))))))))))))
noncomputable def g32y(b:Book)(head:Int):P32y→List Item × St
 |.e=>bd Tryz.f32 [.agg (cC b),iI head] 92
 |.l1 a1_2 a1_3 i1_11=>(cutOf Tryz.f32 0,⟨mk 94 [(4,.row 3 a1_3.length),(5,.row 2 a1_2.length),(9,.ref 7 0 0),(71,.ref 11 0 0)],[.gone,.gone,.rows 9 1 a1_2.length (rowsRev tstr a1_2),.rows 9 1 a1_3.length (rowsRev tstr a1_3),.gone,.gone,.gone,.cells [iI ((truthsR b []).length:Int)],.obj (mT (everX head (stretchesR b) (truthsR b []))),.gone,.obj (.deferred (some [])),.iter (.map 8) ((everX head (stretchesR b) (truthsR b [])).length) i1_11],[10]⟩)
noncomputable def n32y(b:Book)(head:Int):R32y→Exit × St
 |.r0 r0 r1 r2=>(.ret,⟨mk 94 [(4,.row 6 r0.length),(5,.row 5 r1.length),(6,iI r2)],[.gone,.gone,.gone,.gone,.gone,.rows 9 1 r1.length (rowsRev tstr r1),.rows 9 1 r0.length (rowsRev tstr r0)],[]⟩)
 |.r1 r0 r1 r2=>(.ret,⟨mk 94 [(4,tstr.lst r0),(5,tstr.lst r1),(6,iI r2)],[.gone,.gone,.gone,.gone,.gone,.gone,.gone,.gone,.gone,.gone,.obj (.deferred (some []))],[10]⟩)
noncomputable def v32y(b:Book)(head:Int):R32y→V
 |.r0 r0 r1 r2=>.tuple [tstr.lst r0.reverse,tstr.lst r1.reverse,iI r2]
 |.r1 r0 r1 r2=>.tuple [tstr.lst r0,tstr.lst r1,iI r2]
theorem s32y(b:Book)(head:Int):Sm 0 (g32y b head) (T32y b head) (n32y b head)
 |.e=>⟨400,by kernel_rfl⟩
 |.l1 _ _ _=>⟨400,by kernel_rfl⟩
theorem q32y(b:Book)(head:Int):∀r,bodyQ Tryz.prog Tryz.f32 (·=v32y b head r) (n32y b head r).1 (n32y b head r).2
 |.r0 r0 r1 r2=>⟨.inr rfl,by simp[n32y],(.tuple [.row 6 r0.length,.row 5 r1.length,iI r2]),(.tuple [tstr.lst r0.reverse,tstr.lst r1.reverse,iI r2]),by kernel_rfl,(.tuple rfl fun j hj=>match j,hj with|0,_=>.weak (.row rfl (Nat.le_refl _)) (VLe.rev tstr r0)|1,_=>.weak (.row rfl (Nat.le_refl _)) (VLe.rev tstr r1)|2,_=>.imm rfl),rfl⟩
 |.r1 r0 r1 r2=>⟨.inr rfl,by simp[n32y],(.tuple [tstr.lst r0,tstr.lst r1,iI r2]),(.tuple [tstr.lst r0,tstr.lst r1,iI r2]),by kernel_rfl,(.imm rfl),rfl⟩
theorem w32y(b:Book)(head:Int){post:V→Prop}(h:WP Tryz.prog ⟨none,0⟩ (T32y b head) (Ends' fun r=>post (v32y b head r)) .e):PC 32 [.agg (cC b),iI head] post:=
 PCalls.wq Tryz.func32 (s32y b head) (q32y b head) h
inductive P32n
 |e
inductive R32n
 |r0 (r0:List ByteArray) (r1:List ByteArray) (r2:Int)
noncomputable def T32n(b:Book)(head:Int):P32n→Tr P32n R32n
 |.e=>let c1:=toldR b [head] 0;(.wait 2 (.own 5 9 1 (.own 4 9 1 (.call 74 [.agg (cC b),iI 0,.list 1 1 (litC 1 1 [iI head])] (.tuple [.nil,iI (c1.2)]) ((decide (1≤1))&&true) true (.br (c1.2 !=(0:Int)) (.wait 2 (.own 5 9 1 (.own 4 9 1 (.out (.r0 ([]) ([]) (c1.2)))))) (.wait 2 .never))))))
noncomputable def g32n(b:Book)(head:Int):P32n→List Item × St
 |.e=>bd Tryz.f32 [.agg (cC b),iI head] 92
noncomputable def n32n(b:Book)(head:Int):R32n→Exit × St
 |.r0 r0 r1 r2=>(.ret,⟨mk 94 [(4,.row 6 r0.length),(5,.row 5 r1.length),(6,iI r2)],[.gone,.gone,.gone,.gone,.gone,.rows 9 1 r1.length (rowsRev tstr r1),.rows 9 1 r0.length (rowsRev tstr r0)],[]⟩)
noncomputable def v32n(b:Book)(head:Int):R32n→V
 |.r0 r0 r1 r2=>.tuple [tstr.lst r0.reverse,tstr.lst r1.reverse,iI r2]
theorem s32n(b:Book)(head:Int):Sm 0 (g32n b head) (T32n b head) (n32n b head)
 |.e=>⟨400,by kernel_rfl⟩
theorem q32n(b:Book)(head:Int):∀r,bodyQ Tryz.prog Tryz.f32 (·=v32n b head r) (n32n b head r).1 (n32n b head r).2
 |.r0 r0 r1 r2=>⟨.inr rfl,by simp[n32n],(.tuple [.row 6 r0.length,.row 5 r1.length,iI r2]),(.tuple [tstr.lst r0.reverse,tstr.lst r1.reverse,iI r2]),by kernel_rfl,(.tuple rfl fun j hj=>match j,hj with|0,_=>.weak (.row rfl (Nat.le_refl _)) (VLe.rev tstr r0)|1,_=>.weak (.row rfl (Nat.le_refl _)) (VLe.rev tstr r1)|2,_=>.imm rfl),rfl⟩
theorem w32n(b:Book)(head:Int){post:V→Prop}(h:WP Tryz.prog ⟨none,0⟩ (T32n b head) (Ends' fun r=>post (v32n b head r)) .e):PC 32 [.agg (cC b),iI head] post:=
 PCalls.wq Tryz.func32 (s32n b head) (q32n b head) h
end
noncomputable section
structure GoodN(M:MS):Prop where
 nd:(M.map (·.1)).Nodup
 pos:∀p∈M,0<p.2
theorem cnt_mem:∀ {M:MS},(M.map (·.1)).Nodup→∀p∈M,cntN M p.1=p.2
 |[],_,p,hp=>absurd hp List.not_mem_nil
 |(a,n)::M,hn,p,hp=>by
  rw[cntN_cons]
  rw[List.map_cons,List.nodup_cons]at hn
  rcases List.mem_cons.1 hp with rfl|q
  ·rw[if_pos rfl]
  ·have:a≠p.1:=fun e=>hn.1 (e▸List.mem_map.2 ⟨p,q,rfl⟩)
   rw[if_neg this];exact cnt_mem hn.2 p q
theorem cnt_zero:∀ {M:MS} {s:ByteArray},s∉M.map (·.1)→cntN M s=0
 |[],_,_=>rfl
 |(a,n)::M,s,h=>by
  rw[List.map_cons,List.mem_cons]at h
  rw[cntN_cons,if_neg (fun e=>h (.inl e.symm))]
  exact cnt_zero fun q=>h (.inr q)
theorem key_pos{M:MS}(h:GoodN M){s:ByteArray}:s∈M.map (·.1)↔0<cntN M s:=by
 constructor
 ·intro hs
  obtain⟨p,hp,rfl⟩:=List.mem_map.1 hs
  rw[cnt_mem h.nd p hp];exact h.pos p hp
 ·intro hc
  by_cases hs:s∈M.map (·.1)
  ·exact hs
  ·rw[cnt_zero hs]at hc;omega
theorem good_add{M:MS}(h:GoodN M)(s:ByteArray):GoodN (addN M s):=by
 unfold addN
 rcases idxN_cases M s with⟨hj,hs,hn⟩|⟨he,hn⟩
 ·rw[if_pos hj]
  have hcm:=cnt_mem h.nd M[idxN M s] (List.getElem_mem hj)
  rw[hs]at hcm
  have hp:=h.pos M[idxN M s] (List.getElem_mem hj)
  refine⟨?_,fun p hp2=> ?_⟩
  ·have e:(M.set (idxN M s) (s,cntN M s+1)).map (·.1)=M.map (·.1):=by
    apply List.ext_getElem?
    intro i
    rw[List.map_set]
    by_cases hi:idxN M s=i
    ·subst hi;rw[List.getElem?_set_self (by simpa using hj),(keyN hj hs hn).1]
    ·rw[List.getElem?_set_ne hi]
   rw[e];exact h.nd
  ·rcases List.mem_or_eq_of_mem_set hp2 with q|rfl
   ·exact h.pos p q
   ·simp only;omega
 ·rw[if_neg (by omega)]
  refine⟨?_,fun p hp=> ?_⟩
  ·rw[List.map_append,List.nodup_append]
   refine⟨h.nd,by simp,fun a ha b hb=> ?_⟩
   simp only[List.map_cons,List.map_nil,List.mem_singleton]at hb
   subst hb
   exact fun e=>noN hn (e▸ha)
  ·rcases List.mem_append.1 hp with q|q
   ·exact h.pos p q
   ·rw[List.mem_singleton.1 q];show(0:Int)<1;omega
theorem good_run(hd:Int)(H:List (Nat→Int)):∀(K:List Stretch) (S:ES),GoodN S.1→GoodN (K.foldl (stepE hd H) S).1
 |[],_,h=>h
 |x::K,S,h=>by
  rw[List.foldl_cons]
  refine good_run hd H K _ ?_
  unfold stepE
  split
  ·split
   ·exact h
   ·exact good_add h _
  ·exact h
theorem good_ever(hd:Int)(K:List Stretch)(l:List Truth):GoodN (everX hd K l):=by
 have:∀(l:List Truth) (M:MS),GoodN M→GoodN (l.foldl (fun M t=>(runE hd (t.haves.map fnH) K M).1) M):=by
  intro l
  induction l with
  |nil=>intro M h;exact h
  |cons t l ih=>intro M h;rw[List.foldl_cons];exact ih _ (good_run hd _ K (M,[]) h)
 exact this l [] ⟨List.nodup_nil,fun p hp=>absurd hp List.not_mem_nil⟩
theorem seen_days{b:Book}(h:OkBook b){t:Truth}(ht:t∈truthsR b []){hd:Int}(hh:0≤hd∧hd<b.bodies.length){s:ByteArray}:∀n:Nat,n≤364→seenR b t hd (n:Int)=s→∃d∈daysR b,seenR b t hd d=s
 |0,hn,e=>⟨0,mem_days ⟨by omega,by omega⟩ (.inl (by unfold marksR;simp)),e⟩
 |n+1,hn,e=>by
  by_cases hm:((n:Int)+1)∈marksR b
  ·exact⟨((n+1:Nat):Int),mem_days ⟨by omega,by omega⟩ (.inl (by simpa using hm)),e⟩
  ·have:=seen_same h ht hh hm
   refine seen_days h ht hh n (by omega) ?_
   rw[←this];simpa using e
theorem met_shown{b:Book}(h:OkBook b){t:Truth}(ht:t∈truthsR b []){hd:Int}(hh:0≤hd∧hd<b.bodies.length){s:ByteArray}(hs:s≠ByteArray.empty):metE hd (t.haves.map fnH) (stretchesR b) s=shownR b t hd s (daysR b):=by
 rw[Bool.eq_iff_iff]
 unfold metE shownR
 rw[List.any_eq_true,List.any_eq_true]
 constructor
 ·rintro⟨x,hx,e⟩
  rw[Bool.and_eq_true,decide_eq_true_eq]at e
  have g:=stretch_good hx
  have ghi:=stretch_hi hx
  have hseen:=(stretch_seen h ht hh (day:=x.span.lo) ⟨g.lo,by have:=g.le;omega⟩ hs).2 ⟨x,hx,e.2,(hit_iff h ht hx (stretch_line hx)).1 e.1,Int.le_refl _,g.le⟩
  have hn:((x.span.lo.toNat:Nat):Int)=x.span.lo:=Int.toNat_of_nonneg g.lo
  obtain⟨d,hd1,hd2⟩:=seen_days h ht hh (s:=s) x.span.lo.toNat (by have:=g.le;have:=g.lo;omega) (by rw[hn];exact hseen)
  exact⟨d,hd1,same_iff.2 hd2⟩
 ·rintro⟨d,hd1,e⟩
  obtain⟨x,hx,h1,h2,_,_⟩:=(stretch_seen h ht hh (days_in hd1) hs).1 (same_iff.1 e)
  exact⟨x,hx,by rw[Bool.and_eq_true,decide_eq_true_eq];exact⟨(hit_iff h ht hx (stretch_line hx)).2 h2,h1⟩⟩
theorem ever_many{b:Book}(h:OkBook b){hd:Int}(hh:0≤hd∧hd<b.bodies.length){s:ByteArray}(hs:s≠ByteArray.empty):cntN (everX hd (stretchesR b) (truthsR b [])) s=(manyS b (truthsR b []) hd s:Int):=by
 rw[everX_count]
 unfold manyS
 congr 2
 exact List.filter_congr fun t ht=>met_shown h ht hh hs
theorem ever_empty{b:Book}{hd:Int}:cntN (everX hd (stretchesR b) (truthsR b [])) ByteArray.empty=0:=by
 rw[everX_count]
 have:(truthsR b []).filter (fun t=>metE hd (t.haves.map fnH) (stretchesR b) ByteArray.empty)=[]:=by
  rw[List.filter_eq_nil_iff]
  intro t _ e
  unfold metE at e
  obtain⟨x,hx,e⟩:=List.any_eq_true.1 e
  rw[Bool.and_eq_true,decide_eq_true_eq]at e
  exact(stretch_good hx).ne e.2
 rw[this];rfl
end
noncomputable section
theorem nodup_len{α:Type}[DecidableEq α]:∀ {l r:List α},l.Nodup→(∀x∈l,x∈r)→l.length≤r.length
 |[],_,_,_=>Nat.zero_le _
 |a::l,r,hn,hs=>by
  have ha:=hs a (List.mem_cons_self ..)
  have h1:=List.nodup_cons.1 hn
  have:=nodup_len (l:=l) (r:=r.erase a) h1.2 fun x hx=>(List.mem_erase_of_ne (fun(e:x=a)=>h1.1 (e▸hx))).2 (hs x (List.mem_cons_of_mem _ hx))
  rw[List.length_erase_of_mem ha]at this
  have:=List.length_pos_of_mem ha
  rw[List.length_cons];omega
theorem left_memE{n:Nat}{seen:Array Nat}{j:Nat}(h:j<(leftM n seen).length):(leftM n seen).getD j 0<n∧(leftM n seen).getD j 0∉seen.toList:=by
 have:(leftM n seen).getD j 0∈leftM n seen:=by rw[List.getD_eq_getElem?_getD,List.getElem?_eq_getElem h];exact List.getElem_mem h
 have:=List.mem_filter.1 this
 refine⟨List.mem_range.1 this.1,fun hm=> ?_⟩
 have h2:=this.2
 rw[Array.contains_iff_mem.2 (Array.mem_toList_iff.1 hm)]at h2
 cases h2
def kvE(M:MS)(i:Nat):ByteArray × Int:=M.getD i (ByteArray.empty,0)
structure WalkE(M:MS)(n:Int)(p:List ByteArray × List ByteArray × Array Nat):Prop where
 nd:p.2.2.toList.Nodup
 lt:∀i∈p.2.2.toList,i<M.length
 may:p.1=((p.2.2.toList.map (kvE M)).map (·.1)).reverse
 sure:p.2.1=(((p.2.2.toList.map (kvE M)).filter fun e=>e.2==n).map (·.1)).reverse
theorem WalkE.nil(M:MS)(n:Int):WalkE M n ([],[], #[]):=⟨List.nodup_nil,fun _ h=>absurd h List.not_mem_nil,rfl,rfl⟩
theorem WalkE.push{M:MS}{n:Int}{may sure:List ByteArray}{seen:Array Nat}(h:WalkE M n (may,sure,seen)){j:Nat}(hj:j<(leftM M.length seen).length):
  WalkE M n ((kvE M ((leftM M.length seen).getD j 0)).1::may,(if((kvE M ((leftM M.length seen).getD j 0)).2==n)=true then(kvE M ((leftM M.length seen).getD j 0)).1::sure else sure),seen.push ((leftM M.length seen).getD j 0)):=by
 obtain⟨h1,h2,h3,h4⟩:=h
 obtain⟨g1,g2⟩:=left_memE hj
 simp only at h1 h2 h3 h4
 generalize(leftM M.length seen).getD j 0=i at*
 refine⟨?_,?_,?_,?_⟩
 ·simp only[Array.toList_push]
  rw[List.nodup_append]
  exact⟨h1,by simp,fun a ha b hb=>by rw[List.mem_singleton]at hb;subst hb;exact fun e=>g2 (e▸ha)⟩
 ·simp only[Array.toList_push,List.mem_append,List.mem_singleton]
  rintro i (hi|rfl)
  ·exact h2 i hi
  ·exact g1
 ·simp[h3]
 ·simp only[Array.toList_push,List.map_append,List.filter_append,List.reverse_append,h4,List.map_cons,List.map_nil,List.filter_cons,List.filter_nil]
  split<;>simp
theorem WalkE.size{M:MS}{n:Int}{p:List ByteArray × List ByteArray × Array Nat}(h:WalkE M n p):p.2.2.size≤M.length∧p.1.length=p.2.2.size∧p.2.1.length≤p.2.2.size:=by
 have h1:=nodup_len (r:=List.range M.length) h.nd fun x hx=>List.mem_range.2 (h.lt x hx)
 rw[List.length_range,Array.length_toList]at h1
 refine⟨h1,?_,?_⟩
 ·rw[h.may];simp
 ·rw[h.sure,List.length_reverse,List.length_map]
  refine Nat.le_trans (List.length_filter_le _ _) ?_
  rw[List.length_map,Array.length_toList];exact Nat.le_refl _
theorem WalkE.less{M:MS}{n:Int}{may sure:List ByteArray}{seen:Array Nat}(h:WalkE M n (may,sure,seen)){j:Nat}(hj:j<(leftM M.length seen).length):M.length-(seen.push ((leftM M.length seen).getD j 0)).size<M.length-seen.size:=by
 have:=(h.push hj).size.1
 simp only[Array.size_push]at this⊢
 omega
theorem WalkE.done{M:MS}{n:Int}{p:List ByteArray × List ByteArray × Array Nat}(h:WalkE M n p)(h0:leftM M.length p.2.2=[]):p.1.reverse.Perm (M.map (·.1))∧p.2.1.reverse.Perm ((M.filter fun e=>e.2==n).map (·.1)):=by
 have hp:p.2.2.toList.Perm (List.range M.length):=(List.perm_ext_iff_of_nodup h.nd List.nodup_range).2 fun i=>by
  constructor
  ·exact fun hi=>List.mem_range.2 (h.lt i hi)
  ·intro hi
   have:=List.filter_eq_nil_iff.1 h0 i hi
   rw[Bool.not_eq_true',Bool.not_eq_false,Array.contains_iff_mem]at this
   exact Array.mem_toList_iff.2 this
 have hm:(List.range M.length).map (kvE M)=M:=by
  apply List.ext_getElem
  ·simp
  ·intro i h1 h2
   simp[kvE,List.getD_eq_getElem?_getD,h2]
 have hq:=hp.map (kvE M)
 rw[hm]at hq
 refine⟨?_,?_⟩
 ·rw[h.may,List.reverse_reverse];exact hq.map _
 ·rw[h.sure,List.reverse_reverse];exact(hq.filter _).map _
theorem shown_person{b:Book}{t:Truth}{hd:Int}{s:ByteArray}(hs:s≠ByteArray.empty){D:List Int}(h:shownR b t hd s D=true):s∈personsR b:=by
 unfold shownR at h
 obtain⟨d,_,e⟩:=List.any_eq_true.1 h
 rw[same_iff]at e
 unfold personsR
 rw[mem_sortU]
 unfold allNames
 rw[List.mem_flatMap]
 unfold seenR at e
 by_cases hk:(bodyOf (atR b t d) hd).toNat<b.bodies.length
 ·refine⟨_,getD_mem zBody _ _ hk,?_⟩
  rcases named_mem (b.bodies.getD (bodyOf (atR b t d) hd).toNat zBody) d with q|q
  ·exact absurd (e.symm.trans q) hs
  ·rw[e]at q;exact q
 ·rcases named_mem (b.bodies.getD (bodyOf (atR b t d) hd).toNat zBody) d with q|q
  ·exact absurd (e.symm.trans q) hs
  ·rw[List.getD_eq_getElem?_getD,List.getElem?_eq_none (by omega)]at q
   exact absurd q List.not_mem_nil
theorem ever_keys{b:Book}(h:OkBook b){hd:Int}(hh:0≤hd∧hd<b.bodies.length){s:ByteArray}:s∈(everX hd (stretchesR b) (truthsR b [])).map (·.1)↔s∈(personsR b).filter fun s=>decide (0<manyS b (truthsR b []) hd s):=by
 rw[key_pos (good_ever hd (stretchesR b) (truthsR b [])),List.mem_filter,decide_eq_true_eq]
 by_cases hs:s=ByteArray.empty
 ·subst hs
  rw[ever_empty]
  constructor
  ·intro q;omega
  ·intro q
   exact absurd rfl (allNames_ne h _ (mem_sortU.1 q.1))
 ·rw[ever_many h hh hs]
  constructor
  ·intro q
   refine⟨?_,by omega⟩
   have:0<manyS b (truthsR b []) hd s:=by omega
   unfold manyS at this
   obtain⟨t,ht⟩:=List.exists_mem_of_length_pos this
   exact shown_person hs (List.mem_filter.1 ht).2
  ·intro q;omega
theorem ever_sure{b:Book}(h:OkBook b){hd:Int}(hh:0≤hd∧hd<b.bodies.length)(hne:0<(truthsR b []).length){s:ByteArray}:s∈((everX hd (stretchesR b) (truthsR b [])).filter fun e=>e.2==((truthsR b []).length:Int)).map (·.1)↔s∈(personsR b).filter fun s=>manyS b (truthsR b []) hd s==(truthsR b []).length:=by
 have hg:=good_ever hd (stretchesR b) (truthsR b [])
 have hk:=ever_keys h hh (s:=s)
 rw[List.mem_filter,beq_iff_eq]
 rw[List.mem_filter,decide_eq_true_eq]at hk
 constructor
 ·intro q
  obtain⟨p,hp,rfl⟩:=List.mem_map.1 q
  obtain⟨hp1,hp2⟩:=List.mem_filter.1 hp
  rw[beq_iff_eq]at hp2
  have hkm:=hk.1 (List.mem_map.2 ⟨p,hp1,rfl⟩)
  refine⟨hkm.1,?_⟩
  have e:=cnt_mem hg.nd p hp1
  have hs:p.1≠ByteArray.empty:=allNames_ne h _ (mem_sortU.1 hkm.1)
  rw[ever_many h hh hs]at e
  omega
 ·rintro⟨q1,q2⟩
  have hs:s≠ByteArray.empty:=allNames_ne h _ (mem_sortU.1 q1)
  obtain⟨p,hp,rfl⟩:=List.mem_map.1 (hk.2 ⟨q1,by omega⟩)
  refine List.mem_map.2 ⟨p,List.mem_filter.2 ⟨hp,?_⟩,rfl⟩
  have e:=cnt_mem hg.nd p hp
  rw[ever_many h hh hs]at e
  rw[beq_iff_eq];omega
theorem sortT_filt{b:Book}{p:ByteArray→Bool}{l m:List ByteArray}(hl:l.Perm m)(hn:m.Nodup)(hm:∀s,s∈m↔s∈(personsR b).filter p):sortT l=(personsR b).filter p:=by
 rw[sort_same (hl.nodup_iff.2 hn)]
 refine up_ext (sortU_up _) ((sortU_up _).filter _) fun s=> ?_
 rw[mem_sortU,hl.mem_iff];exact hm s
theorem WalkE.len{b:Book}(h:OkBook b){hd:Int}(hh:0≤hd∧hd<b.bodies.length){n:Int}{p:List ByteArray × List ByteArray × Array Nat}(hw:WalkE (everX hd (stretchesR b) (truthsR b [])) n p):p.1.length≤15∧p.2.1.length≤15:=by
 obtain⟨h1,h2,h3⟩:=hw.size
 have hg:=(good_ever hd (stretchesR b) (truthsR b [])).nd
 have h4:=nodup_len hg fun x hx=>(List.mem_filter.1 ((ever_keys h hh).1 hx)).1
 rw[List.length_map]at h4
 have h5:=persons_len h
 omega
theorem WalkE.end_{b:Book}(h:OkBook b){hd:Int}(hh:0≤hd∧hd<b.bodies.length)(hne:0<(truthsR b []).length){p:List ByteArray × List ByteArray × Array Nat}(hw:WalkE (everX hd (stretchesR b) (truthsR b [])) ((truthsR b []).length:Int) p)(h0:leftM (everX hd (stretchesR b) (truthsR b [])).length p.2.2=[]):
  sortT p.1.reverse=((personsR b).filter fun s=>decide (0<manyS b (truthsR b []) hd s))∧sortT p.2.1.reverse=((personsR b).filter fun s=>manyS b (truthsR b []) hd s==(truthsR b []).length):=by
 obtain⟨d1,d2⟩:=hw.done h0
 have hg:=(good_ever hd (stretchesR b) (truthsR b [])).nd
 refine⟨sortT_filt d1 hg fun s=>ever_keys h hh,sortT_filt d2 ?_ fun s=>ever_sure h hh hne⟩
 exact List.Sublist.nodup (List.filter_sublist.map _) hg
theorem sem_make32(h:List Blk):SemOK Tryz.prog (opAt Tryz.f32 6 0) [] h (.map h.length) (h++ [.obj (mT [])]):=by
 have e:opAt Tryz.f32 6 0=.makeMap 140 none:=by kernel_rfl
 rw[e];exact semT_make 140
theorem sem_range32(h:List Blk)(M:MS)(hq:h[8]? =some (.obj (mT M))):SemOK Tryz.prog (opAt Tryz.f32 18 1) [(.tmp 70,.map 8)] h (.ref h.length 0 0) (h++ [.iter (.map 8) M.length #[]]):=by
 have e:opAt Tryz.f32 18 1=.range 140 (.tmp 70):=by kernel_rfl
 rw[e];exact semT_range (kt:=9) (et:=3) (by kernel_rfl) hq
theorem sem_next32(h:List Blk)(M:MS)(seen:Array Nat)(hq:h[8]? =some (.obj (mT M)))(hi:h[11]? =some (.iter (.map 8) M.length seen))(h0:leftM M.length seen≠ []):
  SemAny Tryz.prog (opAt Tryz.f32 19 0) [(.tmp 71,.ref 11 0 0)] h (leftM M.length seen).length (fun j=>.tuple [.bool true,.str (M.getD ((leftM M.length seen).getD j 0) (ByteArray.empty,0)).1,iI (M.getD ((leftM M.length seen).getD j 0) (ByteArray.empty,0)).2])
   (fun j=>h.set 11 (.iter (.map 8) M.length (seen.push ((leftM M.length seen).getD j 0)))):=by
 have e:opAt Tryz.f32 19 0=.next (.tmp 71) false:=by kernel_rfl
 rw[e];exact semT_next1 hq hi h0
theorem sem_next32'(h:List Blk)(M:MS)(seen:Array Nat)(hq:h[8]? =some (.obj (mT M)))(hi:h[11]? =some (.iter (.map 8) M.length seen))(h0:leftM M.length seen=[]):
  SemOK Tryz.prog (opAt Tryz.f32 19 0) [(.tmp 71,.ref 11 0 0)] h (.tuple [.bool false]) h:=by
 have e:opAt Tryz.f32 19 0=.next (.tmp 71) false:=by kernel_rfl
 rw[e];exact semT_next0 hq hi h0
theorem sem_entry32(h:List Blk)(M:MS)(seen:Array Nat)(j:Nat)(hq:h[8]? =some (.obj (mT M)))(hi:h[11]? =some (.iter (.map 8) M.length (seen.push j)))(hj:j<M.length):
  SemOK Tryz.prog (opAt Tryz.f32 20 0) [(.tmp 71,.ref 11 0 0)] h (.tuple [.str (M.getD j (ByteArray.empty,0)).1,iI (M.getD j (ByteArray.empty,0)).2]) h:=by
 have e:opAt Tryz.f32 20 0=.entry (.tmp 71):=by kernel_rfl
 rw[e];exact semT_entry hq hi (by simp) hj
theorem VLe.sortR(a:List ByteArray):VLe (.list 1 a.length (rowsOf tstr (sortT a.reverse))) (tstr.lst (sortT a.reverse)):=by
 have:a.length=(sortT a.reverse).length:=by rw[sortT_len,List.length_reverse]
 rw[this];exact VLe.refl _
set_option maxHeartbeats 4000000 in
theorem wl32(b:Book)(head:Int)(h:OkBook b)(hh:0≤head∧head<b.bodies.length)(hne:0<(truthsR b []).length)(he:everR b head=((personsR b).filter (fun s=>manyS b (truthsR b []) head s==(truthsR b []).length),(personsR b).filter (fun s=>decide (0<manyS b (truthsR b []) head s)),0)):
  WP Tryz.prog ⟨none,0⟩ (T32y b head) (Ends' fun r=>v32y b head r=.tuple [tstr.lst (everR b head).1,tstr.lst (everR b head).2.1,iI (everR b head).2.2]) (.l1 [] [] #[]):=by
 refine WP.while (T:=T32y b head) (σ:=List ByteArray × List ByteArray × Array Nat) (fun p=>.l1 p.1 p.2.1 p.2.2) (fun p=>WalkE (everX head (stretchesR b) (truthsR b [])) ((truthsR b []).length:Int) p) (fun p=>(everX head (stretchesR b) (truthsR b [])).length-p.2.2.size) (fun p hw=> ?_) (s:=([],[], #[])) (WalkE.nil _ _)
 obtain⟨may,sure,seen⟩:=p
 obtain⟨l1,l2⟩:=hw.len h hh
 have hk:may.length+1≤4294967296:=by simp only at l1;omega
 have hk2:sure.length+1≤4294967296:=by simp only at l2;omega
 by_cases hz:leftM (everX head (stretchesR b) (truthsR b [])).length seen=[]
 ·obtain⟨e1,e2⟩:=hw.end_ h hh hne hz
  simp only at e1 e2
  rw[he,←e1,←e2]
  refine WP.once ?_
  simp only[T32y,Tr.sure,SS,hz]
  repeat' with_reducible first|intro _|apply And.intro
  all_goals first|exact(sem_next32' _ _ _ rfl rfl hz)|exact(c82r _ 3 sure rfl)|exact(c82r _ 2 may rfl)|exact(VLe.sortR _)|(simp[Go,Ends',v32y,-List.getD_eq_getElem?_getD, *];done)
  all_goals first
   |exact .inr rfl
 ·have hp0:=fun j hj=>hw.push (j:=j) hj
  refine WP.once ?_
  simp only[T32y,Tr.sure,SS,hz]
  repeat' with_reducible first|intro _|apply And.intro
  all_goals first|exact(sem_next32 _ _ _ rfl rfl hz)|exact(sem_entry32 _ _ _ _ rfl rfl (left_memE (by with_reducible assumption)).1)|(simp[hk,hk2,Go,Ends',v32y,-List.getD_eq_getElem?_getD, *];done)|skip
  ·rename_i j hj _ hx _
   have hp:=hp0 j hj
   rw[if_pos (by rw[beq_iff_eq];exact hx)]at hp
   exact .inl ⟨(_,_,_),rfl,hp,hw.less hj⟩
  ·rename_i j hj _ hx
   have hp:=hp0 j hj
   rw[if_neg (by rw[beq_iff_eq];exact hx)]at hp
   exact .inl ⟨(_,_,_),rfl,hp,hw.less hj⟩
theorem c32(b:Book)(head:Int):PC 32 [.agg (tBook.cells b),iI head] (·=.tuple [tstr.lst (everR b head).1,tstr.lst (everR b head).2.1,iI (everR b head).2.2]):=by
 have k74:=c74 b 0 [head]
 have hlit:VLe (.list 1 1 (litC 1 1 [iI head])) (tint.lst [head]):=VLe.lit tint [head] rfl rfl (fun _=>rfl)
 by_cases h0:(toldR b [head] 0).2=0
 ·obtain⟨hok,hns,hday,hne,htl⟩:=told_ok h0
  have hv:=hns head (by simp)
  rw[if_pos h0,h0]at k74
  have he:everR b head=((personsR b).filter (fun s=>manyS b (truthsR b []) head s==(truthsR b []).length),(personsR b).filter (fun s=>decide (0<manyS b (truthsR b []) head s)),0):=by unfold everR;rw[if_neg (fun q=>q h0)]
  have k75:=c75 (lookOf b) 0
  have k84:=c84x b hok
  have hsl:(stretchesR b).length≤100000:=by have:=strD_len hok 365;unfold stretchesR;omega
  have hr:=range32 b hok head (stretchesR b) hsl fun x hx=>by
   obtain⟨j,hj,hjb⟩:=(stretch_good hx).body
   have:=stretch_line hx
   have:=hok.nb
   omega
  have hmain:=wl32 b head hok hv hne he
  have u1:underL 0 [tStretch.lst (stretchesR b)]=true:=rfl
  refine w32y b head (WP.step ?_)
  simp only[T32y,Go,Ends',v32y,Tr.sure,SS]
  repeat' with_reducible first|intro _|apply And.intro
  all_goals first|exact k74|exact k75|exact(by with_reducible exact hlit)|exact(k84 _)|exact(sem_make32 _)|exact hr|exact(sem_range32 _ _ rfl)|exact hmain|exact u1|exact(VLe.refl _)|(simp[Go,Ends',v32y,-List.getD_eq_getElem?_getD, *];done)
 ·have hP:everR b head=([],[],(toldR b [head] 0).2):=by unfold everR;rw[if_pos h0]
  rw[if_neg h0]at k74
  rw[hP]
  refine w32n b head (WP.step ?_)
  simp only[T32n,Go,Ends',v32n,Tr.sure,SS,h0]
  repeat' with_reducible first|intro _|apply And.intro
  all_goals first|exact(PCalls.arg (pre:=[.agg (tBook.cells b),iI 0]) k74 hlit)|(simp[h0,Go,Ends',v32n,-List.getD_eq_getElem?_getD, *];done)
end
noncomputable section
def nmKing:ByteArray:=ByteArray.mk #[107,105,110,103]
def nmBishop:ByteArray:=ByteArray.mk #[98,105,115,104,111,112]
def nmClown:ByteArray:=ByteArray.mk #[99,108,111,119,110]
def nmNun:ByteArray:=ByteArray.mk #[110,117,110]
def nmJudge:ByteArray:=ByteArray.mk #[106,117,100,103,101]
def bkBodies:List Body:=[⟨ByteArray.mk #[107],[⟨0,nmKing⟩,⟨20,nmBishop⟩]⟩,⟨ByteArray.mk #[99],[⟨0,nmClown⟩]⟩,⟨ByteArray.mk #[110],[⟨0,nmNun⟩]⟩,⟨ByteArray.mk #[106],[⟨10,nmJudge⟩]⟩]
def bkHeads:List ByteArray:=[ByteArray.mk #[97,100,97],ByteArray.mk #[98,101,110],ByteArray.mk #[99,121],ByteArray.mk #[100,111,116]]
def bkLines:List Line:=[⟨5,0,0,1,0,0,0⟩,⟨10,1,0,2,1,3,0⟩,⟨15,2,0,0,0,0,7⟩,⟨18,3,0,2,0,0,0⟩]
def bkW:List Line:=bkLines++ [⟨25,3,1,2,0,0,0⟩]
def bkB:Book:=⟨bkBodies,bkHeads,bkLines⟩
def bkM:Book:=⟨bkBodies,bkHeads,bkW⟩
theorem bk_first:firstP bkB=([⟨0,1⟩,⟨0,2⟩,⟨1,2⟩,⟨0,0⟩],0):=by kernel_rfl
theorem bk_where:whereR bkB 0 18=([2,3],0):=by kernel_rfl
theorem bk_on:onR bkB 1 18=([1,3],0):=by kernel_rfl
theorem bk_many:manyR bkB 18=(2,0):=by kernel_rfl
theorem bk_as:asR bkB 0 18=([nmJudge,nmNun],0):=by kernel_rfl
theorem bk_ever:everR bkB 0=([nmClown,nmKing],[nmClown,nmJudge,nmKing,nmNun],0):=by kernel_rfl
theorem bk_between:betweenR bkB 2 nmKing=(⟨10,19⟩,0):=by kernel_rfl
theorem bk_wrong:wrongR bkM=([3],0):=by kernel_rfl
theorem bk_zero:firstP bkM=([],8):=by kernel_rfl
theorem bk_none:betweenR bkB 3 nmBishop=(zSpan,4):=by kernel_rfl
inductive P93
 |e
inductive R93
 |r0 (r0_0:Int) (r0_1:ByteArray)
noncomputable def T93(d:Int)(s:ByteArray):P93→Tr P93 R93
 |.e=>(.out (.r0 d s))
noncomputable def g93(d:Int)(s:ByteArray):P93→List Item × St
 |.e=>bd Tryz.f93 [iI d,.str s] 6
noncomputable def n93:R93→Exit × St
 |.r0 r0_0 r0_1=>(.ret,⟨mk 8 [(4,.ref 0 0 0)],[.cells [iI r0_0,.str r0_1]],[]⟩)
noncomputable def v93:R93→V
 |.r0 r0_0 r0_1=>.agg [iI r0_0,.str r0_1]
theorem s93(d:Int)(s:ByteArray):Sm 0 (g93 d s) (T93 d s) (n93)
 |.e=>⟨400,by kernel_rfl⟩
theorem q93:∀r,bodyQ Tryz.prog Tryz.f93 (·=v93 r) (n93 r).1 (n93 r).2
 |.r0 r0_0 r0_1=>bq (.agg [iI r0_0,.str r0_1]) (by kernel_rfl)
theorem w93(d:Int)(s:ByteArray){post:V→Prop}(h:WQ (T93 d s) v93 post .e):PC 93 [iI d,.str s] post:=
 PCalls.wq Tryz.func93 (s93 d s) q93 h
inductive P94
 |e
inductive R94
 |r0 (r0_0:Int) (r0_1:Int) (r0_2:Int) (r0_3:Int) (r0_4:Int) (r0_5:Int) (r0_6:Int)
noncomputable def T94(d:Int)(x:Int)(y:Int):P94→Tr P94 R94
 |.e=>(.out (.r0 d 3 x y 0 0 0))
noncomputable def g94(d:Int)(x:Int)(y:Int):P94→List Item × St
 |.e=>bd Tryz.f94 [iI d,iI x,iI y] 8
noncomputable def n94:R94→Exit × St
 |.r0 r0_0 r0_1 r0_2 r0_3 r0_4 r0_5 r0_6=>(.ret,⟨mk 11 [(6,.ref 0 0 0)],[.cells [iI r0_0,iI r0_1,iI r0_2,iI r0_3,iI r0_4,iI r0_5,iI r0_6]],[]⟩)
noncomputable def v94:R94→V
 |.r0 r0_0 r0_1 r0_2 r0_3 r0_4 r0_5 r0_6=>.agg [iI r0_0,iI r0_1,iI r0_2,iI r0_3,iI r0_4,iI r0_5,iI r0_6]
theorem s94(d:Int)(x:Int)(y:Int):Sm 0 (g94 d x y) (T94 d x y) (n94)
 |.e=>⟨400,by kernel_rfl⟩
theorem q94:∀r,bodyQ Tryz.prog Tryz.f94 (·=v94 r) (n94 r).1 (n94 r).2
 |.r0 r0_0 r0_1 r0_2 r0_3 r0_4 r0_5 r0_6=>bq (.agg [iI r0_0,iI r0_1,iI r0_2,iI r0_3,iI r0_4,iI r0_5,iI r0_6]) (by kernel_rfl)
theorem w94(d:Int)(x:Int)(y:Int){post:V→Prop}(h:WQ (T94 d x y) v94 post .e):PC 94 [iI d,iI x,iI y] post:=
 PCalls.wq Tryz.func94 (s94 d x y) q94 h
inductive P92
 |e
inductive R92
 |r0 (r0_0:ByteArray) (r0_1:List Shown)
noncomputable def T92(nm:ByteArray)(l:List Shown):P92→Tr P92 R92
 |.e=>(.out (.r0 nm l))
noncomputable def g92(nm:ByteArray)(l:List Shown):P92→List Item × St
 |.e=>bd Tryz.f92 [.str nm,tShown.lst l] 6
noncomputable def n92:R92→Exit × St
 |.r0 r0_0 r0_1=>(.ret,⟨mk 8 [(4,.ref 0 0 0)],[.cells [.str r0_0,tShown.lst r0_1]],[]⟩)
noncomputable def v92:R92→V
 |.r0 r0_0 r0_1=>.agg [.str r0_0,tShown.lst r0_1]
theorem s92(nm:ByteArray)(l:List Shown):Sm 0 (g92 nm l) (T92 nm l) (n92)
 |.e=>⟨400,by kernel_rfl⟩
theorem q92:∀r,bodyQ Tryz.prog Tryz.f92 (·=v92 r) (n92 r).1 (n92 r).2
 |.r0 r0_0 r0_1=>bq (.agg [.str r0_0,tShown.lst r0_1]) (by kernel_rfl)
theorem w92(nm:ByteArray)(l:List Shown){post:V→Prop}(h:WQ (T92 nm l) v92 post .e):PC 92 [.str nm,tShown.lst l] post:=
 PCalls.wq Tryz.func92 (s92 nm l) q92 h
theorem c93(d:Int)(s:ByteArray):PC 93 [iI d,.str s] (·=.agg [iI d,.str s]):=by
 refine w93 d s (WP.step ?_)
 simp only[T93,Go,Ends',v93,Tr.sure,SS]
 repeat' with_reducible first|intro _|apply And.intro
theorem c94(d x y:Int):PC 94 [iI d,iI x,iI y] (·=.agg [iI d,iI 3,iI x,iI y,iI 0,iI 0,iI 0]):=by
 refine w94 d x y (WP.step ?_)
 simp only[T94,Go,Ends',v94,Tr.sure,SS]
 repeat' with_reducible first|intro _|apply And.intro
theorem c92(nm:ByteArray)(l:List Shown):PC 92 [.str nm,tShown.lst l] (·=.agg [.str nm,tShown.lst l]):=by
 refine w92 nm l (WP.step ?_)
 simp only[T92,Go,Ends',v92,Tr.sure,SS]
 repeat' with_reducible first|intro _|apply And.intro
noncomputable def o38_3:Array Oper:=(regOf 3 (Tryz.f38.body.getD .skip)).getD #[]
@[reducible] noncomputable def st38_3 (more:Bool) (c0 c1 c2 c3:Bool):St:=⟨[.bool more,uU,.ref 0 0 0,.ref 8 0 0,uU,uU,uU,uU,uU,uU,uU,uU,uU,uU,uU,uU,uU,uU,uU,uU,uU,uU,uU,uU,uU,.bool more,(bif c0 then .ref 8 0 2 else(uU)),(bif c1 then .row 7 4 else(uU)),(bif c2 then .agg [iI 25,iI 3,iI 1,iI 2,iI 0,iI 0,iI 0]else(uU)),(bif c3 then .list 7 1 (litC 7 1 [iI 25,iI 3,iI 1,iI 2,iI 0,iI 0,iI 0])else(uU)),uU,uU,uU],[.cells [.nils,.nils,.nils],.gone,.gone,.gone,.gone,.gone,.gone,.rows 66 7 4 (rowsOf tLine bkLines),.cells [tBody.lst bkBodies,tstr.lst bkHeads,.row 7 4]],[]⟩
theorem sp38_3_0(more:Bool)(c2 c3:Bool):AStep Tryz.prog ⟨none,0⟩ o38_3 0 (st38_3 more false false c2 c3) (st38_3 more true false c2 c3):=by
 refine AStep.to (AStep.read (o:=o38_3.getD 0 default) (b:=true) (v:=.ref 8 0 2) (by kernel_rfl) (by kernel_rfl) (fun _ h=>by cases h) (by kernel_rfl) ?_) (by kernel_rfl)
 rfl
theorem sp38_3_1(more:Bool)(c2 c3:Bool):AStep Tryz.prog ⟨none,0⟩ o38_3 1 (st38_3 more true false c2 c3) (st38_3 more true true c2 c3):=by
 refine AStep.to (AStep.read (o:=o38_3.getD 1 default) (b:=true) (v:=.row 7 4) (by kernel_rfl) (by kernel_rfl) (fun _ h=>by cases h) (by kernel_rfl) ?_) (by kernel_rfl)
 rfl
theorem sp38_3_2(more:Bool)(c0 c1:Bool):AStep Tryz.prog ⟨none,0⟩ o38_3 2 (st38_3 more c0 c1 false false) (st38_3 more c0 c1 true false):=by
 refine AStep.tree (g:=(.call 94 [iI 25,iI 1,iI 2] (.agg [iI 25,iI 3,iI 1,iI 2,iI 0,iI 0,iI 0]) true (.done .normal (st38_3 more c0 c1 true false)))) (by kernel_rfl) ?_
 simp only[DT.holds]
 repeat' (first|assumption|exact rfl|(with_reducible refine And.intro ?_ ?_))
 all_goals first|(simp[*];done)|exact c94 _ _ _
theorem sp38_3_3(more:Bool)(c0 c1:Bool):AStep Tryz.prog ⟨none,0⟩ o38_3 3 (st38_3 more c0 c1 true false) (st38_3 more c0 c1 true true):=by
 exact AStep.to (AStep.lit (o:=o38_3.getD 3 default) (t:=24) (e:=66) (len:=1) (parts:= #[(0,.tmp 28)]) (zs:=[iI 0,iI 0,iI 0,iI 0,iI 0,iI 0,iI 0]) (cs:=[iI 25,iI 3,iI 1,iI 2,iI 0,iI 0,iI 0]) (by kernel_rfl) (by kernel_rfl) (by kernel_rfl) (by kernel_rfl) (by kernel_rfl) (by kernel_rfl) (by kernel_rfl) (by kernel_rfl)) (by kernel_rfl)
theorem ov38_3(more:Bool):AWP Tryz.prog ⟨none,0⟩ (regionOf Tryz.f38 3) ⟨[.bool more,uU,.ref 0 0 0,.ref 8 0 0,uU,uU,uU,uU,uU,uU,uU,uU,uU,uU,uU,uU,uU,uU,uU,uU,uU,uU,uU,uU,uU,.bool more,uU,uU,uU,uU,uU,uU,uU],[.cells [.nils,.nils,.nils],.gone,.gone,.gone,.gone,.gone,.gone,.rows 66 7 4 (rowsOf tLine bkLines),.cells [tBody.lst bkBodies,tstr.lst bkHeads,.row 7 4]],[]⟩ (fun e T=>e=.normal∧T=⟨[.bool more,uU,.ref 0 0 0,.ref 8 0 0,uU,uU,uU,uU,uU,uU,uU,uU,uU,uU,uU,uU,uU,uU,uU,uU,uU,uU,uU,uU,uU,.bool more,.ref 8 0 2,uU,.agg [iI 25,iI 3,iI 1,iI 2,iI 0,iI 0,iI 0],.list 7 1 (litC 7 1 [iI 25,iI 3,iI 1,iI 2,iI 0,iI 0,iI 0]),.row 7 (4+1),.ref 8 0 2,uU],[.cells [.nils,.nils,.nils],.gone,.gone,.gone,.gone,.gone,.gone,.rows 66 7 (4+1) (appC 4 (rowsOf tLine bkLines) (litC 7 1 [iI 25,iI 3,iI 1,iI 2,iI 0,iI 0,iI 0])),.cells [tBody.lst bkBodies,tstr.lst bkHeads,.row 7 (4+1)]],[]⟩):=by
 have z_sz:o38_3.size=7:=by kernel_rfl
 refine AWP.region_anyC (ops:=o38_3) 4 mx (by kernel_rfl) (by omega) (fun j_ z_1 z_2=> ?_) (fun l_=>st38_3 more (l_.getD 0 false) (l_.getD 1 false) (l_.getD 2 false) (l_.getD 3 false)) (fun β_ G_ K_ a_ w_ r_=>⟨_,Homes.le_append β_ (List.replicate 0 Hm.void),?_⟩) (fun l_ i_ z_l z_i z_li z_j z_c z_r=> ?_) (fun l_ z_l z_1 z_2=> ?_)
 ·rcases show j_=4∨j_=5∨j_=6 by omega with rfl|rfl|rfl
  all_goals kernel_rfl
 ·rw[z_sz];exact r_.reserve 0
 ·have z_lt:i_<l_.size:=by omega
  simp only[gset7 z_lt]
  rcases show i_=0∨i_=1∨i_=2∨i_=3 by omega with rfl|rfl|rfl|rfl
  ·have z_g1:=reach_not (ops:=o38_3) (i:=0) (j:=1) (by kernel_rfl) z_c z_li
   simp only[Nat.reduceEqDiff,if_true,if_false,reduceIte,z_li,z_g1]
   exact sp38_3_0 more _ _
  ·have z_g0:=reach_ready (ops:=o38_3) (i:=0) (j:=1) (by kernel_rfl) z_c z_r
   simp only[Nat.reduceEqDiff,if_true,if_false,reduceIte,z_li,z_g0]
   exact sp38_3_1 more _ _
  ·have z_g3:=reach_not (ops:=o38_3) (i:=2) (j:=3) (by kernel_rfl) z_c z_li
   simp only[Nat.reduceEqDiff,if_true,if_false,reduceIte,z_li,z_g3]
   exact sp38_3_2 more _ _
  ·have z_g2:=reach_ready (ops:=o38_3) (i:=2) (j:=3) (by kernel_rfl) z_c z_r
   simp only[Nat.reduceEqDiff,if_true,if_false,reduceIte,z_li,z_g2]
   exact sp38_3_3 more _ _
 ·simp only[z_1 0 (by omega),z_1 1 (by omega),z_1 2 (by omega),z_1 3 (by omega)]
  rw[z_sz]
  refine AOps.tree (g:=(.need ((decide (4=4)&&decide (4+1≤4294967296))&&true) (.scal (fun _=>true) (.done .normal ⟨[.bool more,uU,.ref 0 0 0,.ref 8 0 0,uU,uU,uU,uU,uU,uU,uU,uU,uU,uU,uU,uU,uU,uU,uU,uU,uU,uU,uU,uU,uU,.bool more,.ref 8 0 2,uU,.agg [iI 25,iI 3,iI 1,iI 2,iI 0,iI 0,iI 0],.list 7 1 (litC 7 1 [iI 25,iI 3,iI 1,iI 2,iI 0,iI 0,iI 0]),.row 7 (4+1),.ref 8 0 2,uU],[.cells [.nils,.nils,.nils],.gone,.gone,.gone,.gone,.gone,.gone,.rows 66 7 (4+1) (appC 4 (rowsOf tLine bkLines) (litC 7 1 [iI 25,iI 3,iI 1,iI 2,iI 0,iI 0,iI 0])),.cells [tBody.lst bkBodies,tstr.lst bkHeads,.row 7 (4+1)]],[]⟩)))) (by kernel_rfl) ?_
  simp only[DT.holds]
  repeat' (first|exact rfl|refine And.intro ?_ ?_)
  all_goals simp
inductive P38
 |e
inductive R38
 |r0 (r0_0:List Body) (r0_1:List ByteArray) (r0_2:List Line)
noncomputable def T38(more:Bool):P38→Tr P38 R38
 |.e=>let c1:=([(⟨0,nmKing⟩:Shown),(⟨20,nmBishop⟩:Shown)]:List Shown);let c2:List V:=[iI 25,iI 3,iI 1,iI 2,iI 0,iI 0,iI 0];let c3:=([(⟨10,nmJudge⟩:Shown)]:List Shown);let c4:=([(⟨0,nmClown⟩:Shown)]:List Shown);let c5:=([(⟨0,nmNun⟩:Shown)]:List Shown);let c6:=rowsOf tLine bkLines;let c7:=(decide ((4+1)≤(4+1)))&&true;let c8:=(decide (4≤4))&&true;let c9:=(decide (1≤1))&&true;let c10:=rowsOf tLine bkW;let c11:List V:=[.str (ByteArray.mk #[110]),tShown.lst c5];let c12:List V:=[.str (ByteArray.mk #[107]),tShown.lst c1];let c13:List V:=[.str (ByteArray.mk #[106]),tShown.lst c3];let c14:List V:=[.str (ByteArray.mk #[99]),tShown.lst c4];let c15:List V:=[iI 10,.str nmJudge];let c16:List V:=[iI 0,.str nmClown];let c17:List V:=[iI 0,.str nmNun];(.call 93 [iI 0,.str nmKing] (.agg [iI 0,.str nmKing]) true true (.call 93 [iI 20,.str nmBishop] (.agg [iI 20,.str nmBishop]) true true (.wait 0 (.frz 1 ((decide (2≤2))&&true) (.wait 0 (.vle 6 (.list 2 2 (litC 2 2 [iI 0,.str nmKing,iI 20,.str nmBishop])) (tShown.lst c1) (.call 92 c12 (.agg c12) true true (.call 93 c16 (.agg c16) true true (.wait 0 (.frz 2 c9 (.wait 0 (.vle 9 (.list 2 1 (litC 2 1 c16)) (tShown.lst c4) (.call 92 c14 (.agg c14) true true (.call 93 c17 (.agg c17) true true (.wait 0 (.frz 3 c9 (.wait 0 (.vle 12 (.list 2 1 (litC 2 1 c17)) (tShown.lst c5) (.call 92 c11 (.agg c11) true true (.call 93 c15 (.agg c15) true true (.wait 0 (.frz 4 c9 (.wait 0 (.vle 15 (.list 2 1 (litC 2 1 c15)) (tShown.lst c3) (.call 92 c13 (.agg c13) true true (.call 94 [iI 18,iI 0,iI 2] (.agg [iI 18,iI 3,iI 0,iI 2,iI 0,iI 0,iI 0]) true true (.wait 2 (.drop ⟨[.nil,uU,.nil,.nil,uU,uU,uU,uU,uU,uU,uU,uU,uU,uU,uU,uU,uU,uU,uU,uU,uU,uU,uU,uU,uU,uU,uU,uU,uU,uU,uU,uU,uU],[.void,.void,.void,.void,.void,.void,.void,.void,.void],[]⟩ (.frz 5 (true&&(c8&&true)) (.telc 8 [.list 2 4 (litC 2 4 [.str (ByteArray.mk #[107]),tShown.lst c1,.str (ByteArray.mk #[99]),tShown.lst c4,.str (ByteArray.mk #[110]),tShown.lst c5,.str (ByteArray.mk #[106]),tShown.lst c3]),.row 6 4,.row 7 4] [tBody.lst bkBodies,.row 6 4,.row 7 4] (.frz 6 (true&&(c8&&true)) (.telc 8 [tBody.lst bkBodies,.list 1 4 (litC 1 4 [.str (ByteArray.mk #[97,100,97]),.str (ByteArray.mk #[98,101,110]),.str (ByteArray.mk #[99,121]),.str (ByteArray.mk #[100,111,116])]),.row 7 4] [tBody.lst bkBodies,tstr.lst bkHeads,.row 7 4] (.telb 7 7 4 (litC 7 4 [iI 5,iI 0,iI 0,iI 1,iI 0,iI 0,iI 0,iI 10,iI 1,iI 0,iI 2,iI 1,iI 3,iI 0,iI 15,iI 2,iI 0,iI 0,iI 0,iI 0,iI 7,iI 18,iI 3,iI 0,iI 2,iI 0,iI 0,iI 0]) c6 (.br more (.over (regionOf Tryz.f38 3) ⟨[.bool more,uU,.ref 0 0 0,.ref 8 0 0,uU,uU,uU,uU,uU,uU,uU,uU,uU,uU,uU,uU,uU,uU,uU,uU,uU,uU,uU,uU,uU,.bool more,uU,uU,uU,uU,uU,uU,uU],[.cells [.nils,.nils,.nils],.gone,.gone,.gone,.gone,.gone,.gone,.rows 66 7 4 c6,.cells [tBody.lst bkBodies,tstr.lst bkHeads,.row 7 4]],[]⟩ .normal ⟨[.bool more,uU,.ref 0 0 0,.ref 8 0 0,uU,uU,uU,uU,uU,uU,uU,uU,uU,uU,uU,uU,uU,uU,uU,uU,uU,uU,uU,uU,uU,.bool more,.ref 8 0 2,uU,.agg c2,.list 7 1 (litC 7 1 c2),.row 7 (4+1),.ref 8 0 2,uU],[.cells [.nils,.nils,.nils],.gone,.gone,.gone,.gone,.gone,.gone,.rows 66 7 (4+1) (appC 4 c6 (litC 7 1 c2)),.cells [tBody.lst bkBodies,tstr.lst bkHeads,.row 7 (4+1)]],[]⟩ true (.telb 7 7 (4+1) (appC 4 c6 (litC 7 1 c2)) c10 (.wait 2 (.frz 7 (c7&&(c7&&(c7&&true))) (.vle 30 (.list 7 (4+1) c10) (tLine.lst bkW) (.telc 0 [tBody.lst bkBodies,tstr.lst bkHeads,.list 7 (4+1) c10] [tBody.lst bkBodies,tstr.lst bkHeads,tLine.lst bkW] (.telc 8 [tBody.lst bkBodies,tstr.lst bkHeads,.list 7 (4+1) c10] [tBody.lst bkBodies,tstr.lst bkHeads,tLine.lst bkW] (.out (.r0 bkBodies bkHeads bkW))))))))) (.wait 3 (.frz 7 (true&&(c8&&(c8&&true))) (.telc 0 [tBody.lst bkBodies,tstr.lst bkHeads,.list 7 4 c6] [tBody.lst bkBodies,tstr.lst bkHeads,tLine.lst bkLines] (.telc 8 [tBody.lst bkBodies,tstr.lst bkHeads,.list 7 4 c6] [tBody.lst bkBodies,tstr.lst bkHeads,tLine.lst bkLines] (.out (.r0 bkBodies bkHeads bkLines))))))))))))))))))))))))))))))))))))))))
noncomputable def g38(more:Bool):P38→List Item × St
 |.e=>bd Tryz.f38 [.bool more] 32
noncomputable def n38:R38→Exit × St
 |.r0 r0_0 r0_1 r0_2=>(.ret,⟨mk 33 [(2,.ref 0 0 0)],[.cells [tBody.lst r0_0,tstr.lst r0_1,tLine.lst r0_2]],[]⟩)
noncomputable def v38:R38→V
 |.r0 r0_0 r0_1 r0_2=>.agg [tBody.lst r0_0,tstr.lst r0_1,tLine.lst r0_2]
theorem s38(more:Bool):Sm 0 (g38 more) (T38 more) (n38)
 |.e=>⟨400,by kernel_rfl⟩
theorem q38:∀r,bodyQ Tryz.prog Tryz.f38 (·=v38 r) (n38 r).1 (n38 r).2
 |.r0 r0_0 r0_1 r0_2=>bq (.agg [tBody.lst r0_0,tstr.lst r0_1,tLine.lst r0_2]) (by kernel_rfl)
theorem w38(more:Bool){post:V→Prop}(h:WQ (T38 more) v38 post .e):PC 38 [.bool more] post:=
 PCalls.wq Tryz.func38 (s38 more) q38 h
theorem lit_rows{τ:Type}(E:Ty τ)(xs:List τ){w n:Nat}{cs:List V}(hn:n=xs.length)(hc:xs.flatMap E.cells=cs)(hw:∀x,(E.cells x).length=E.w)(hww:w=E.w:=by rfl)(i j:Nat)(hi:i<n)(hj:j<w):VLe (litC w n cs i j) (rowsOf E xs i j):=by
 subst hww;subst hn;subst hc
 rw[litC_eq hi,flatMap_get E hw xs i j hi hj];exact VLe.refl _
theorem VLe.at{v v':V}(h:VLe v v')(pre suf:List V)(j:Nat):VLe ((pre++v::suf).getD j uU) ((pre++v'::suf).getD j uU):=by
 rcases Nat.lt_trichotomy j pre.length with q|q|q
 ·simp only[List.getD_eq_getElem?_getD,List.getElem?_append_left q];exact VLe.refl _
 ·subst q;simpa[List.getD_eq_getElem?_getD]using h
 ·obtain⟨d,rfl⟩:∃d,j=pre.length+d+1:=⟨j-pre.length-1,by omega⟩
  rw[show pre.length+d+1=pre.length+(d+1) by omega]
  simp only[List.getD_eq_getElem?_getD,List.getElem?_append_right (Nat.le_add_right _ _),Nat.add_sub_cancel_left,List.getElem?_cons_succ];exact VLe.refl _
theorem at_bodies(j:Nat):VLe (([.list 2 4 (litC 2 4 (bkBodies.flatMap tBody.cells)),.row 6 4,.row 7 4]:List V).getD j uU) (([tBody.lst bkBodies,.row 6 4,.row 7 4]:List V).getD j uU):=
 VLe.at (VLe.lit tBody bkBodies rfl rfl (fun _=>rfl)) [] [.row 6 4,.row 7 4] j
theorem at_heads(j:Nat):VLe (([tBody.lst bkBodies,.list 1 4 (litC 1 4 (bkHeads.flatMap tstr.cells)),.row 7 4]:List V).getD j uU) (([tBody.lst bkBodies,tstr.lst bkHeads,.row 7 4]:List V).getD j uU):=
 VLe.at (VLe.lit tstr bkHeads rfl rfl (fun _=>rfl)) [tBody.lst bkBodies] [.row 7 4] j
theorem at_lines(j:Nat):VLe (([tBody.lst bkBodies,tstr.lst bkHeads,.list 7 4 (rowsOf tLine bkLines)]:List V).getD j uU) (([tBody.lst bkBodies,tstr.lst bkHeads,tLine.lst bkLines]:List V).getD j uU):=VLe.refl _
theorem at_more(j:Nat):VLe (([tBody.lst bkBodies,tstr.lst bkHeads,.list 7 (4+1) (rowsOf tLine bkW)]:List V).getD j uU) (([tBody.lst bkBodies,tstr.lst bkHeads,tLine.lst bkW]:List V).getD j uU):=VLe.refl _
theorem rows_lines(i j:Nat)(hi:i<4)(hj:j<7):VLe (litC 7 4 (bkLines.flatMap tLine.cells) i j) (rowsOf tLine bkLines i j):=lit_rows tLine bkLines rfl rfl (fun _=>rfl) rfl i j hi hj
theorem rows_more(r j:Nat)(hr:r<4+1):VLe (appC 4 (rowsOf tLine bkLines) (litC 7 1 [iI 25,iI 3,iI 1,iI 2,iI 0,iI 0,iI 0]) r j) (rowsOf tLine bkW r j):=app_at tLine bkLines ⟨25,3,1,2,0,0,0⟩ rfl rfl r j hr
theorem c38f:PC 38 [.bool false] (·=.agg (tBook.cells bkB)):=by
 refine w38 false (WP.step ?_)
 simp only[T38,Go,Ends',v38,Tr.sure,SS]
 repeat' with_reducible first|intro _|apply And.intro
 all_goals first|exact(c93 _ _)|exact(c94 _ _ _)|exact(c92 _ _)|exact(VLe.lit tShown _ rfl rfl (fun _=>rfl))|exact(at_bodies _)|exact(at_heads _)|exact(at_lines _)|(simp[Go,Ends',v38,-List.getD_eq_getElem?_getD, *];done)|skip
 all_goals first|exact rfl|exact rows_lines _ _ (by assumption) (by assumption)
theorem c38t:PC 38 [.bool true] (·=.agg (tBook.cells bkM)):=by
 refine w38 true (WP.step ?_)
 simp only[T38,Go,Ends',v38,Tr.sure,SS]
 repeat' with_reducible first|intro _|apply And.intro
 all_goals first|exact(c93 _ _)|exact(c94 _ _ _)|exact(c92 _ _)|exact(VLe.lit tShown _ rfl rfl (fun _=>rfl))|exact(at_bodies _)|exact(at_heads _)|exact(at_more _)|exact(ov38_3 _)|(simp[Go,Ends',v38,-List.getD_eq_getElem?_getD, *];done)|skip
 all_goals first|exact rfl|exact rows_lines _ _ (by assumption) (by assumption)|exact rows_more _ _ (by assumption)|exact VLe.refl _
end
noncomputable section
inductive P21
 |e
inductive R21
 |r0 (r0:Bool)
noncomputable def T21:P21→Tr P21 R21
 |.e=>let c1:=(decide (2≤2))&&true;let c2:V:=.bool true;let c3:=([nmClown,nmJudge,nmKing,nmNun]:List ByteArray);let c4:=([⟨0,1⟩,⟨0,2⟩,⟨1,2⟩,⟨0,0⟩]:List Pair);let c5:=([nmClown,nmKing]:List ByteArray);let c6:=([nmJudge,nmNun]:List ByteArray);let c7:List V:=[.agg (cC bkB),iI 0,iI 18];let c8:=(decide (4≤4))&&true;(.call 38 [.bool false] (.agg (cC bkB)) true true (.call 38 [.bool true] (.agg (cC bkM)) true true (.call 18 [.agg (cC bkB)] (.tuple [tPair.lst c4,iI 0]) true true (.call 22 c7 (.tuple [tint.lst ([2,3]:List Int),iI 0]) true true (.call 25 [.agg (cC bkB),iI 1,iI 18] (.tuple [tint.lst ([1,3]:List Int),iI 0]) true true (.call 27 [.agg (cC bkB),iI 18] (.tuple [iI 2,iI 0]) true true (.call 29 c7 (.tuple [tstr.lst c6,iI 0]) true true (.call 32 [.agg (cC bkB),iI 0] (.tuple [tstr.lst c5,tstr.lst c3,iI 0]) true true (.call 34 [.agg (cC bkB),iI 2,.str nmKing] (.tuple [.agg [iI 10,iI 19],iI 0]) true true (.call 36 [.agg (cC bkM)] (.tuple [tint.lst ([3]:List Int),iI 0]) true true (.call 18 [.agg (cC bkM)] (.tuple [tPair.lst ([]:List Pair),iI 8]) true true (.call 34 [.agg (cC bkB),iI 3,.str nmBishop] (.tuple [.agg [iI 0,iI 0],iI 4]) true true (.lit true (.lit true (.lit true (.lit true (.lit true (.lit true (.lit true (.lit true (.lit true (.lit true (.call 20 [tPair.lst c4,.list 2 4 (litC 2 4 [iI 0,iI 1,iI 0,iI 2,iI 1,iI 2,iI 0,iI 0])] c2 c8 true (.lit true (.call 24 [tint.lst ([2,3]:List Int),.list 1 2 (litC 1 2 [iI 2,iI 3])] c2 c1 true (.lit true (.call 24 [tint.lst ([1,3]:List Int),.list 1 2 (litC 1 2 [iI 1,iI 3])] c2 c1 true (.lit true (.lit true (.call 31 [tstr.lst c6,.list 1 2 (litC 1 2 [.str nmJudge,.str nmNun])] c2 c1 true (.lit true (.call 31 [tstr.lst c5,.list 1 2 (litC 1 2 [.str nmClown,.str nmKing])] c2 c1 true (.lit true (.call 31 [tstr.lst c3,.list 1 4 (litC 1 4 [.str nmClown,.str nmJudge,.str nmKing,.str nmNun])] c2 c8 true (.lit true (.br (((10:Int)==(10:Int))&&(((19:Int)==(19:Int))&&true)) (.call 24 [tint.lst ([3]:List Int),.list 1 1 (litC 1 1 [iI 3])] c2 ((decide (1≤1))&&true) true (.out (.r0 true))) (.out (.r0 false))))))))))))))))))))))))))))))))))))))
noncomputable def g21:P21→List Item × St
 |.e=>bd Tryz.f21 [] 163
noncomputable def n21:R21→Exit × St
 |.r0 r0=>(.ret,⟨mk 163 [(0,.bool r0)],[],[]⟩)
noncomputable def v21:R21→V
 |.r0 r0=>.bool r0
theorem s21:Sm 0 (g21) (T21) (n21)
 |.e=>⟨400,by kernel_rfl⟩
theorem q21:∀r,bodyQ Tryz.prog Tryz.f21 (·=v21 r) (n21 r).1 (n21 r).2
 |.r0 r0=>bq (.bool r0) (by kernel_rfl)
theorem w21{post:V→Prop}(h:WQ (T21) v21 post .e):PC 21 [] post:=
 PCalls.wq Tryz.func21 (s21) q21 h
theorem a18:PC 18 [.agg (tBook.cells bkB)] (·=.tuple [tPair.lst [⟨0,1⟩,⟨0,2⟩,⟨1,2⟩,⟨0,0⟩],iI 0]):=by have:=c18 bkB;rw[bk_first]at this;exact this
theorem a18m:PC 18 [.agg (tBook.cells bkM)] (·=.tuple [tPair.lst [],iI 8]):=by have:=c18 bkM;rw[bk_zero]at this;exact this
theorem a22:PC 22 [.agg (tBook.cells bkB),iI 0,iI 18] (·=.tuple [tint.lst [2,3],iI 0]):=by have:=c22 bkB 0 18;rw[bk_where]at this;exact this
theorem a25:PC 25 [.agg (tBook.cells bkB),iI 1,iI 18] (·=.tuple [tint.lst [1,3],iI 0]):=by have:=c25 bkB 1 18;rw[bk_on]at this;exact this
theorem a27:PC 27 [.agg (tBook.cells bkB),iI 18] (·=.tuple [iI 2,iI 0]):=by have:=c27 bkB 18;rw[bk_many]at this;exact this
theorem a29:PC 29 [.agg (tBook.cells bkB),iI 0,iI 18] (·=.tuple [tstr.lst [nmJudge,nmNun],iI 0]):=by have:=c29 bkB 0 18;rw[bk_as]at this;exact this
theorem a32:PC 32 [.agg (tBook.cells bkB),iI 0] (·=.tuple [tstr.lst [nmClown,nmKing],tstr.lst [nmClown,nmJudge,nmKing,nmNun],iI 0]):=by have:=c32 bkB 0;rw[bk_ever]at this;exact this
theorem a34:PC 34 [.agg (tBook.cells bkB),iI 2,.str nmKing] (·=.tuple [.agg [iI 10,iI 19],iI 0]):=by have:=c34 bkB 2 nmKing;rw[bk_between]at this;exact this
theorem a34n:PC 34 [.agg (tBook.cells bkB),iI 3,.str nmBishop] (·=.tuple [.agg [iI 0,iI 0],iI 4]):=by have:=c34 bkB 3 nmBishop;rw[bk_none]at this;exact this
theorem a36:PC 36 [.agg (tBook.cells bkM)] (·=.tuple [tint.lst [3],iI 0]):=by have:=c36 bkM;rw[bk_wrong]at this;exact this
theorem a24(l:List Int)(n:Nat)(cs:List V)(hn:n=l.length)(hc:l.flatMap tint.cells=cs):PC 24 [tint.lst l,.list 1 n (litC 1 n cs)] (·=.bool true):=by
 have:=PCalls.arg (pre:=[tint.lst l]) (c24 l l) (VLe.lit tint l hn hc (fun _=>rfl))
 rw[show sameI l l=true by simp[sameI]]at this;exact this
theorem a31(l:List ByteArray)(n:Nat)(cs:List V)(hn:n=l.length)(hc:l.flatMap tstr.cells=cs):PC 31 [tstr.lst l,.list 1 n (litC 1 n cs)] (·=.bool true):=by
 have:=PCalls.arg (pre:=[tstr.lst l]) (c31 l l) (VLe.lit tstr l hn hc (fun _=>rfl))
 rw[show sameS l l=true by simp[sameS]]at this;exact this
theorem a20(l:List Pair)(n:Nat)(cs:List V)(hn:n=l.length)(hc:l.flatMap tPair.cells=cs):PC 20 [tPair.lst l,.list 2 n (litC 2 n cs)] (·=.bool true):=by
 have:=PCalls.arg (pre:=[tPair.lst l]) (c20 l l) (VLe.lit tPair l hn hc (fun _=>rfl))
 rw[show sameP l l=true by simp[sameP]]at this;exact this
theorem c21:PC 21 [] (·=.bool true):=by
 refine w21 (WP.step ?_)
 simp only[T21,Go,Ends',v21,Tr.sure,SS]
 repeat' with_reducible first|intro _|apply And.intro
 all_goals first|exact c38f|exact c38t|exact a18|exact a18m|exact a22|exact a25|exact a27|exact a29|exact a32|exact a34|exact a34n|exact a36|exact(a24 _ _ _ rfl rfl)|exact(a31 _ _ _ rfl rfl)|exact(a20 _ _ _ rfl rfl)|(simp[Go,Ends',v21,-List.getD_eq_getElem?_getD, *];done)|(simp_all [Go,Ends',v21,-List.getD_eq_getElem?_getD];done)
end
noncomputable section
def validR(b:Book):Bool:=(bookCheck b).2.2==0
inductive P39
 |e
inductive R39
 |r0 (r0:Bool)
noncomputable def T39(b:Book):P39→Tr P39 R39
 |.e=>let c1:=bookCheck b;(.call 17 [.agg (cC b)] (.tuple [iI (c1.1),iI (c1.2.1),iI (c1.2.2)]) true true (.out (.r0 (c1.2.2==(0:Int)))))
noncomputable def g39(b:Book):P39→List Item × St
 |.e=>bd Tryz.f39 [.agg (cC b)] 13
noncomputable def n39:R39→Exit × St
 |.r0 r0=>(.ret,⟨mk 14 [(2,.bool r0)],[],[]⟩)
noncomputable def v39:R39→V
 |.r0 r0=>.bool r0
theorem s39(b:Book):Sm 0 (g39 b) (T39 b) (n39)
 |.e=>⟨400,by kernel_rfl⟩
theorem q39:∀r,bodyQ Tryz.prog Tryz.f39 (·=v39 r) (n39 r).1 (n39 r).2
 |.r0 r0=>bq (.bool r0) (by kernel_rfl)
theorem w39(b:Book){post:V→Prop}(h:WQ (T39 b) v39 post .e):PC 39 [.agg (cC b)] post:=
 PCalls.wq Tryz.func39 (s39 b) q39 h
theorem c39(b:Book):PC 39 [.agg (tBook.cells b)] (·=.bool (validR b)):=by
 refine w39 b (WP.step ?_)
 simp only[T39,Go,Ends',v39,Tr.sure,SS]
 repeat' with_reducible first|intro _|apply And.intro
 all_goals first|exact(c17 b)|(simp[validR,Go,Ends',v39,-List.getD_eq_getElem?_getD, *];done)
end
noncomputable section
theorem i0:Int.toNat 0=0:=rfl
theorem i1:Int.toNat 1=1:=rfl
theorem i2:Int.toNat 2=2:=rfl
theorem i3:Int.toNat 3=3:=rfl
end
end Go.Proofs.YtemgodefhcbleaaGreat
