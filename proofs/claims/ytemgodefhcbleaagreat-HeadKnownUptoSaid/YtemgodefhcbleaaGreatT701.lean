/-
  Part of the proof of HeadKnown. Conditions: those that stand in each theorem.
-/
import Derived.Test.YtemgodefhcbleaaGreatB17
set_option linter.unusedSimpArgs false
set_option linter.unusedVariables false
set_option maxRecDepth 100000
namespace Go.Proofs.YtemgodefhcbleaaGreat
open Ab Go
noncomputable section
theorem sameS_self(l:List ByteArray):sameS l l=true:=by simp[sameS]
end
noncomputable section
theorem kn_where10:whereR bkB 0 10=([1,3],0):=by kernel_rfl
theorem kn_where5:whereR bkB 0 5=([1],0):=by kernel_rfl
theorem kn_on:onR bkB 0 18=([2],0):=by kernel_rfl
theorem kn_many0:manyR bkB 0=(1,0):=by kernel_rfl
theorem kn_many10:manyR bkB 10=(2,0):=by kernel_rfl
theorem kn_as:asR bkB 3 5=([],0):=by kernel_rfl
theorem kn_ever:everR bkB 2=([nmBishop,nmKing,nmNun],[nmBishop,nmKing,nmNun],0):=by kernel_rfl
theorem kn_wrong:wrongR bkB=([],0):=by kernel_rfl
inductive P7
 |e
inductive R7
 |r0 (r0:Bool)
noncomputable def T7:P7→Tr P7 R7
 |.e=>let c1:=([nmBishop,nmKing,nmNun]:List ByteArray);let c2:V:=.bool true;let c3:=(decide (1≤1))&&true;(.call 38 [.bool false] (.agg (cC bkB)) true true (.call 22 [.agg (cC bkB),iI 0,iI 10] (.tuple [tint.lst ([1,3]:List Int),iI 0]) true true (.call 22 [.agg (cC bkB),iI 0,iI 5] (.tuple [tint.lst ([1]:List Int),iI 0]) true true (.call 25 [.agg (cC bkB),iI 0,iI 18] (.tuple [tint.lst ([2]:List Int),iI 0]) true true (.call 27 [.agg (cC bkB),iI 0] (.tuple [iI 1,iI 0]) true true (.call 27 [.agg (cC bkB),iI 10] (.tuple [iI 2,iI 0]) true true (.call 29 [.agg (cC bkB),iI 3,iI 5] (.tuple [tstr.lst ([]:List ByteArray),iI 0]) true true (.call 32 [.agg (cC bkB),iI 2] (.tuple [tstr.lst c1,tstr.lst c1,iI 0]) true true (.call 36 [.agg (cC bkB)] (.tuple [tint.lst ([]:List Int),iI 0]) true true (.lit true (.lit true (.lit true (.lit true (.lit true (.lit true (.lit true (.lit true (.call 24 [tint.lst ([1,3]:List Int),.list 1 2 (litC 1 2 [iI 1,iI 3])] c2 ((decide (2≤2))&&true) true (.lit true (.call 24 [tint.lst ([1]:List Int),.list 1 1 (litC 1 1 [iI 1])] c2 c3 true (.lit true (.call 24 [tint.lst ([2]:List Int),.list 1 1 (litC 1 1 [iI 2])] c2 c3 true (.lit true (.lit true (.lit true (.br (((([]:List ByteArray).length):Int)==(0:Int)) (.call 31 [tstr.lst c1,.list 1 3 (litC 1 3 [.str nmBishop,.str nmKing,.str nmNun])] c2 ((decide (3≤3))&&true) true (.lit true (.call 31 [tstr.lst c1,tstr.lst c1] c2 true true (.lit true (.br (((([]:List Int).length):Int)==(0:Int)) (.call 21 [] c2 true true (.out (.r0 true))) (.out (.r0 false))))))) (.lit false (.lit false (.lit false (.out (.r0 false)))))))))))))))))))))))))))))))
noncomputable def g7:P7→List Item × St
 |.e=>bd Tryz.f7 [] 137
noncomputable def n7:R7→Exit × St
 |.r0 r0=>(.ret,⟨mk 137 [(0,.bool r0)],[],[]⟩)
noncomputable def v7:R7→V
 |.r0 r0=>.bool r0
theorem s7:Sm 0 (g7) (T7) (n7)
 |.e=>⟨400,by kernel_rfl⟩
theorem q7:∀r,bodyQ Tryz.prog Tryz.f7 (·=v7 r) (n7 r).1 (n7 r).2
 |.r0 r0=>bq (.bool r0) (by kernel_rfl)
theorem w7{post:V→Prop}(h:WQ (T7) v7 post .e):PC 7 [] post:=
 PCalls.wq Tryz.func7 (s7) q7 h
theorem d22a:PC 22 [.agg (tBook.cells bkB),iI 0,iI 10] (·=.tuple [tint.lst [1,3],iI 0]):=by have:=c22 bkB 0 10;rw[kn_where10]at this;exact this
theorem d22b:PC 22 [.agg (tBook.cells bkB),iI 0,iI 5] (·=.tuple [tint.lst [1],iI 0]):=by have:=c22 bkB 0 5;rw[kn_where5]at this;exact this
theorem d25:PC 25 [.agg (tBook.cells bkB),iI 0,iI 18] (·=.tuple [tint.lst [2],iI 0]):=by have:=c25 bkB 0 18;rw[kn_on]at this;exact this
theorem d27a:PC 27 [.agg (tBook.cells bkB),iI 0] (·=.tuple [iI 1,iI 0]):=by have:=c27 bkB 0;rw[kn_many0]at this;exact this
theorem d27b:PC 27 [.agg (tBook.cells bkB),iI 10] (·=.tuple [iI 2,iI 0]):=by have:=c27 bkB 10;rw[kn_many10]at this;exact this
theorem d29:PC 29 [.agg (tBook.cells bkB),iI 3,iI 5] (·=.tuple [tstr.lst [],iI 0]):=by have:=c29 bkB 3 5;rw[kn_as]at this;exact this
theorem d32:PC 32 [.agg (tBook.cells bkB),iI 2] (·=.tuple [tstr.lst [nmBishop,nmKing,nmNun],tstr.lst [nmBishop,nmKing,nmNun],iI 0]):=by have:=c32 bkB 2;rw[kn_ever]at this;exact this
theorem d36:PC 36 [.agg (tBook.cells bkB)] (·=.tuple [tint.lst [],iI 0]):=by have:=c36 bkB;rw[kn_wrong]at this;exact this
theorem d31(l:List ByteArray):PC 31 [tstr.lst l,tstr.lst l] (·=.bool true):=by
 have:=c31 l l
 rw[sameS_self]at this;exact this
theorem c7:PC 7 [] (·=.bool true):=by
 refine w7 (WP.step ?_)
 simp only[T7,Go,Ends',v7,Tr.sure,SS]
 repeat' with_reducible first|intro _|apply And.intro
 all_goals first|exact c38f|exact d22a|exact d22b|exact d25|exact d27a|exact d27b|exact d29|exact d32|exact d36|exact(a24 _ _ _ rfl rfl)|exact(a31 _ _ _ rfl rfl)|exact(d31 _)|exact c21|(simp[Go,Ends',v7,-List.getD_eq_getElem?_getD, *];done)|(simp_all [Go,Ends',v7,-List.getD_eq_getElem?_getD];done)
end
end Go.Proofs.YtemgodefhcbleaaGreat
