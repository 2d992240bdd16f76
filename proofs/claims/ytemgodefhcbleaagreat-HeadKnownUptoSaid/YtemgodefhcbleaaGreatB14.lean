/-
  Part of the proof of the Head laws. Conditions: those that stand in each theorem.
-/
import Derived.Test.YtemgodefhcbleaaGreatB13
set_option linter.unusedSimpArgs false
set_option linter.unusedVariables false
set_option maxRecDepth 100000
namespace Go.Proofs.YtemgodefhcbleaaGreat
open Ab Go
noncomputable section
abbrev KM:=List ((Nat→Int) × Int)
abbrev mO(M:KM):Obj:=.map (entsK M) M.length
def idxM(M:KM)(F:Nat→Int):Nat:=M.findIdx fun p=>same5 F p.1
def cntM(M:KM)(F:Nat→Int):Int:=(M.getD (idxM M F) (F,0)).2
def entM(M:KM)(F:Nat→Int):KM:=if idxM M F<M.length then M else M++ [(F,0)]
def addM(M:KM)(F:Nat→Int):KM:=(entM M F).set (idxM M F) (((entM M F).getD (idxM M F) (F,0)).1,cntM M F+1)
inductive P27a
 |e
inductive R27a
 |r0 (r0:Int) (r1:Nat→Int)
noncomputable def T27a(n:Nat)(P:List Pair)(H:List (Nat→Int))(ln:Nat)(M:KM)(La:Nat→Int):P27a→Tr P27a R27a
 |.e=>(.out (.r0 (ln:Int) La))
noncomputable def g27a(n:Nat)(P:List Pair)(H:List (Nat→Int))(ln:Nat)(M:KM)(La:Nat→Int):P27a→List Item × St
 |.e=>([.code (asgOf (rangeOf Tryz.f27))],⟨[uU,uU,uU,uU,uU,uU,uU,uU,.ref 1 0 0,.ref 3 0 0,.ref 4 0 0,uU,uU,uU,uU,uU,uU,uU,uU,uU,uU,uU,uU,uU,uU,uU,uU,uU,.agg [.list 2 n (rowsOf tPair P),.list 5 (n+1) (rowsOf tHave H)],uU,uU,uU,uU,uU,uU,uU,uU,uU,uU,uU,uU,uU,uU,uU,uU,uU],[.gone,.cells [iI (ln:Int)],.obj (mO M),.cells [.map 2],.rows 128 1 5 (rowsFn tint La)],[]⟩)
noncomputable def n27a(n:Nat)(P:List Pair)(H:List (Nat→Int))(ln:Nat)(M:KM)(La:Nat→Int):R27a→Exit × St
 |.r0 r0 r1=>(.normal,⟨mk 46 [(8,.ref 1 0 0),(9,.ref 3 0 0),(10,.ref 4 0 0),(11,.ref 5 0 0)],[.gone,.cells [iI r0],.obj (mO M),.cells [.map 2],.rows 128 1 5 (rowsFn tint r1),.cells [.list 2 n (rowsOf tPair P),.list 5 (n+1) (rowsOf tHave H)]],[]⟩)
theorem s27a(n:Nat)(P:List Pair)(H:List (Nat→Int))(ln:Nat)(M:KM)(La:Nat→Int):Sm 5 (g27a n P H ln M La) (T27a n P H ln M La) (n27a n P H ln M La)
 |.e=>⟨400,by kernel_rfl⟩
inductive P27b
 |e
inductive R27b
 |r0 (r0:Int) (r1:Nat→Int)
 |r1 (r0:Int) (r1:Nat→Int)
noncomputable def T27b(n:Nat)(P:List Pair)(H:List (Nat→Int))(ln:Nat)(M:KM)(La:Nat→Int):P27b→Tr P27b R27b
 |.e=>let c1:=H.getD ((ln:Int)).toNat tHave.zero;let c2:= !(((c1 0)==(La 0))&&(((c1 1)==(La 1))&&(((c1 2)==(La 2))&&(((c1 3)==(La 3))&&(((c1 4)==(La 4))&&true)))));let c3:List V:=[iI (c1 0),iI (c1 1),iI (c1 2),iI (c1 3),iI (c1 4)];let c4:=rowsFn tint c1;let c5:List V:=[.list 2 n (rowsOf tPair P),.list 5 (n+1) (rowsOf tHave H)];let c6:=rowsFn tint La;(.need (decide (0≤(ln:Int))&&decide ((ln:Int)<((n+1):Int))) (.wait 1 (.telb 6 1 5 (fun r j=>(c3:List V).getD (r*1+j) uU) c4 (.br c2 (.wait 1 (.over (regionOf Tryz.f27 11) ⟨[uU,uU,uU,uU,uU,uU,uU,uU,.ref 1 0 0,.ref 3 0 0,.ref 4 0 0,.ref 5 0 0,.ref 6 0 0,uU,uU,uU,uU,uU,uU,uU,uU,uU,uU,uU,uU,uU,uU,uU,uU,.ref 5 0 1,.list 5 (n+1) (rowsOf tHave H),iI (ln:Int),.cref 5 fun q=>(c3:List V).getD q uU,.agg c3,.arr 1 5 c4,.arr 1 5 c6,.bool c2,uU,uU,uU,uU,uU,uU,uU,uU,uU],[.gone,.cells [iI (ln:Int)],.obj (mO M),.cells [.map 2],.rows 128 1 5 c6,.cells c5,.rows 128 1 5 c4],[]⟩ .normal ⟨[uU,uU,uU,uU,uU,uU,uU,uU,.ref 1 0 0,.ref 3 0 0,.ref 4 0 0,.ref 5 0 0,.ref 6 0 0,uU,uU,uU,uU,uU,uU,uU,uU,uU,uU,uU,uU,uU,uU,uU,uU,.ref 5 0 1,.list 5 (n+1) (rowsOf tHave H),iI (ln:Int),.cref 5 fun q=>(c3:List V).getD q uU,.agg c3,.arr 1 5 c4,.arr 1 5 c6,.bool c2,.map 2,.arr 1 5 c4,iI (cntM M c1),iI ((cntM M c1)+(1:Int)),.tuple [iI (cntM M c1),iI (idxM M c1:Int)],iI (idxM M c1:Int),uU,uU,uU],[.gone,.cells [iI (ln:Int)],.obj (mO (addM M c1)),.cells [.map 2],.rows 128 1 5 c6,.cells c5,.rows 128 1 5 c4],[]⟩ true (.out (.r0 (ln:Int) c1)))) (.out (.r1 (ln:Int) La))))))
noncomputable def g27b(n:Nat)(P:List Pair)(H:List (Nat→Int))(ln:Nat)(M:KM)(La:Nat→Int):P27b→List Item × St
 |.e=>([.code (bdyOf (rangeOf Tryz.f27))],⟨[uU,uU,uU,uU,uU,uU,uU,uU,.ref 1 0 0,.ref 3 0 0,.ref 4 0 0,.ref 5 0 0,uU,uU,uU,uU,uU,uU,uU,uU,uU,uU,uU,uU,uU,uU,uU,uU,uU,uU,uU,uU,uU,uU,uU,uU,uU,uU,uU,uU,uU,uU,uU,uU,uU,uU],[.gone,.cells [iI (ln:Int)],.obj (mO M),.cells [.map 2],.rows 128 1 5 (rowsFn tint La),.cells [.list 2 n (rowsOf tPair P),.list 5 (n+1) (rowsOf tHave H)]],[]⟩)
noncomputable def n27b(n:Nat)(P:List Pair)(H:List (Nat→Int))(ln:Nat)(M:KM)(La:Nat→Int):R27b→Exit × St
 |.r0 r0 r1=>(.normal,⟨mk 46 [],[.gone,.cells [iI r0],.obj (mO (addM M (H.getD ((ln:Int)).toNat tHave.zero))),.cells [.map 2],.rows 128 1 5 (rowsFn tint r1)],[]⟩)
 |.r1 r0 r1=>(.normal,⟨mk 46 [],[.gone,.cells [iI r0],.obj (mO M),.cells [.map 2],.rows 128 1 5 (rowsFn tint r1)],[]⟩)
theorem s27b(n:Nat)(P:List Pair)(H:List (Nat→Int))(ln:Nat)(M:KM)(La:Nat→Int):Sm 5 (g27b n P H ln M La) (T27b n P H ln M La) (n27b n P H ln M La)
 |.e=>⟨400,by kernel_rfl⟩
noncomputable def o27_11:Array Oper:=(regOf 11 (Tryz.f27.body.getD .skip)).getD #[]
@[reducible] noncomputable def st27_11 (n:Nat) (P:List Pair) (H:List (Nat→Int)) (ln:Nat) (M:KM) (La:Nat→Int) (lq:Nat) (c0 c1 c2 c3 c4 c5:Bool):St:=⟨[uU,uU,uU,uU,uU,uU,uU,uU,.ref 1 0 0,.ref 3 0 0,.ref 4 0 0,.ref 5 0 0,.ref 6 0 0,uU,uU,uU,uU,uU,uU,uU,uU,uU,uU,uU,uU,uU,uU,uU,uU,.ref 5 0 1,.list 5 (n+1) (rowsOf tHave H),iI (ln:Int),.cref 5 fun q=>([iI ((H.getD ((ln:Int)).toNat tHave.zero) 0),iI ((H.getD ((ln:Int)).toNat tHave.zero) 1),iI ((H.getD ((ln:Int)).toNat tHave.zero) 2),iI ((H.getD ((ln:Int)).toNat tHave.zero) 3),iI ((H.getD ((ln:Int)).toNat tHave.zero) 4)]:List V).getD q uU,.agg [iI ((H.getD ((ln:Int)).toNat tHave.zero) 0),iI ((H.getD ((ln:Int)).toNat tHave.zero) 1),iI ((H.getD ((ln:Int)).toNat tHave.zero) 2),iI ((H.getD ((ln:Int)).toNat tHave.zero) 3),iI ((H.getD ((ln:Int)).toNat tHave.zero) 4)],.arr 1 5 (rowsFn tint (H.getD ((ln:Int)).toNat tHave.zero)),.arr 1 5 (rowsFn tint La),.bool (!((((H.getD ((ln:Int)).toNat tHave.zero) 0)==(La 0))&&((((H.getD ((ln:Int)).toNat tHave.zero) 1)==(La 1))&&((((H.getD ((ln:Int)).toNat tHave.zero) 2)==(La 2))&&((((H.getD ((ln:Int)).toNat tHave.zero) 3)==(La 3))&&((((H.getD ((ln:Int)).toNat tHave.zero) 4)==(La 4))&&true)))))),(bif c0 then .map 2 else(uU)),(bif c1 then .arr 1 5 (rowsFn tint (H.getD ((ln:Int)).toNat tHave.zero))else(uU)),(bif c2 then iI (cntM M (H.getD ((ln:Int)).toNat tHave.zero))else(uU)),(bif c3 then iI ((cntM M (H.getD ((ln:Int)).toNat tHave.zero))+(1:Int))else(uU)),(bif c4 then .tuple [iI (cntM M (H.getD ((ln:Int)).toNat tHave.zero)),iI (idxM M (H.getD ((ln:Int)).toNat tHave.zero):Int)]else(uU)),(bif c5 then iI (idxM M (H.getD ((ln:Int)).toNat tHave.zero):Int)else(uU)),uU,uU,uU],[.gone,.cells [iI (ln:Int)],(bif c4 then .obj (mO (entM M (H.getD ((ln:Int)).toNat tHave.zero)))else(.obj (mO M))),.cells [.map 2],.rows 128 1 5 (rowsFn tint La),.cells [.list 2 n (rowsOf tPair P),.list 5 (n+1) (rowsOf tHave H)],.rows 128 1 5 (rowsFn tint (H.getD ((ln:Int)).toNat tHave.zero))],[]⟩
theorem sp27_11_0(n:Nat)(P:List Pair)(H:List (Nat→Int))(ln:Nat)(M:KM)(La:Nat→Int)(lq:Nat)(hL:∀hh:List Blk,(hh[2]? =some (mK M)∨hh[2]? =some (mK (entM M (H.getD ((ln:Int)).toNat tHave.zero))))→SemOK Tryz.prog (.lookup 131 (.tmp 37) (.tmp 38) false) [(.tmp 37,.map 2),(.tmp 38,.arr 1 5 (rowsFn tint (H.getD ((ln:Int)).toNat tHave.zero)))] hh (iI (cntM M (H.getD ((ln:Int)).toNat tHave.zero))) hh)(hE:∀hh:List Blk,hh[2]? =some (mK M)→SemOK Tryz.prog (.mapEntry 131 (.tmp 37) (.tmp 38)) [(.tmp 37,.map 2),(.tmp 38,.arr 1 5 (rowsFn tint (H.getD ((ln:Int)).toNat tHave.zero)))] hh (.tuple [iI (cntM M (H.getD ((ln:Int)).toNat tHave.zero)),iI (idxM M (H.getD ((ln:Int)).toNat tHave.zero):Int)]) (hh.set 2 (mK (entM M (H.getD ((ln:Int)).toNat tHave.zero)))))(hS:∀hh:List Blk,hh[2]? =some (mK (entM M (H.getD ((ln:Int)).toNat tHave.zero)))→SemOK Tryz.prog (opAt Tryz.f27 11 6) [(.tmp 37,.map 2),(.tmp 42,iI (idxM M (H.getD ((ln:Int)).toNat tHave.zero):Int)),(.tmp 40,iI (cntM M (H.getD ((ln:Int)).toNat tHave.zero)+(1:Int)))] hh uU (hh.set 2 (mK (addM M (H.getD ((ln:Int)).toNat tHave.zero)))))(hr:inR .i64 (cntM M (H.getD ((ln:Int)).toNat tHave.zero)+(1:Int))=true)(c1:Bool):AStep Tryz.prog ⟨some lq,5⟩ o27_11 0 (st27_11 n P H ln M La lq false c1 false false false false) (st27_11 n P H ln M La lq true c1 false false false false):=by
 refine AStep.to (AStep.read (o:=o27_11.getD 0 default) (b:=true) (v:=.map 2) (by kernel_rfl) (by kernel_rfl) (fun _ h=>by cases h) (by kernel_rfl) ?_) (by kernel_rfl)
 rfl
theorem sp27_11_1(n:Nat)(P:List Pair)(H:List (Nat→Int))(ln:Nat)(M:KM)(La:Nat→Int)(lq:Nat)(hL:∀hh:List Blk,(hh[2]? =some (mK M)∨hh[2]? =some (mK (entM M (H.getD ((ln:Int)).toNat tHave.zero))))→SemOK Tryz.prog (.lookup 131 (.tmp 37) (.tmp 38) false) [(.tmp 37,.map 2),(.tmp 38,.arr 1 5 (rowsFn tint (H.getD ((ln:Int)).toNat tHave.zero)))] hh (iI (cntM M (H.getD ((ln:Int)).toNat tHave.zero))) hh)(hE:∀hh:List Blk,hh[2]? =some (mK M)→SemOK Tryz.prog (.mapEntry 131 (.tmp 37) (.tmp 38)) [(.tmp 37,.map 2),(.tmp 38,.arr 1 5 (rowsFn tint (H.getD ((ln:Int)).toNat tHave.zero)))] hh (.tuple [iI (cntM M (H.getD ((ln:Int)).toNat tHave.zero)),iI (idxM M (H.getD ((ln:Int)).toNat tHave.zero):Int)]) (hh.set 2 (mK (entM M (H.getD ((ln:Int)).toNat tHave.zero)))))(hS:∀hh:List Blk,hh[2]? =some (mK (entM M (H.getD ((ln:Int)).toNat tHave.zero)))→SemOK Tryz.prog (opAt Tryz.f27 11 6) [(.tmp 37,.map 2),(.tmp 42,iI (idxM M (H.getD ((ln:Int)).toNat tHave.zero):Int)),(.tmp 40,iI (cntM M (H.getD ((ln:Int)).toNat tHave.zero)+(1:Int)))] hh uU (hh.set 2 (mK (addM M (H.getD ((ln:Int)).toNat tHave.zero)))))(hr:inR .i64 (cntM M (H.getD ((ln:Int)).toNat tHave.zero)+(1:Int))=true)(c0:Bool):AStep Tryz.prog ⟨some lq,5⟩ o27_11 1 (st27_11 n P H ln M La lq c0 false false false false false) (st27_11 n P H ln M La lq c0 true false false false false):=by
 refine AStep.to (AStep.read (o:=o27_11.getD 1 default) (b:=true) (v:=.arr 1 5 (rowsFn tint (H.getD ((ln:Int)).toNat tHave.zero))) (by kernel_rfl) (by kernel_rfl) (fun _ h=>by cases h) (by kernel_rfl) ?_) (by kernel_rfl)
 rfl
theorem sp27_11_2(n:Nat)(P:List Pair)(H:List (Nat→Int))(ln:Nat)(M:KM)(La:Nat→Int)(lq:Nat)(hL:∀hh:List Blk,(hh[2]? =some (mK M)∨hh[2]? =some (mK (entM M (H.getD ((ln:Int)).toNat tHave.zero))))→SemOK Tryz.prog (.lookup 131 (.tmp 37) (.tmp 38) false) [(.tmp 37,.map 2),(.tmp 38,.arr 1 5 (rowsFn tint (H.getD ((ln:Int)).toNat tHave.zero)))] hh (iI (cntM M (H.getD ((ln:Int)).toNat tHave.zero))) hh)(hE:∀hh:List Blk,hh[2]? =some (mK M)→SemOK Tryz.prog (.mapEntry 131 (.tmp 37) (.tmp 38)) [(.tmp 37,.map 2),(.tmp 38,.arr 1 5 (rowsFn tint (H.getD ((ln:Int)).toNat tHave.zero)))] hh (.tuple [iI (cntM M (H.getD ((ln:Int)).toNat tHave.zero)),iI (idxM M (H.getD ((ln:Int)).toNat tHave.zero):Int)]) (hh.set 2 (mK (entM M (H.getD ((ln:Int)).toNat tHave.zero)))))(hS:∀hh:List Blk,hh[2]? =some (mK (entM M (H.getD ((ln:Int)).toNat tHave.zero)))→SemOK Tryz.prog (opAt Tryz.f27 11 6) [(.tmp 37,.map 2),(.tmp 42,iI (idxM M (H.getD ((ln:Int)).toNat tHave.zero):Int)),(.tmp 40,iI (cntM M (H.getD ((ln:Int)).toNat tHave.zero)+(1:Int)))] hh uU (hh.set 2 (mK (addM M (H.getD ((ln:Int)).toNat tHave.zero)))))(hr:inR .i64 (cntM M (H.getD ((ln:Int)).toNat tHave.zero)+(1:Int))=true)(c4 c5:Bool):AStep Tryz.prog ⟨some lq,5⟩ o27_11 2 (st27_11 n P H ln M La lq true true false false c4 c5) (st27_11 n P H ln M La lq true true true false c4 c5):=by
 all_goals(cases c4<;>cases c5)
 all_goals refine AStep.of_ops (AOps.sem (o:=o27_11.getD 2 default) (us:=[(.tmp 37,uU),(.tmp 38,uU)]) (v:=iI (cntM M (H.getD ((ln:Int)).toNat tHave.zero))) (h':=_) (by kernel_rfl) (by kernel_rfl) (by kernel_rfl) (by rw[show(o27_11.getD 2 default).op=.lookup 131 (.tmp 37) (.tmp 38) false by kernel_rfl];exact hL _ (by first|exact .inl rfl|exact .inr rfl)) (fun j hj=>by cases hj) (AOps.nil ⟨rfl,?_⟩))
 all_goals kernel_rfl
theorem sp27_11_3(n:Nat)(P:List Pair)(H:List (Nat→Int))(ln:Nat)(M:KM)(La:Nat→Int)(lq:Nat)(hL:∀hh:List Blk,(hh[2]? =some (mK M)∨hh[2]? =some (mK (entM M (H.getD ((ln:Int)).toNat tHave.zero))))→SemOK Tryz.prog (.lookup 131 (.tmp 37) (.tmp 38) false) [(.tmp 37,.map 2),(.tmp 38,.arr 1 5 (rowsFn tint (H.getD ((ln:Int)).toNat tHave.zero)))] hh (iI (cntM M (H.getD ((ln:Int)).toNat tHave.zero))) hh)(hE:∀hh:List Blk,hh[2]? =some (mK M)→SemOK Tryz.prog (.mapEntry 131 (.tmp 37) (.tmp 38)) [(.tmp 37,.map 2),(.tmp 38,.arr 1 5 (rowsFn tint (H.getD ((ln:Int)).toNat tHave.zero)))] hh (.tuple [iI (cntM M (H.getD ((ln:Int)).toNat tHave.zero)),iI (idxM M (H.getD ((ln:Int)).toNat tHave.zero):Int)]) (hh.set 2 (mK (entM M (H.getD ((ln:Int)).toNat tHave.zero)))))(hS:∀hh:List Blk,hh[2]? =some (mK (entM M (H.getD ((ln:Int)).toNat tHave.zero)))→SemOK Tryz.prog (opAt Tryz.f27 11 6) [(.tmp 37,.map 2),(.tmp 42,iI (idxM M (H.getD ((ln:Int)).toNat tHave.zero):Int)),(.tmp 40,iI (cntM M (H.getD ((ln:Int)).toNat tHave.zero)+(1:Int)))] hh uU (hh.set 2 (mK (addM M (H.getD ((ln:Int)).toNat tHave.zero)))))(hr:inR .i64 (cntM M (H.getD ((ln:Int)).toNat tHave.zero)+(1:Int))=true)(c4 c5:Bool):AStep Tryz.prog ⟨some lq,5⟩ o27_11 3 (st27_11 n P H ln M La lq true true true false c4 c5) (st27_11 n P H ln M La lq true true true true c4 c5):=by
 refine AStep.to (AStep.read (o:=o27_11.getD 3 default) (b:=inR .i64 ((cntM M (H.getD ((ln:Int)).toNat tHave.zero))+(1:Int))) (v:=iI ((cntM M (H.getD ((ln:Int)).toNat tHave.zero))+(1:Int))) (by kernel_rfl) (by kernel_rfl) (fun _ h=>by cases h) (by kernel_rfl) ?_) (by kernel_rfl)
 first|assumption|rfl|(simp[*];done)|(simp;omega)|(simp only[Bool.and_eq_true,decide_eq_true_eq];omega)
theorem sp27_11_4(n:Nat)(P:List Pair)(H:List (Nat→Int))(ln:Nat)(M:KM)(La:Nat→Int)(lq:Nat)(hL:∀hh:List Blk,(hh[2]? =some (mK M)∨hh[2]? =some (mK (entM M (H.getD ((ln:Int)).toNat tHave.zero))))→SemOK Tryz.prog (.lookup 131 (.tmp 37) (.tmp 38) false) [(.tmp 37,.map 2),(.tmp 38,.arr 1 5 (rowsFn tint (H.getD ((ln:Int)).toNat tHave.zero)))] hh (iI (cntM M (H.getD ((ln:Int)).toNat tHave.zero))) hh)(hE:∀hh:List Blk,hh[2]? =some (mK M)→SemOK Tryz.prog (.mapEntry 131 (.tmp 37) (.tmp 38)) [(.tmp 37,.map 2),(.tmp 38,.arr 1 5 (rowsFn tint (H.getD ((ln:Int)).toNat tHave.zero)))] hh (.tuple [iI (cntM M (H.getD ((ln:Int)).toNat tHave.zero)),iI (idxM M (H.getD ((ln:Int)).toNat tHave.zero):Int)]) (hh.set 2 (mK (entM M (H.getD ((ln:Int)).toNat tHave.zero)))))(hS:∀hh:List Blk,hh[2]? =some (mK (entM M (H.getD ((ln:Int)).toNat tHave.zero)))→SemOK Tryz.prog (opAt Tryz.f27 11 6) [(.tmp 37,.map 2),(.tmp 42,iI (idxM M (H.getD ((ln:Int)).toNat tHave.zero):Int)),(.tmp 40,iI (cntM M (H.getD ((ln:Int)).toNat tHave.zero)+(1:Int)))] hh uU (hh.set 2 (mK (addM M (H.getD ((ln:Int)).toNat tHave.zero)))))(hr:inR .i64 (cntM M (H.getD ((ln:Int)).toNat tHave.zero)+(1:Int))=true)(c2 c3:Bool):AStep Tryz.prog ⟨some lq,5⟩ o27_11 4 (st27_11 n P H ln M La lq true true c2 c3 false false) (st27_11 n P H ln M La lq true true c2 c3 true false):=by
 all_goals(cases c2<;>cases c3)
 all_goals refine AStep.of_ops (AOps.sem (o:=o27_11.getD 4 default) (us:=[(.tmp 37,uU),(.tmp 38,uU)]) (v:=.tuple [iI (cntM M (H.getD ((ln:Int)).toNat tHave.zero)),iI (idxM M (H.getD ((ln:Int)).toNat tHave.zero):Int)]) (h':=_) (by kernel_rfl) (by kernel_rfl) (by kernel_rfl) (by rw[show(o27_11.getD 4 default).op=.mapEntry 131 (.tmp 37) (.tmp 38) by kernel_rfl];exact hE _ rfl) (fun j hj=>by cases hj) (AOps.nil ⟨rfl,?_⟩))
 all_goals kernel_rfl
theorem sp27_11_5(n:Nat)(P:List Pair)(H:List (Nat→Int))(ln:Nat)(M:KM)(La:Nat→Int)(lq:Nat)(hL:∀hh:List Blk,(hh[2]? =some (mK M)∨hh[2]? =some (mK (entM M (H.getD ((ln:Int)).toNat tHave.zero))))→SemOK Tryz.prog (.lookup 131 (.tmp 37) (.tmp 38) false) [(.tmp 37,.map 2),(.tmp 38,.arr 1 5 (rowsFn tint (H.getD ((ln:Int)).toNat tHave.zero)))] hh (iI (cntM M (H.getD ((ln:Int)).toNat tHave.zero))) hh)(hE:∀hh:List Blk,hh[2]? =some (mK M)→SemOK Tryz.prog (.mapEntry 131 (.tmp 37) (.tmp 38)) [(.tmp 37,.map 2),(.tmp 38,.arr 1 5 (rowsFn tint (H.getD ((ln:Int)).toNat tHave.zero)))] hh (.tuple [iI (cntM M (H.getD ((ln:Int)).toNat tHave.zero)),iI (idxM M (H.getD ((ln:Int)).toNat tHave.zero):Int)]) (hh.set 2 (mK (entM M (H.getD ((ln:Int)).toNat tHave.zero)))))(hS:∀hh:List Blk,hh[2]? =some (mK (entM M (H.getD ((ln:Int)).toNat tHave.zero)))→SemOK Tryz.prog (opAt Tryz.f27 11 6) [(.tmp 37,.map 2),(.tmp 42,iI (idxM M (H.getD ((ln:Int)).toNat tHave.zero):Int)),(.tmp 40,iI (cntM M (H.getD ((ln:Int)).toNat tHave.zero)+(1:Int)))] hh uU (hh.set 2 (mK (addM M (H.getD ((ln:Int)).toNat tHave.zero)))))(hr:inR .i64 (cntM M (H.getD ((ln:Int)).toNat tHave.zero)+(1:Int))=true)(c2 c3:Bool):AStep Tryz.prog ⟨some lq,5⟩ o27_11 5 (st27_11 n P H ln M La lq true true c2 c3 true false) (st27_11 n P H ln M La lq true true c2 c3 true true):=by
 refine AStep.to (AStep.read (o:=o27_11.getD 5 default) (b:=true) (v:=iI (idxM M (H.getD ((ln:Int)).toNat tHave.zero):Int)) (by kernel_rfl) (by kernel_rfl) (fun _ h=>by cases h) (by kernel_rfl) ?_) (by kernel_rfl)
 rfl
theorem ov27_11(n:Nat)(P:List Pair)(H:List (Nat→Int))(ln:Nat)(M:KM)(La:Nat→Int)(lq:Nat)(hL:∀hh:List Blk,(hh[2]? =some (mK M)∨hh[2]? =some (mK (entM M (H.getD ((ln:Int)).toNat tHave.zero))))→SemOK Tryz.prog (.lookup 131 (.tmp 37) (.tmp 38) false) [(.tmp 37,.map 2),(.tmp 38,.arr 1 5 (rowsFn tint (H.getD ((ln:Int)).toNat tHave.zero)))] hh (iI (cntM M (H.getD ((ln:Int)).toNat tHave.zero))) hh)(hE:∀hh:List Blk,hh[2]? =some (mK M)→SemOK Tryz.prog (.mapEntry 131 (.tmp 37) (.tmp 38)) [(.tmp 37,.map 2),(.tmp 38,.arr 1 5 (rowsFn tint (H.getD ((ln:Int)).toNat tHave.zero)))] hh (.tuple [iI (cntM M (H.getD ((ln:Int)).toNat tHave.zero)),iI (idxM M (H.getD ((ln:Int)).toNat tHave.zero):Int)]) (hh.set 2 (mK (entM M (H.getD ((ln:Int)).toNat tHave.zero)))))(hS:∀hh:List Blk,hh[2]? =some (mK (entM M (H.getD ((ln:Int)).toNat tHave.zero)))→SemOK Tryz.prog (opAt Tryz.f27 11 6) [(.tmp 37,.map 2),(.tmp 42,iI (idxM M (H.getD ((ln:Int)).toNat tHave.zero):Int)),(.tmp 40,iI (cntM M (H.getD ((ln:Int)).toNat tHave.zero)+(1:Int)))] hh uU (hh.set 2 (mK (addM M (H.getD ((ln:Int)).toNat tHave.zero)))))(hr:inR .i64 (cntM M (H.getD ((ln:Int)).toNat tHave.zero)+(1:Int))=true):AWP Tryz.prog ⟨some lq,5⟩ (regionOf Tryz.f27 11) ⟨[uU,uU,uU,uU,uU,uU,uU,uU,.ref 1 0 0,.ref 3 0 0,.ref 4 0 0,.ref 5 0 0,.ref 6 0 0,uU,uU,uU,uU,uU,uU,uU,uU,uU,uU,uU,uU,uU,uU,uU,uU,.ref 5 0 1,.list 5 (n+1) (rowsOf tHave H),iI (ln:Int),.cref 5 fun q=>([iI ((H.getD ((ln:Int)).toNat tHave.zero) 0),iI ((H.getD ((ln:Int)).toNat tHave.zero) 1),iI ((H.getD ((ln:Int)).toNat tHave.zero) 2),iI ((H.getD ((ln:Int)).toNat tHave.zero) 3),iI ((H.getD ((ln:Int)).toNat tHave.zero) 4)]:List V).getD q uU,.agg [iI ((H.getD ((ln:Int)).toNat tHave.zero) 0),iI ((H.getD ((ln:Int)).toNat tHave.zero) 1),iI ((H.getD ((ln:Int)).toNat tHave.zero) 2),iI ((H.getD ((ln:Int)).toNat tHave.zero) 3),iI ((H.getD ((ln:Int)).toNat tHave.zero) 4)],.arr 1 5 (rowsFn tint (H.getD ((ln:Int)).toNat tHave.zero)),.arr 1 5 (rowsFn tint La),.bool (!((((H.getD ((ln:Int)).toNat tHave.zero) 0)==(La 0))&&((((H.getD ((ln:Int)).toNat tHave.zero) 1)==(La 1))&&((((H.getD ((ln:Int)).toNat tHave.zero) 2)==(La 2))&&((((H.getD ((ln:Int)).toNat tHave.zero) 3)==(La 3))&&((((H.getD ((ln:Int)).toNat tHave.zero) 4)==(La 4))&&true)))))),uU,uU,uU,uU,uU,uU,uU,uU,uU],[.gone,.cells [iI (ln:Int)],.obj (mO M),.cells [.map 2],.rows 128 1 5 (rowsFn tint La),.cells [.list 2 n (rowsOf tPair P),.list 5 (n+1) (rowsOf tHave H)],.rows 128 1 5 (rowsFn tint (H.getD ((ln:Int)).toNat tHave.zero))],[]⟩ (fun e T=>e=.normal∧T=⟨[uU,uU,uU,uU,uU,uU,uU,uU,.ref 1 0 0,.ref 3 0 0,.ref 4 0 0,.ref 5 0 0,.ref 6 0 0,uU,uU,uU,uU,uU,uU,uU,uU,uU,uU,uU,uU,uU,uU,uU,uU,.ref 5 0 1,.list 5 (n+1) (rowsOf tHave H),iI (ln:Int),.cref 5 fun q=>([iI ((H.getD ((ln:Int)).toNat tHave.zero) 0),iI ((H.getD ((ln:Int)).toNat tHave.zero) 1),iI ((H.getD ((ln:Int)).toNat tHave.zero) 2),iI ((H.getD ((ln:Int)).toNat tHave.zero) 3),iI ((H.getD ((ln:Int)).toNat tHave.zero) 4)]:List V).getD q uU,.agg [iI ((H.getD ((ln:Int)).toNat tHave.zero) 0),iI ((H.getD ((ln:Int)).toNat tHave.zero) 1),iI ((H.getD ((ln:Int)).toNat tHave.zero) 2),iI ((H.getD ((ln:Int)).toNat tHave.zero) 3),iI ((H.getD ((ln:Int)).toNat tHave.zero) 4)],.arr 1 5 (rowsFn tint (H.getD ((ln:Int)).toNat tHave.zero)),.arr 1 5 (rowsFn tint La),.bool (!((((H.getD ((ln:Int)).toNat tHave.zero) 0)==(La 0))&&((((H.getD ((ln:Int)).toNat tHave.zero) 1)==(La 1))&&((((H.getD ((ln:Int)).toNat tHave.zero) 2)==(La 2))&&((((H.getD ((ln:Int)).toNat tHave.zero) 3)==(La 3))&&((((H.getD ((ln:Int)).toNat tHave.zero) 4)==(La 4))&&true)))))),.map 2,.arr 1 5 (rowsFn tint (H.getD ((ln:Int)).toNat tHave.zero)),iI (cntM M (H.getD ((ln:Int)).toNat tHave.zero)),iI ((cntM M (H.getD ((ln:Int)).toNat tHave.zero))+(1:Int)),.tuple [iI (cntM M (H.getD ((ln:Int)).toNat tHave.zero)),iI (idxM M (H.getD ((ln:Int)).toNat tHave.zero):Int)],iI (idxM M (H.getD ((ln:Int)).toNat tHave.zero):Int),uU,uU,uU],[.gone,.cells [iI (ln:Int)],.obj (mO (addM M (H.getD ((ln:Int)).toNat tHave.zero))),.cells [.map 2],.rows 128 1 5 (rowsFn tint La),.cells [.list 2 n (rowsOf tPair P),.list 5 (n+1) (rowsOf tHave H)],.rows 128 1 5 (rowsFn tint (H.getD ((ln:Int)).toNat tHave.zero))],[]⟩):=by
 have z_sz:o27_11.size=7:=by kernel_rfl
 refine AWP.region_anyC (ops:=o27_11) 6 mx (by kernel_rfl) (by omega) (fun j_ z_1 z_2=> ?_) (fun l_=>st27_11 n P H ln M La lq (l_.getD 0 false) (l_.getD 1 false) (l_.getD 2 false) (l_.getD 3 false) (l_.getD 4 false) (l_.getD 5 false)) (fun β_ G_ K_ a_ w_ r_=>⟨_,Homes.le_append β_ (List.replicate 0 Hm.void),?_⟩) (fun l_ i_ z_l z_i z_li z_j z_c z_r=> ?_) (fun l_ z_l z_1 z_2=> ?_)
 ·rcases show j_=6 by omega with rfl
  all_goals kernel_rfl
 ·rw[z_sz];exact r_.reserve 0
 ·have z_lt:i_<l_.size:=by omega
  simp only[gset7 z_lt]
  rcases show i_=0∨i_=1∨i_=2∨i_=3∨i_=4∨i_=5 by omega with rfl|rfl|rfl|rfl|rfl|rfl
  ·have z_g2:=reach_not (ops:=o27_11) (i:=0) (j:=2) (by kernel_rfl) z_c z_li
   have z_g3:=reach_not (ops:=o27_11) (i:=0) (j:=3) (by kernel_rfl) z_c z_li
   have z_g4:=reach_not (ops:=o27_11) (i:=0) (j:=4) (by kernel_rfl) z_c z_li
   have z_g5:=reach_not (ops:=o27_11) (i:=0) (j:=5) (by kernel_rfl) z_c z_li
   simp only[Nat.reduceEqDiff,if_true,if_false,reduceIte,z_li,z_g2,z_g3,z_g4,z_g5]
   exact sp27_11_0 n P H ln M La lq hL hE hS hr _
  ·have z_g2:=reach_not (ops:=o27_11) (i:=1) (j:=2) (by kernel_rfl) z_c z_li
   have z_g3:=reach_not (ops:=o27_11) (i:=1) (j:=3) (by kernel_rfl) z_c z_li
   have z_g4:=reach_not (ops:=o27_11) (i:=1) (j:=4) (by kernel_rfl) z_c z_li
   have z_g5:=reach_not (ops:=o27_11) (i:=1) (j:=5) (by kernel_rfl) z_c z_li
   simp only[Nat.reduceEqDiff,if_true,if_false,reduceIte,z_li,z_g2,z_g3,z_g4,z_g5]
   exact sp27_11_1 n P H ln M La lq hL hE hS hr _
  ·have z_g0:=reach_ready (ops:=o27_11) (i:=0) (j:=2) (by kernel_rfl) z_c z_r
   have z_g1:=reach_ready (ops:=o27_11) (i:=1) (j:=2) (by kernel_rfl) z_c z_r
   have z_g3:=reach_not (ops:=o27_11) (i:=2) (j:=3) (by kernel_rfl) z_c z_li
   simp only[Nat.reduceEqDiff,if_true,if_false,reduceIte,z_li,z_g0,z_g1,z_g3]
   exact sp27_11_2 n P H ln M La lq hL hE hS hr _ _
  ·have z_g0:=reach_ready (ops:=o27_11) (i:=0) (j:=3) (by kernel_rfl) z_c z_r
   have z_g1:=reach_ready (ops:=o27_11) (i:=1) (j:=3) (by kernel_rfl) z_c z_r
   have z_g2:=reach_ready (ops:=o27_11) (i:=2) (j:=3) (by kernel_rfl) z_c z_r
   simp only[Nat.reduceEqDiff,if_true,if_false,reduceIte,z_li,z_g0,z_g1,z_g2]
   exact sp27_11_3 n P H ln M La lq hL hE hS hr _ _
  ·have z_g0:=reach_ready (ops:=o27_11) (i:=0) (j:=4) (by kernel_rfl) z_c z_r
   have z_g1:=reach_ready (ops:=o27_11) (i:=1) (j:=4) (by kernel_rfl) z_c z_r
   have z_g5:=reach_not (ops:=o27_11) (i:=4) (j:=5) (by kernel_rfl) z_c z_li
   simp only[Nat.reduceEqDiff,if_true,if_false,reduceIte,z_li,z_g0,z_g1,z_g5]
   exact sp27_11_4 n P H ln M La lq hL hE hS hr _ _
  ·have z_g0:=reach_ready (ops:=o27_11) (i:=0) (j:=5) (by kernel_rfl) z_c z_r
   have z_g1:=reach_ready (ops:=o27_11) (i:=1) (j:=5) (by kernel_rfl) z_c z_r
   have z_g4:=reach_ready (ops:=o27_11) (i:=4) (j:=5) (by kernel_rfl) z_c z_r
   simp only[Nat.reduceEqDiff,if_true,if_false,reduceIte,z_li,z_g0,z_g1,z_g4]
   exact sp27_11_5 n P H ln M La lq hL hE hS hr _ _
 ·simp only[z_1 0 (by omega),z_1 1 (by omega),z_1 2 (by omega),z_1 3 (by omega),z_1 4 (by omega),z_1 5 (by omega)]
  rw[z_sz]
  refine AOps.tree (g:=(.sem (opAt Tryz.f27 11 6) [(.tmp 37,.map 2),(.tmp 42,iI (idxM M (H.getD ((ln:Int)).toNat tHave.zero):Int)),(.tmp 40,iI ((cntM M (H.getD ((ln:Int)).toNat tHave.zero))+(1:Int)))] [.gone,.cells [iI (ln:Int)],.obj (mO (entM M (H.getD ((ln:Int)).toNat tHave.zero))),.cells [.map 2],.rows 128 1 5 (rowsFn tint La),.cells [.list 2 n (rowsOf tPair P),.list 5 (n+1) (rowsOf tHave H)],.rows 128 1 5 (rowsFn tint (H.getD ((ln:Int)).toNat tHave.zero))] (uU) [.gone,.cells [iI (ln:Int)],.obj (mO (addM M (H.getD ((ln:Int)).toNat tHave.zero))),.cells [.map 2],.rows 128 1 5 (rowsFn tint La),.cells [.list 2 n (rowsOf tPair P),.list 5 (n+1) (rowsOf tHave H)],.rows 128 1 5 (rowsFn tint (H.getD ((ln:Int)).toNat tHave.zero))] (.done .normal ⟨[uU,uU,uU,uU,uU,uU,uU,uU,.ref 1 0 0,.ref 3 0 0,.ref 4 0 0,.ref 5 0 0,.ref 6 0 0,uU,uU,uU,uU,uU,uU,uU,uU,uU,uU,uU,uU,uU,uU,uU,uU,.ref 5 0 1,.list 5 (n+1) (rowsOf tHave H),iI (ln:Int),.cref 5 fun q=>([iI ((H.getD ((ln:Int)).toNat tHave.zero) 0),iI ((H.getD ((ln:Int)).toNat tHave.zero) 1),iI ((H.getD ((ln:Int)).toNat tHave.zero) 2),iI ((H.getD ((ln:Int)).toNat tHave.zero) 3),iI ((H.getD ((ln:Int)).toNat tHave.zero) 4)]:List V).getD q uU,.agg [iI ((H.getD ((ln:Int)).toNat tHave.zero) 0),iI ((H.getD ((ln:Int)).toNat tHave.zero) 1),iI ((H.getD ((ln:Int)).toNat tHave.zero) 2),iI ((H.getD ((ln:Int)).toNat tHave.zero) 3),iI ((H.getD ((ln:Int)).toNat tHave.zero) 4)],.arr 1 5 (rowsFn tint (H.getD ((ln:Int)).toNat tHave.zero)),.arr 1 5 (rowsFn tint La),.bool (!((((H.getD ((ln:Int)).toNat tHave.zero) 0)==(La 0))&&((((H.getD ((ln:Int)).toNat tHave.zero) 1)==(La 1))&&((((H.getD ((ln:Int)).toNat tHave.zero) 2)==(La 2))&&((((H.getD ((ln:Int)).toNat tHave.zero) 3)==(La 3))&&((((H.getD ((ln:Int)).toNat tHave.zero) 4)==(La 4))&&true)))))),.map 2,.arr 1 5 (rowsFn tint (H.getD ((ln:Int)).toNat tHave.zero)),iI (cntM M (H.getD ((ln:Int)).toNat tHave.zero)),iI ((cntM M (H.getD ((ln:Int)).toNat tHave.zero))+(1:Int)),.tuple [iI (cntM M (H.getD ((ln:Int)).toNat tHave.zero)),iI (idxM M (H.getD ((ln:Int)).toNat tHave.zero):Int)],iI (idxM M (H.getD ((ln:Int)).toNat tHave.zero):Int),uU,uU,uU],[.gone,.cells [iI (ln:Int)],.obj (mO (addM M (H.getD ((ln:Int)).toNat tHave.zero))),.cells [.map 2],.rows 128 1 5 (rowsFn tint La),.cells [.list 2 n (rowsOf tPair P),.list 5 (n+1) (rowsOf tHave H)],.rows 128 1 5 (rowsFn tint (H.getD ((ln:Int)).toNat tHave.zero))],[]⟩))) (by kernel_rfl) ?_
  simp only[DT.holds]
  repeat' (first|exact rfl|refine And.intro ?_ ?_)
  all_goals first|(simp;done)|exact hS _ rfl
theorem key128:KeyT Tryz.prog 128 where
 und:=⟨3,by kernel_rfl⟩
 eqv:=fun F G=>by kernel_rfl
 chk:=fun b F w=>run_checkK (e:=3) (by kernel_rfl) (by kernel_rfl) (by kernel_rfl) (by kernel_rfl) (fun F i hi=>by
  rcases show i=0∨i=1∨i=2∨i=3∨i=4 by omega with rfl|rfl|rfl|rfl|rfl<;>kernel_rfl) b F w
theorem idx_cases(M:KM)(F:Nat→Int):(∃hj:idxM M F<M.length,same5 F M[idxM M F].1=true∧∀i,(hi:i<M.length)→i<idxM M F→same5 F M[i].1=false)∨(idxM M F=M.length∧∀p∈M,same5 F p.1=false):=by
 unfold idxM
 by_cases h:M.findIdx (fun p=>same5 F p.1)<M.length
 ·exact .inl ⟨h,List.findIdx_getElem (w:=h),fun i hi hlt=>by simpa using List.not_of_lt_findIdx hlt⟩
 ·right
  have e:M.findIdx (fun p=>same5 F p.1)=M.length:=Nat.le_antisymm List.findIdx_le_length (Nat.le_of_not_lt h)
  refine⟨e,fun p hp=> ?_⟩
  cases hs:same5 F p.1 with
  |false=>rfl
  |true=>exact absurd (List.findIdx_lt_length.2 ⟨p,hp,hs⟩) h
theorem ent_len(M:KM)(F:Nat→Int):idxM M F<(entM M F).length:=by
 rcases idx_cases M F with⟨hj,-⟩|⟨e,-⟩
 ·unfold entM;rw[if_pos hj];exact hj
 ·unfold entM;rw[if_neg (by omega),List.length_append,e];simp
theorem semL(M:KM)(F:Nat→Int)(hh:List Blk)(hm:hh[2]? =some (mK M)∨hh[2]? =some (mK (entM M F))):SemOK Tryz.prog (.lookup 131 (.tmp 37) (.tmp 38) false) [(.tmp 37,.map 2),(.tmp 38,.arr 1 5 (rowsFn tint F))] hh (iI (cntM M F)) hh:=by
 have hc:∀r,r<5→rowsFn tint F r 0=iI (F r):=fun r _=>rfl
 rcases idx_cases M F with⟨hj,h1,h2⟩|⟨e,h1⟩
 ·have he:entM M F=M:=if_pos hj
  rw[he,or_self]at hm
  have hv:cntM M F=M[idxM M F].2:=by unfold cntM;rw[List.getD_eq_getElem?_getD,List.getElem?_eq_getElem hj];rfl
  rw[hv]
  exact sem_lookupK1 (kt:=128) (et:=3) (by kernel_rfl) key128 hm hc hj h1 h2
 ·have hv:cntM M F=0:=by unfold cntM;rw[List.getD_eq_getElem?_getD,List.getElem?_eq_none (by omega)];rfl
  rw[hv]
  rcases hm with hm|hm
  ·exact sem_lookupK0 (kt:=128) (et:=3) (by kernel_rfl) key128 (by kernel_rfl) hm hc h1
  ·have he:entM M F=M++ [(F,0)]:=if_neg (by omega)
   rw[he]at hm
   have hjl:M.length<(M++ [(F,(0:Int))]).length:=by simp
   have:=sem_lookupK1 (P:=Tryz.prog) (t:=131) (x:=.tmp 37) (y:=.tmp 38) (kt:=128) (et:=3) (by kernel_rfl) key128 hm hc (j:=M.length) hjl (by simp[same5]) (fun i hi hlt=>by rw[List.getElem_append_left hlt];exact h1 _ (List.getElem_mem _))
   simpa using this
theorem semE(M:KM)(F:Nat→Int)(hh:List Blk)(hm:hh[2]? =some (mK M)):SemOK Tryz.prog (.mapEntry 131 (.tmp 37) (.tmp 38)) [(.tmp 37,.map 2),(.tmp 38,.arr 1 5 (rowsFn tint F))] hh (.tuple [iI (cntM M F),iI (idxM M F:Int)]) (hh.set 2 (mK (entM M F))):=by
 have hc:∀r,r<5→rowsFn tint F r 0=iI (F r):=fun r _=>rfl
 rcases idx_cases M F with⟨hj,h1,h2⟩|⟨e,h1⟩
 ·have he:entM M F=M:=if_pos hj
  have hv:cntM M F=M[idxM M F].2:=by unfold cntM;rw[List.getD_eq_getElem?_getD,List.getElem?_eq_getElem hj];rfl
  rw[hv,he]
  exact sem_entryK1 (kt:=128) (et:=3) (by kernel_rfl) key128 hm hc hj h1 h2
 ·have hv:cntM M F=0:=by unfold cntM;rw[List.getD_eq_getElem?_getD,List.getElem?_eq_none (by omega)];rfl
  have he:entM M F=M++ [(F,0)]:=if_neg (by omega)
  rw[hv,he,e]
  exact sem_entryK0 (kt:=128) (et:=3) (by kernel_rfl) key128 (by kernel_rfl) hm hc h1
theorem semS(M:KM)(F:Nat→Int)(hh:List Blk)(hm:hh[2]? =some (mK (entM M F))):SemOK Tryz.prog (opAt Tryz.f27 11 6) [(.tmp 37,.map 2),(.tmp 42,iI (idxM M F:Int)),(.tmp 40,iI (cntM M F+(1:Int)))] hh uU (hh.set 2 (mK (addM M F))):=by
 have e:opAt Tryz.f27 11 6=.entryStore 131 (.tmp 37) (.tmp 42) (.tmp 40):=by kernel_rfl
 rw[e]
 have hj:=ent_len M F
 have:=sem_storeK (P:=Tryz.prog) (t:=131) (x:=.tmp 37) (y:=.tmp 42) (z:=.tmp 40) hm hj (cntM M F+1)
 have ea:addM M F=(entM M F).set (idxM M F) ((entM M F)[idxM M F].1,cntM M F+1):=by
  unfold addM;rw[List.getD_eq_getElem?_getD,List.getElem?_eq_getElem hj];rfl
 rw[ea];exact this
def stepM(s:KM × (Nat→Int))(F:Nat→Int):KM × (Nat→Int):=if same5 F s.2=true then s else(addM s.1 F,F)
def manyM(b:Book)(day:Int)(l:List Truth):KM × (Nat→Int):=l.foldl (fun s t=>stepM s (fnH (atR b t day))) ([],fun _=>0)
def metL(b:Book)(day:Int)(l:List Truth):List (List Int):=(l.map fun t=>atR b t day).foldl metN []
theorem same_fnH{l m:List Int}(hl:l.length=m.length)(h5:l.length≤5):same5 (fnH l) (fnH m)=true↔l=m:=by
 constructor
 ·intro h
  have hj:∀j,j<5→fnH l j=fnH m j:=fun j hj=>by
   obtain⟨q0,q1,q2,q3,q4⟩:=same5_iff.1 h
   rcases show j=0∨j=1∨j=2∨j=3∨j=4 by omega with rfl|rfl|rfl|rfl|rfl<;>assumption
  refine List.ext_getElem hl fun j h1 h2=> ?_
  have:=hj j (by omega)
  rw[fnH_get h1 (by omega),fnH_get h2 (by omega),List.getD_eq_getElem?_getD,List.getD_eq_getElem?_getD,List.getElem?_eq_getElem h1,List.getElem?_eq_getElem h2]at this
  exact this
 ·rintro rfl;simp[same5]
theorem met_mem{b:Book}{day:Int}:∀(l:List (List Int)) (m:List (List Int)),∀o∈l.foldl metN m,o∈l∨o∈m
 |[],m,o,h=>.inr h
 |x::l,m,o,h=>by
  rw[List.foldl_cons]at h
  rcases met_mem (b:=b) (day:=day) l _ o h with q|q
  ·exact .inl (List.mem_cons_of_mem _ q)
  ·unfold metN at q
   split at q
   ·exact .inr q
   ·rcases List.mem_append.1 q with q|q
    ·exact .inr q
    ·rw[List.mem_singleton.1 q];exact .inl List.mem_cons_self
theorem zero_ne{n:Nat}(h5:n≤5){l:List Int}(hp:l.Perm ((List.range n).map fun(i:Nat)=>(i:Int))):same5 (fnH l) (fun _=>0)=false:=by
 obtain⟨hl,hnd,hin,hex⟩:=perm_get hp
 cases hs:same5 (fnH l) (fun _=>0)with
 |false=>rfl
 |true=>
  exfalso
  have hj:∀j,j<5→fnH l j=0:=fun j hj=>by
   obtain⟨q0,q1,q2,q3,q4⟩:=same5_iff.1 hs
   rcases show j=0∨j=1∨j=2∨j=3∨j=4 by omega with rfl|rfl|rfl|rfl|rfl<;>assumption
  by_cases h1:n≤1
  ·have:=hj 1 (by omega)
   unfold fnH at this
   rw[if_pos (by omega),if_neg (by omega)]at this;cases this
  ·obtain⟨i,hi,hv⟩:=hex 1 (by omega) (by omega)
   have:=hj i (by omega)
   rw[fnH_get (by omega) (by omega),hv]at this;cases this
structure InvM(b:Book)(day:Int)(l:List Truth)(s:KM × (Nat→Int)):Prop where
 keys:s.1.map (·.1)=(metL b day l).map fnH
 cnt:∀p∈s.1,0≤p.2∧p.2≤l.length
 last:s.2=(fun _=>0)∨∃o∈metL b day l,s.2=fnH o
theorem cnt_in{b:Book}{day:Int}{l:List Truth}{s:KM × (Nat→Int)}(h:InvM b day l s)(F:Nat→Int):0≤cntM s.1 F∧cntM s.1 F≤l.length:=by
 unfold cntM
 by_cases hj:idxM s.1 F<s.1.length
 ·rw[List.getD_eq_getElem?_getD,List.getElem?_eq_getElem hj];exact h.cnt _ (List.getElem_mem hj)
 ·rw[List.getD_eq_getElem?_getD,List.getElem?_eq_none (by omega)]
  exact⟨Int.le_refl _,by show(0:Int)≤_;omega⟩
theorem inv_step{b:Book}(h:OkBook b){day:Int}{l:List Truth}{s:KM × (Nat→Int)}(hi:InvM b day l s){t:Truth}(ht:t∈truthsR b [])(hl:∀u∈l,u∈truthsR b []):InvM b day (l++ [t]) (stepM s (fnH (atR b t day))):=by
 have hnb:=h.nb
 have hln:=lineN_in b day
 have hperm:∀u∈truthsR b [],(atR b u day).Perm (firstH b):=fun u hu=>have_in h hu (by omega)
 have hlen:∀o∈metL b day l,o.length=b.bodies.length:=fun o ho=>by
  rcases met_mem (b:=b) (day:=day) _ _ o ho with q|q
  ·obtain⟨u,hu,rfl⟩:=List.mem_map.1 q
   exact(perm_get (hperm u (hl u hu))).1
  ·cases q
 have hown:=(perm_get (hperm t ht)).1
 have hz:=zero_ne hnb (hperm t ht)
 have hmet:metL b day (l++ [t])=metN (metL b day l) (atR b t day):=by unfold metL;rw[List.map_append,List.foldl_append];rfl
 have hany:(metL b day l).any (fun m=>sameI m (atR b t day))=true↔atR b t day∈metL b day l:=by
  rw[List.any_eq_true]
  constructor
  ·rintro⟨m,h1,h2⟩
   rw[←of_decide_eq_true h2];exact h1
  ·intro h1;exact⟨_,h1,decide_eq_true rfl⟩
 have hlen2:(l++ [t]).length=l.length+1:=by simp
 generalize atR b t day=own at*
 unfold stepM
 by_cases hsm:same5 (fnH own) s.2=true
 ·rw[if_pos hsm]
  have hin:own∈metL b day l:=by
   rcases hi.last with q|⟨o,ho,q⟩
   ·rw[q,hz]at hsm;cases hsm
   ·rw[q]at hsm
    rw[(same_fnH (by rw[hown,hlen o ho]) (by omega)).1 hsm];exact ho
  have e:metN (metL b day l) own=metL b day l:=by unfold metN;rw[if_pos (hany.2 hin)]
  rw[e]at hmet
  exact⟨by rw[hmet];exact hi.keys,fun p hp=>by have:=hi.cnt p hp;rw[hlen2];omega,by rw[hmet];exact hi.last⟩
 ·rw[if_neg hsm]
  have hci:=cnt_in hi (fnH own)
  have hel:=ent_len s.1 (fnH own)
  have hk2:∀M':KM,idxM s.1 (fnH own)<M'.length→(M'.set (idxM s.1 (fnH own)) ((M'.getD (idxM s.1 (fnH own)) (fnH own,0)).1,cntM s.1 (fnH own)+1)).map (·.1)=M'.map (·.1):=fun M' hM'=>by
   rw[List.map_set]
   refine List.ext_getElem (by simp) fun j h1 h2=> ?_
   by_cases e:idxM s.1 (fnH own)=j
   ·subst e
    rw[List.getElem_set_self,List.getElem_map,List.getD_eq_getElem?_getD,List.getElem?_eq_getElem hM'];rfl
   ·rw[List.getElem_set_ne e]
  have hcnt:∀p∈addM s.1 (fnH own),0≤p.2∧p.2≤((l++ [t]).length:Int):=fun p hp=>by
   rw[hlen2]
   unfold addM at hp
   rcases List.mem_or_eq_of_mem_set hp with q|rfl
   ·unfold entM at q
    split at q
    ·have:=hi.cnt p q;omega
    ·rcases List.mem_append.1 q with q|q
     ·have:=hi.cnt p q;omega
     ·rw[List.mem_singleton.1 q];exact⟨Int.le_refl _,by show(0:Int)≤_;omega⟩
   ·simp only;omega
  have hmem:idxM s.1 (fnH own)<s.1.length↔own∈metL b day l:=by
   unfold idxM
   rw[List.findIdx_lt_length]
   constructor
   ·rintro⟨p,hp,hs⟩
    have:p.1∈s.1.map (·.1):=List.mem_map.2 ⟨p,hp,rfl⟩
    rw[hi.keys]at this
    obtain⟨o,ho,hq⟩:=List.mem_map.1 this
    rw[←hq]at hs
    rw[(same_fnH (by rw[hown,hlen o ho]) (by omega)).1 hs];exact ho
   ·intro ho
    have:fnH own∈s.1.map (·.1):=by rw[hi.keys];exact List.mem_map.2 ⟨own,ho,rfl⟩
    obtain⟨p,hp,hq⟩:=List.mem_map.1 this
    exact⟨p,hp,by rw[hq];simp[same5]⟩
  have hkeys:(addM s.1 (fnH own)).map (·.1)=(entM s.1 (fnH own)).map (·.1):=hk2 _ hel
  by_cases hin:own∈metL b day l
  ·have e:metN (metL b day l) own=metL b day l:=by unfold metN;rw[if_pos (hany.2 hin)]
   have he:entM s.1 (fnH own)=s.1:=if_pos (hmem.2 hin)
   rw[e]at hmet
   rw[he]at hkeys
   exact⟨by rw[hmet];exact hkeys.trans hi.keys,hcnt,.inr ⟨own,by rw[hmet];exact hin,rfl⟩⟩
  ·have e:metN (metL b day l) own=metL b day l++ [own]:=by unfold metN;rw[if_neg (fun q=>hin (hany.1 q))]
   have he:entM s.1 (fnH own)=s.1++ [(fnH own,0)]:=if_neg (fun q=>hin (hmem.1 q))
   rw[e]at hmet
   rw[he]at hkeys
   exact⟨by rw[hmet,hkeys,List.map_append,List.map_append,hi.keys];rfl,hcnt,.inr ⟨own,by rw[hmet];simp,rfl⟩⟩
theorem inv_all{b:Book}(h:OkBook b)(day:Int):∀(r l:List Truth) (s:KM × (Nat→Int)),InvM b day l s→(∀u∈l++r,u∈truthsR b [])→InvM b day (l++r) (r.foldl (fun s t=>stepM s (fnH (atR b t day))) s)
 |[],l,s,hi,_=>by rw[List.append_nil];exact hi
 |t::r,l,s,hi,hm=>by
  have e:l++t::r=(l++ [t])++r:=by simp
  rw[e,List.foldl_cons]
  refine inv_all h day r (l++ [t]) _ (inv_step h hi (hm t (by simp)) fun u hu=>hm u (List.mem_append_left _ hu)) fun u hu=>hm u (by rw[e];exact hu)
theorem inv_take{b:Book}(h:OkBook b)(day:Int)(k:Nat):InvM b day ((truthsR b []).take k) (manyM b day ((truthsR b []).take k)):=by
 have:=inv_all h day ((truthsR b []).take k) [] ([],fun _=>0) ⟨rfl,fun p hp=>absurd hp List.not_mem_nil,.inl rfl⟩ (fun u hu=>List.mem_of_mem_take (by simpa using hu))
 rwa[List.nil_append]at this
inductive P27y
 |e
inductive R27y
 |r0 (r0:Int) (r1:Int)
 |r1 (r0:Int) (r1:Int)
noncomputable def T27y(b:Book)(day:Int):P27y→Tr P27y R27y
 |.e=>let c2:List V:=[uU,uU,uU,uU,uU,uU,uU,uU,.ref 1 0 0,.ref 3 0 0,.ref 4 0 0,uU,uU,uU,uU,uU,uU,uU,uU,uU,uU,uU,uU,uU,uU,uU,uU,fG 110 [rR (lk (lookOf b)),rR (iI 0)],uU,uU,uU,uU,uU,uU,uU,uU,uU,uU,uU,uU,uU,uU,uU,uU,uU,uU];let c3:=((manyM b day (truthsR b [])).1.length:Int);let c4:List V:=[iI (lineN b day)];let c1:List Blk:=[.cells (cC b),.cells c4,.obj (mO ((manyM b day (truthsR b [])).1)),.cells [.map 2],.rows 128 1 5 (rowsFn tint ((manyM b day (truthsR b [])).2)),.obj (.deferred (some []))];(.call 74 [.agg (cC b),iI day,.nils] (.tuple [lk (lookOf b),iI 0]) true true (.br ((0:Int) !=(0:Int)) (.out (.r0 0 0)) (.call 77 [lk (lookOf b),iI day] (iI (lineN b day)) true true (.sem (opAt Tryz.f27 5 0) [] [.cells (cC b),.cells c4] (.map 2) [.cells (cC b),.cells c4,.obj (mO ([]))] true (.wait 2 (.telb 4 1 5 (fun _ j=>([iI 0]:List V).getD j uU) (rowsFn tint (fun _=>tint.zero)) (.call 75 [lk (lookOf b),iI 0] (fG 110 [rR (lk (lookOf b)),rR (iI 0)]) true true (.wait 1 (.drop ⟨[uU,uU,uU,uU,uU,uU,uU,uU,.nil,.nil,.nil,uU,uU,uU,uU,uU,uU,uU,uU,uU,uU,uU,uU,uU,uU,uU,uU,.nil,uU,uU,uU,uU,uU,uU,uU,uU,uU,uU,uU,uU,uU,uU,uU,uU,uU,uU],[.void,.void,.void,.void,.void],[]⟩ (.over (rangeOf Tryz.f27) ⟨c2,[.cells (cC b),.cells c4,.obj (mO ([])),.cells [.map 2],.rows 128 1 5 (rowsFn tint (fun _=>tint.zero))],[]⟩ .normal ⟨c2,c1,[5]⟩ true (.sem (opAt Tryz.f27 13 1) [(.tmp 44,.map 2)] c1 (iI c3) c1 true (.out (.r1 c3 0)))))))))))))
noncomputable def g27y(b:Book)(day:Int):P27y→List Item × St
 |.e=>bd Tryz.f27 [.agg (cC b),iI day] 44
noncomputable def n27y(b:Book)(day:Int):R27y→Exit × St
 |.r0 r0 r1=>(.ret,⟨mk 46 [(4,iI r0),(5,iI r1)],[],[]⟩)
 |.r1 r0 r1=>(.ret,⟨mk 46 [(4,iI r0),(5,iI r1)],[.gone,.gone,.gone,.gone,.gone,.obj (.deferred (some []))],[5]⟩)
noncomputable def v27y(b:Book)(day:Int):R27y→V
 |.r0 r0 r1=>.tuple [iI r0,iI r1]
 |.r1 r0 r1=>.tuple [iI r0,iI r1]
theorem s27y(b:Book)(day:Int):Sm 0 (g27y b day) (T27y b day) (n27y b day)
 |.e=>⟨400,by kernel_rfl⟩
theorem q27y(b:Book)(day:Int):∀r,bodyQ Tryz.prog Tryz.f27 (·=v27y b day r) (n27y b day r).1 (n27y b day r).2
 |.r0 r0 r1=>bq (.tuple [iI r0,iI r1]) (by kernel_rfl)
 |.r1 r0 r1=>⟨.inr rfl,by simp[n27y],(.tuple [iI r0,iI r1]),(.tuple [iI r0,iI r1]),by kernel_rfl,(.imm rfl),rfl⟩
theorem w27y(b:Book)(day:Int){post:V→Prop}(h:WP Tryz.prog ⟨none,0⟩ (T27y b day) (Ends' fun r=>post (v27y b day r)) .e):PC 27 [.agg (cC b),iI day] post:=
 PCalls.wq Tryz.func27 (s27y b day) (q27y b day) h
inductive P27n
 |e
inductive R27n
 |r0 (r0:Int) (r1:Int)
noncomputable def T27n(b:Book)(day:Int):P27n→Tr P27n R27n
 |.e=>let c1:=toldR b [] day;(.call 74 [.agg (cC b),iI day,.nils] (.tuple [.nil,iI (c1.2)]) true true (.br (c1.2 !=(0:Int)) (.out (.r0 0 (c1.2))) (.wait 2 .never)))
noncomputable def g27n(b:Book)(day:Int):P27n→List Item × St
 |.e=>bd Tryz.f27 [.agg (cC b),iI day] 44
noncomputable def n27n(b:Book)(day:Int):R27n→Exit × St
 |.r0 r0 r1=>(.ret,⟨mk 46 [(4,iI r0),(5,iI r1)],[],[]⟩)
noncomputable def v27n(b:Book)(day:Int):R27n→V
 |.r0 r0 r1=>.tuple [iI r0,iI r1]
theorem s27n(b:Book)(day:Int):Sm 0 (g27n b day) (T27n b day) (n27n b day)
 |.e=>⟨400,by kernel_rfl⟩
theorem q27n(b:Book)(day:Int):∀r,bodyQ Tryz.prog Tryz.f27 (·=v27n b day r) (n27n b day r).1 (n27n b day r).2
 |.r0 r0 r1=>bq (.tuple [iI r0,iI r1]) (by kernel_rfl)
theorem w27n(b:Book)(day:Int){post:V→Prop}(h:WP Tryz.prog ⟨none,0⟩ (T27n b day) (Ends' fun r=>post (v27n b day r)) .e):PC 27 [.agg (cC b),iI day] post:=
 PCalls.wq Tryz.func27 (s27n b day) (q27n b day) h
abbrev H27(ln:Nat)(s:KM × (Nat→Int)):List Blk:=[.gone,.cells [iI (ln:Int)],.obj (mO s.1),.cells [.map 2],.rows 128 1 5 (rowsFn tint s.2)]
theorem body27(l:Nat)(n:Nat)(P:List Pair)(H:List (Nat→Int))(ln:Nat)(M:KM)(La:Nat→Int)(hln:ln≤n)(F:Nat→Int)(hF:H.getD ln tHave.zero=F)(hc:0≤cntM M F∧cntM M F≤100000000):
  AWP Tryz.prog ⟨some l,5⟩ (bdyOf (rangeOf Tryz.f27)) (g27b n P H ln M La .e).2 fun e S2=>e=.normal∧S2.h=H27 ln (stepM (M,La) F):=by
 subst hF
 have hln':(ln:Int)<((n+1:Nat):Int):=by omega
 have hln2:(ln:Int)<(n:Int)+1:=by omega
 have hr:inR .i64 (cntM M (H.getD ln tHave.zero)+1)=true:=inR64 (by omega) (by omega)
 have kov:=ov27_11 n P H ln M La l (by rw[Int.toNat_natCast];exact semL M _) (by rw[Int.toNat_natCast];exact semE M _) (by rw[Int.toNat_natCast];exact semS M _) (by rw[Int.toNat_natCast];exact hr)
 simp only[Int.toNat_natCast]at kov
 obtain⟨F,hF⟩:∃F,H.getD ln tHave.zero=F:=⟨_,rfl⟩
 have hsE:(F 0==La 0&&(F 1==La 1&&(F 2==La 2&&(F 3==La 3&&(F 4==La 4&&true)))))=same5 F La:=rfl
 refine AWP.wp mx (T27b n P H ln M La) (g27b n P H ln M La) (n27b n P H ln M La) .e rfl (s27b n P H ln M La) (post:=fun r=>(n27b n P H ln M La r).1=.normal∧(n27b n P H ln M La r).2.h=H27 ln (stepM (M,La) (H.getD ln tHave.zero))) ?_ (fun r hr=>hr)
 unfold stepM
 rw[hF]
 rw[hF]at kov
 cases hsm:same5 F La with
 |true=>
  rw[if_pos rfl]
  rw[hsm]at hsE
  refine WP.step ?_
  simp only[T27b,Go,Ends',Tr.sure,SS,hF,hsE,Int.toNat_natCast]
  repeat' with_reducible first|intro _|apply And.intro
  all_goals first|exact(by with_reducible exact tel_flatH _ (by assumption) (by assumption))|(simp[Go,Ends',-List.getD_eq_getElem?_getD, *];done)|skip
  all_goals(subst hF;first|exact⟨rfl,rfl⟩|exact rfl)
 |false=>
  rw[if_neg Bool.false_ne_true]
  rw[hsm]at hsE
  simp only[hsE,Bool.not_false]at kov
  refine WP.step ?_
  simp only[T27b,Go,Ends',Tr.sure,SS,hF,hsE,Int.toNat_natCast]
  repeat' with_reducible first|intro _|apply And.intro
  all_goals first|exact(by with_reducible exact tel_flatH _ (by assumption) (by assumption))|exact kov|(simp[Go,Ends',-List.getD_eq_getElem?_getD, *];done)|skip
  all_goals(subst hF;first|exact⟨rfl,rfl⟩|exact rfl)
abbrev t27(b:Book):List V:=[uU,uU,uU,uU,uU,uU,uU,uU,.ref 1 0 0,.ref 3 0 0,.ref 4 0 0]++List.replicate 16 uU++ [trF b 0]++List.replicate 18 uU
theorem manyM_step{b:Book}{day:Int}{l:List Truth}{k:Nat}{t:Truth}(h:l[k]? =some t):manyM b day (l.take (k+1))=stepM (manyM b day (l.take k)) (fnH (atR b t day)):=by
 unfold manyM;rw[take_get h,List.foldl_append];rfl
theorem range27(b:Book)(h:OkBook b)(day:Int)(ln:Nat)(hln:lineN b day=(ln:Int)):
  AWP Tryz.prog ⟨none,0⟩ (rangeOf Tryz.f27) ⟨t27 b,[.cells (tBook.cells b),.cells [iI (ln:Int)],.obj (mO []),.cells [.map 2],.rows 128 1 5 (rowsFn tint fun _=>0)],[]⟩ (fun e T=>e=.normal∧T=⟨t27 b,[.cells (tBook.cells b),.cells [iI (ln:Int)],.obj (mO (manyM b day (truthsR b [])).1),.cells [.map 2],.rows 128 1 5 (rowsFn tint (manyM b day (truthsR b [])).2),.obj (.deferred (some []))],[5]⟩):=by
 have e:rangeOf Tryz.f27=.rangeFunc (.tmp 27) #[28] (asgOf (rangeOf Tryz.f27)) (bdyOf (rangeOf Tryz.f27)):=by kernel_rfl
 have hln2:=lineN_in b day
 rw[hln]at hln2
 have hlen:(ysB b 0).length=(truthsR b []).length:=by unfold ysB;rw[List.length_map,butL_zero]
 have hfull:(truthsR b []).take (ysB b 0).length=truthsR b []:=by rw[hlen,List.take_length]
 have hsmall:=truths_len8 h []
 rw[e]
 refine(AWP.rangeVT (fs:=[true]) (T:=t27 b) (H:=fun k=>H27 ln (manyM b day ((truthsR b []).take k))) (f:=110) (ys:=ysB b 0) (caps:=[rR (lk (lookOf b)),rR (iI 0)])
  rfl rfl (fun i hi hv=> ?_) rfl (fun j=>.inl rfl) rfl rfl (PCalls.enters Tryz.func110 (c:=Tryz.f110.body.getD .skip) (by kernel_rfl) (by kernel_rfl)) (c110 b h 0) rfl (fun _=>rfl) (fun _=>rfl) (fun l k us hu=> ?_) (fun q i k hk=>freeAll (fun b hb=> ?_) i k hk)).mono fun e T q=>⟨q.1,by rw[q.2,hfull];rfl⟩
 ·match i,hi,hv with
  |0,_,hv=>cases hv
  |i+1,hi,_=>simp at hi
 ·obtain⟨t,ht,rfl⟩:=ysB_get hu
  rw[butL_zero]at ht
  have hinv:=inv_take h day k
  have hnx:=manyM_step (b:=b) (day:=day) ht
  have hkl:=(List.getElem?_eq_some_iff.1 ht).1
  have hF:(t.haves.map fnH).getD ln tHave.zero=fnH (atR b t day):=by
   rw[have_fn h (List.mem_of_getElem? ht) (k:=ln) (by omega)]
   unfold atR;rw[hln,Int.toNat_natCast]
  have hcn:=cnt_in hinv (fnH (atR b t day))
  have htl:((truthsR b []).take k).length≤100000000:=Nat.le_trans (List.length_take_le _ _) (by omega)
  rw[hnx]
  generalize manyM b day ((truthsR b []).take k)=s at*
  obtain⟨M,La⟩:=s
  refine⟨rfl,?_⟩
  refine AWP.forget (t:=(setPs [28] [.agg [.list 2 b.lines.length (rowsOf tPair t.pairs),.list 5 (b.lines.length+1) (rowsOf tHave (t.haves.map fnH))]] (t27 b)).set 27 uU) (by simp) (forget_set _ 27) ?_
  refine AWP.wp mx (T27a b.lines.length t.pairs (t.haves.map fnH) ln M La) (g27a b.lines.length t.pairs (t.haves.map fnH) ln M La) (n27a b.lines.length t.pairs (t.haves.map fnH) ln M La) .e rfl (s27a b.lines.length t.pairs (t.haves.map fnH) ln M La)
   (post:=fun r=>(n27a b.lines.length t.pairs (t.haves.map fnH) ln M La r).1=.normal∧(n27a b.lines.length t.pairs (t.haves.map fnH) ln M La r).2=(g27b b.lines.length t.pairs (t.haves.map fnH) ln M La .e).2) ?_ (fun r hr=> ?_)
  ·refine WP.step ?_
   simp only[T27a,Go,Ends',Tr.sure,SS]
   repeat' with_reducible first|intro _|apply And.intro
   all_goals exact rfl
  ·rw[hr.2]
   exact⟨hr.1,rfl,body27 l b.lines.length t.pairs (t.haves.map fnH) ln M La (by omega) _ hF ⟨hcn.1,by have:=hcn.2;simp only at this;omega⟩⟩
 ·simp only[List.mem_cons,List.not_mem_nil,or_false]at hb
  rcases hb with rfl|rfl|rfl|rfl|rfl
  ·trivial
  ·rfl
  ·trivial
  ·rfl
  ·intro r j hr hj
   obtain rfl:j=0:=by omega
   rfl
theorem c27(b:Book)(day:Int):PC 27 [.agg (tBook.cells b),iI day] (·=.tuple [iI (manyR b day).1,iI (manyR b day).2]):=by
 have k74:=PCalls.arg (pre:=[.agg (tBook.cells b),iI day]) (c74 b day []) VLe.nils
 by_cases h0:(toldR b [] day).2=0
 ·obtain⟨hok,hns,hday,hne,htl⟩:=told_ok h0
  have hinv:=inv_take hok day (truthsR b []).length
  rw[List.take_length]at hinv
  have hlen:(manyM b day (truthsR b [])).1.length=(metL b day (truthsR b [])).length:=by
   have:=congrArg List.length hinv.keys
   simpa using this
  have hP:manyR b day=(((manyM b day (truthsR b [])).1.length:Int),0):=by
   unfold manyR
   rw[if_neg (fun q=>q h0),hlen];rfl
  rw[if_pos h0,h0]at k74
  obtain⟨ln,hln⟩:∃ln:Nat,lineN b day=(ln:Int):=⟨_,(Int.toNat_of_nonneg (lineN_in b day).1).symm⟩
  have k77:=c77 b hok day
  have k75:=c75 (lookOf b) 0
  have hr:=range27 b hok day ln hln
  rw[←hln]at hr
  have s1:=fun(hh:List Blk)=>sem_makeK (P:=Tryz.prog) (h:=hh) 131
  have e1:opAt Tryz.f27 5 0=.makeMap 131 none:=by kernel_rfl
  have e2:opAt Tryz.f27 13 1=.call {callee:=.builtin .len,args:= #[.tmp 44],argTypes:= #[131]}:=by kernel_rfl
  have s2:=fun(hh:List Blk) (hm:hh[2]? =some (mK (manyM b day (truthsR b [])).1))=>sem_lenK (P:=Tryz.prog) (x:=.tmp 44) (t:=131) (kt:=128) (et:=3) (h:=hh) (by kernel_rfl) hm
  have s3:∀b1 b2:Blk,SemOK Tryz.prog (opAt Tryz.f27 5 0) [] [b1,b2] (.map 2) [b1,b2,.obj (mO [])]:=fun b1 b2=>by rw[e1];exact s1 [b1,b2]
  have s4:∀hh:List Blk,hh[2]? =some (mK (manyM b day (truthsR b [])).1)→SemOK Tryz.prog (opAt Tryz.f27 13 1) [(.tmp 44,.map 2)] hh (iI (manyM b day (truthsR b [])).1.length) hh:=fun hh hm=>by rw[e2];exact s2 hh hm
  rw[hP]
  refine w27y b day (WP.step ?_)
  simp only[T27y,Go,Ends',v27y,Tr.sure,SS]
  repeat' with_reducible first|intro _|apply And.intro
  all_goals first|exact k74|exact k75|exact k77|exact hr|exact(s3 _ _)|exact(s4 _ rfl)|exact(VLe.refl _)
 ·have hP:manyR b day=(0,(toldR b [] day).2):=by unfold manyR;rw[if_pos h0]
  rw[if_neg h0]at k74
  rw[hP]
  refine w27n b day (WP.step ?_)
  simp only[T27n,Go,Ends',v27n,Tr.sure,SS,h0]
  repeat' with_reducible first|intro _|apply And.intro
  all_goals exact k74
end
noncomputable section
inductive P81
 |e
 |l0 (x0_6:ByteArray) (x0_19:Int)
inductive R81
 |r0 (r0:ByteArray)
noncomputable def T81(x:Look)(body:Int)(day:Int):P81→Tr P81 R81
 |.e=>(.need (decide (0≤body)&&decide (body<(x.b.bodies.length:Int))) (.go (.l0 (ByteArray.mk #[]) 0)))
 |.l0 x0_6 x0_19=>let c1:=x.b.bodies.getD (body).toNat tBody.zero;let c2:=x0_19+(1:Int);let c3:=(c1.shown).getD (x0_19).toNat tShown.zero;let c4:=x0_19<((c1.shown.length):Int);(.br (decide c4) (.need (decide (0≤x0_19)&&decide c4) (.br (decide (c3.day≤day)) (.need (inR .i64 c2) (.go (.l0 (c3.as_) c2))) (.need (inR .i64 c2) (.go (.l0 x0_6 c2))))) (.out (.r0 x0_6)))
noncomputable def g81(x:Look)(body:Int)(day:Int):P81→List Item × St
 |.e=>bd Tryz.f81 [lk x,iI body,iI day] 28
 |.l0 x0_6 x0_19=>(cutOf Tryz.f81 0,⟨mk 31 [(2,iI day),(6,.str x0_6),(17,tShown.lst ((x.b.bodies.getD (body).toNat tBody.zero).shown)),(18,iI (((x.b.bodies.getD (body).toNat tBody.zero).shown.length):Int)),(19,iI x0_19)],[],[]⟩)
noncomputable def n81:R81→Exit × St
 |.r0 r0=>(.ret,⟨mk 31 [(6,.str r0)],[],[]⟩)
noncomputable def v81:R81→V
 |.r0 r0=>.str r0
theorem s81(x:Look)(body:Int)(day:Int):Sm 0 (g81 x body day) (T81 x body day) (n81)
 |.e=>⟨400,by kernel_rfl⟩
 |.l0 _ _=>⟨400,by kernel_rfl⟩
theorem q81:∀r,bodyQ Tryz.prog Tryz.f81 (·=v81 r) (n81 r).1 (n81 r).2
 |.r0 r0=>bq (.str r0) (by kernel_rfl)
theorem w81(x:Look)(body:Int)(day:Int){post:V→Prop}(h:WQ (T81 x body day) v81 post .e):PC 81 [lk x,iI body,iI day] post:=
 PCalls.wq Tryz.func81 (s81 x body day) q81 h
theorem c81(b:Book)(h:OkBook b)(body day:Int)(hb:0≤body∧body<b.bodies.length):PC 81 [lk (lookOf b),iI body,iI day] (·=.str (namedR (b.bodies.getD body.toNat zBody) day)):=by
 have hsh:(b.bodies.getD body.toNat zBody).shown.length≤3:=by
  have:=h.shown (i:=body.toNat) (by omega)
  unfold shownErr at this
  split at this
  ·cases this
  ·omega
 have hzb:tBody.zero=zBody:=rfl
 generalize hx:b.bodies.getD body.toNat zBody=x at*
 have hmain:WP Tryz.prog ⟨none,0⟩ (T81 (lookOf b) body day) (Ends' fun r=>v81 r=.str (namedR x day)) (.l0 (ByteArray.mk #[]) 0):=by
  refine WP.run (fun i=>.l0 (namedTo x day i) (i:Int)) rfl x.shown.length (fun i hi=> ?_) ?_
  ·have hr:inR .i64 ((i:Int)+1)=true:=inR64 (by omega) (by omega)
   have hi':(i:Int)<x.shown.length:=by omega
   have e:namedTo x day (i+1)=if(x.shown.getD i zShown).day≤day then(x.shown.getD i zShown).as_ else namedTo x day i:=rfl
   rw[e]
   by_cases hd:(x.shown.getD i zShown).day≤day
   ·rw[if_pos hd]
    refine WP.once ?_
    simp only[T81,Tr.sure,SS,lookOf_b,hzb,hx,hi',z3,hd]
    repeat' with_reducible first|intro _|apply And.intro
    all_goals simp[hr,Go,Ends',v81,-List.getD_eq_getElem?_getD, *]
   ·rw[if_neg hd]
    refine WP.once ?_
    simp only[T81,Tr.sure,SS,lookOf_b,hzb,hx,hi',z3,hd]
    repeat' with_reducible first|intro _|apply And.intro
    all_goals simp[hr,Go,Ends',v81,-List.getD_eq_getElem?_getD, *]
  ·have e:namedR x day=namedTo x day x.shown.length:=rfl
   rw[e]
   refine WP.step ?_
   simp only[T81,Go,Ends',v81,Tr.sure,SS,lookOf_b,hzb,hx,Int.lt_irrefl]
   repeat' with_reducible first|intro _|apply And.intro
 have hb1:=hb.1
 have hb2:=hb.2
 refine w81 (lookOf b) body day (WP.step ?_)
 simp only[T81,Go,Ends',v81,Tr.sure,SS,lookOf_b,hb1,hb2]
 repeat' with_reducible first|intro _|apply And.intro
 all_goals exact hmain
def cmpL:List Int→List Int→Int
 |[],[]=>0
 |[],_::_=> -1
 |_::_,[]=>1
 |x::l,y::m=>if compI x y≠0 then compI x y else cmpL l m
theorem compI_anti(x y:Int):compI y x= -compI x y:=by unfold compI;split<;>split<;>omega
theorem compI_zero{x y:Int}(h:compI x y=0):x=y:=by unfold compI at h;split at h<;>(try split at h)<;>omega
theorem cmpL_anti:∀l m:List Int,cmpL m l= -cmpL l m
 |[],[]=>rfl
 |[],_::_=>rfl
 |_::_,[]=>rfl
 |x::l,y::m=>by
  unfold cmpL
  rw[compI_anti x y]
  by_cases h:compI x y=0
  ·rw[if_neg (by omega),if_neg (by omega)];exact cmpL_anti l m
  ·rw[if_pos (by omega),if_pos h]
theorem cmpL_zero:∀ {l m:List Int},cmpL l m=0→l=m
 |[],[],_=>rfl
 |[],_::_,h=>by cases h
 |_::_,[],h=>by cases h
 |x::l,y::m,h=>by
  unfold cmpL at h
  by_cases h0:compI x y=0
  ·rw[if_neg (by omega)]at h
   rw[compI_zero h0,cmpL_zero h]
  ·rw[if_pos h0]at h;exact absurd h h0
inductive P89g
 |e
 |l0 (x0_11:Int)
inductive R89g
 |r0 (r0:Int)
noncomputable def T89g(s1:List Int)(s2:List Int):P89g→Tr P89g R89g
 |.e=>(.go (.l0 0))
 |.l0 x0_11=>let c1:=compI (s1.getD (x0_11).toNat tint.zero) (s2.getD (x0_11).toNat tint.zero);let c2:=(s2.length:Int);let c3:=(s1.length:Int);(.br (decide (x0_11<c3)) (.need (decide (0≤x0_11)&&decide (x0_11<c3)) (.br (decide (x0_11≥c2)) (.out (.r0 1)) (.need (decide (0≤x0_11)&&decide (x0_11<c2)) (.call 120 [iI (s1.getD (x0_11).toNat tint.zero),iI (s2.getD (x0_11).toNat tint.zero)] (iI c1) true true (.br (c1 !=(0:Int)) (.out (.r0 c1)) (.need (inR .i64 (x0_11+(1:Int))) (.go (.l0 (x0_11+(1:Int)))))))))) (.br (decide (c3<c2)) (.out (.r0 (-1))) (.out (.r0 0))))
noncomputable def g89g(s1:List Int)(s2:List Int):P89g→List Item × St
 |.e=>bd Tryz.f89 [tint.lst s1,tint.lst s2] 34
 |.l0 x0_11=>(cutOf Tryz.f89 0,⟨mk 36 [(0,tint.lst s1),(1,tint.lst s2),(9,tint.lst s1),(10,iI (s1.length:Int)),(11,iI x0_11)],[],[]⟩)
noncomputable def n89g:R89g→Exit × St
 |.r0 r0=>(.ret,⟨mk 36 [(4,iI r0)],[],[]⟩)
noncomputable def v89g:R89g→V
 |.r0 r0=>iI r0
theorem s89g(s1:List Int)(s2:List Int):Sm 0 (g89g s1 s2) (T89g s1 s2) (n89g)
 |.e=>⟨400,by kernel_rfl⟩
 |.l0 _=>⟨400,by kernel_rfl⟩
theorem q89g:∀r,bodyQ Tryz.prog Tryz.f89 (·=v89g r) (n89g r).1 (n89g r).2
 |.r0 r0=>bq (iI r0) (by kernel_rfl)
theorem w89g(s1:List Int)(s2:List Int){post:V→Prop}(h:WQ (T89g s1 s2) v89g post .e):PC 89 [tint.lst s1,tint.lst s2] post:=
 PCalls.wq Tryz.func89 (s89g s1 s2) q89g h
theorem c89g(s1 s2:List Int)(h1:s1.length≤1000)(h2:s2.length≤1000):PC 89 [tint.lst s1,tint.lst s2] (·=iI (cmpL s1 s2)):=by
 have k120:=fun x y=>c120 x y
 have hmain:WP Tryz.prog ⟨none,0⟩ (T89g s1 s2) (Ends' fun r=>v89g r=iI (cmpL s1 s2)) (.l0 0):=by
  refine WP.count (fun i=>.l0 (i:Int)) rfl s1.length (fun i=>cmpL s1 s2=cmpL (s1.drop i) (s2.drop i)∧i≤s2.length) ⟨rfl,Nat.zero_le _⟩ (fun i hi hI=> ?_) fun hI=> ?_
  ·have hr:inR .i64 ((i:Int)+1)=true:=inR64 (by omega) (by omega)
   have hi':(i:Int)<s1.length:=by omega
   have hci:((i+1:Nat):Int)=(i:Int)+1:=by omega
   rw[hci]
   obtain⟨hI1,hI2⟩:=hI
   rw[drop_cons 0 s1 i hi]at hI1
   by_cases hj:i<s2.length
   ·have hj':(i:Int)<s2.length:=by omega
    have hj2:¬(s2.length:Int)≤i:=by omega
    rw[drop_cons 0 s2 i hj]at hI1
    have hI1':cmpL s1 s2=if compI (s1.getD i 0) (s2.getD i 0)≠0 then compI (s1.getD i 0) (s2.getD i 0)else cmpL (s1.drop (i+1)) (s2.drop (i+1)):=hI1
    by_cases hc:compI (s1.getD i 0) (s2.getD i 0)=0
    ·rw[if_neg (fun q=>q hc)]at hI1'
     have hnx:cmpL s1 s2=cmpL (s1.drop (i+1)) (s2.drop (i+1))∧i+1≤s2.length:=⟨hI1',hj⟩
     have kk:=k120 (s1.getD i 0) (s2.getD i 0)
     rw[hc]at kk
     refine WP.step ?_
     simp only[T89g,Go,Ends',v89g,Tr.sure,SS,hi',hj',hj2,z1,hc,Int.toNat_natCast]
     repeat' with_reducible first|intro _|apply And.intro
     all_goals first|exact kk|(simp[hr,Go,Ends',v89g,-List.getD_eq_getElem?_getD, *];done)|skip
     all_goals exact WP.stop (.inl ⟨rfl,hnx⟩)
    ·rw[if_pos hc]at hI1'
     have kk:=k120 (s1.getD i 0) (s2.getD i 0)
     refine WP.step ?_
     simp only[T89g,Go,Ends',v89g,Tr.sure,SS,hi',hj',hj2,z1,hc,Int.toNat_natCast]
     repeat' with_reducible first|intro _|apply And.intro
     all_goals first|exact kk|(simp_all [hr,Go,Ends',v89g,-List.getD_eq_getElem?_getD];done)
     all_goals exact .inr (congrArg (V.int .i64) hI1'.symm)
   ·have hj2:(s2.length:Int)≤i:=by omega
    have e:s2.drop i=[]:=List.drop_eq_nil_of_le (by omega)
    rw[e]at hI1
    have hI1':cmpL s1 s2=1:=hI1
    refine WP.step ?_
    simp only[T89g,Go,Ends',v89g,Tr.sure,SS,hi',hj2,z1,Int.toNat_natCast]
    repeat' with_reducible first|intro _|apply And.intro
    all_goals simp_all [hr,Go,Ends',v89g,-List.getD_eq_getElem?_getD]
    all_goals exact .inr (congrArg (V.int .i64) hI1'.symm)
  ·obtain⟨hI1,hI2⟩:=hI
   rw[List.drop_length]at hI1
   by_cases hj:s1.length<s2.length
   ·have hj':(s1.length:Int)<s2.length:=by omega
    rw[drop_cons 0 s2 s1.length hj]at hI1
    have hI1':cmpL s1 s2= -1:=hI1
    refine WP.step ?_
    simp only[T89g,Go,Ends',v89g,Tr.sure,SS,hj',Int.toNat_natCast]
    repeat' with_reducible first|intro _|apply And.intro
    all_goals simp_all [Go,Ends',v89g,-List.getD_eq_getElem?_getD]
    all_goals exact congrArg (V.int .i64) hI1'.symm
   ·have hj':¬(s1.length:Int)<s2.length:=by omega
    have e:s2.drop s1.length=[]:=List.drop_eq_nil_of_le (by omega)
    rw[e]at hI1
    have hI1':cmpL s1 s2=0:=hI1
    refine WP.step ?_
    simp only[T89g,Go,Ends',v89g,Tr.sure,SS,hj',Int.toNat_natCast]
    repeat' with_reducible first|intro _|apply And.intro
    all_goals simp_all [Go,Ends',v89g,-List.getD_eq_getElem?_getD]
    all_goals exact congrArg (V.int .i64) hI1'.symm
 refine w89g s1 s2 (WP.step ?_)
 simp only[T89g,Go,Ends',v89g,Tr.sure,SS]
 repeat' with_reducible first|intro _|apply And.intro
 all_goals exact hmain
end
noncomputable section
def bitsN(n:Nat)(i:Int):List Int:=((List.range n).filter (bitB i)).map fun(j:Nat)=>(j:Int)
def numL(l:List Int):Nat:=l.foldl (fun s x=>s+2^x.toNat) 0
theorem picks_sorted:∀n:Fin 9,∀k:Fin 9,((picks (n.val:Int) k.val).Pairwise fun a b=>cmpL a b<0):=by decide+kernel
theorem picks_num:∀n:Fin 9,∀k:Fin 9,∀l∈picks (n.val:Int) k.val,bitsN n.val (numL l:Int)=l∧numL l<2^n.val:=by decide+kernel
theorem bits_picks{n:Nat}(i:Int):bitsN n i∈picks (n:Int) (bitsN n i).length:=by
 rw[picks_ok]
 refine⟨rfl,?_,fun x hx=> ?_,fun x hx=> ?_⟩
 ·unfold bitsN
  rw[List.pairwise_map]
  exact((List.pairwise_lt_range).filter _).imp fun h=>by omega
 ·unfold bitsN at hx
  obtain⟨j,hj,rfl⟩:=List.mem_map.1 hx;omega
 ·unfold bitsN at hx
  obtain⟨j,hj,rfl⟩:=List.mem_map.1 hx
  have:=List.mem_range.1 (List.mem_filter.1 hj).1
  omega
theorem bitsN_len(n:Nat)(i:Int):(bitsN n i).length≤n:=by
 unfold bitsN;rw[List.length_map];exact Nat.le_trans (List.length_filter_le _ _) (by simp)
structure First36(b:Book)(n:Nat)(W:List Int):Prop where
 mem:W∈picks (n:Int) W.length
 len:W.length≤n
 can:canR b W=true
 least:∀l,l∈picks (n:Int) l.length→l.length≤n→canR b l=true→W.length<l.length∨(W.length=l.length∧cmpL W l≤0)
theorem first_from{b:Book}{n:Nat}(hn:n≤8)(full:∀l∈picks (n:Int) n,canR b l=true):∀(k many:Nat),many+k=n→(∀l,l∈picks (n:Int) l.length→l.length<many→canR b l=false)→First36 b n (wrongFrom b n k many)
 |0,many,hk,hno=>by
  obtain rfl:many=n:=by omega
  have hpos:=picks_pos many
  have e:wrongFrom b many 0 many=(picks (many:Int) many).getD 0 []:=rfl
  have hm:(picks (many:Int) many).getD 0 []∈picks (many:Int) many:=getD_mem [] _ 0 hpos
  rw[e]
  generalize(picks (many:Int) many).getD 0 []=W at*
  have hl:W.length=many:=((picks_ok _ _ _).1 hm).len
  refine⟨by rw[hl];exact hm,by omega,full W hm,fun l h1 h2 h3=> ?_⟩
  right
  have hlt:¬l.length<many:=fun q=>by rw[hno l h1 q]at h3;cases h3
  have hle:l.length=many:=by omega
  refine⟨by omega,?_⟩
  rw[hle]at h1
  have:∀m:Fin 9,∀a∈picks (m.val:Int) m.val,∀c∈picks (m.val:Int) m.val,cmpL a c≤0:=by decide+kernel
  exact this ⟨many,by omega⟩ W hm l h1
 |k+1,many,hk,hno=>by
  unfold wrongFrom
  cases hf:(picks (n:Int) many).find? (canR b)with
  |none=>
   simp only
   refine first_from hn full k (many+1) (by omega) fun l h1 h2=> ?_
   by_cases hlt:l.length<many
   ·exact hno l h1 hlt
   ·have hle:l.length=many:=by omega
    rw[hle]at h1
    have:=List.find?_eq_none.1 hf l h1
    cases hc:canR b l with
    |false=>rfl
    |true=>exact absurd hc this
  |some W=>
   simp only
   obtain⟨hc,l1_,l2_,hs,hno2⟩:=List.find?_eq_some_iff_append.1 hf
   have hm:W∈picks (n:Int) many:=by rw[hs];simp
   have hl:W.length=many:=((picks_ok _ _ _).1 hm).len
   refine⟨by rw[hl];exact hm,by omega,hc,fun l h1 h2 h3=> ?_⟩
   by_cases hlt:l.length<many
   ·rw[hno l h1 hlt]at h3;cases h3
   by_cases hgt:many<l.length
   ·left;omega
   ·right
    have hle:l.length=many:=by omega
    refine⟨by omega,?_⟩
    rw[hle,hs]at h1
    rcases List.mem_append.1 h1 with q|q
    ·have:=hno2 l q
     rw[h3]at this;cases this
    rcases List.mem_cons.1 q with q|q
    ·rw[q]
     have:∀a:List Int,cmpL a a=0:=fun a=>by have:=cmpL_anti a a;omega
     rw[this];exact Int.le_refl _
    ·have hp:=picks_sorted ⟨n,by omega⟩ ⟨many,by omega⟩
     simp only at hp
     rw[hs]at hp
     have:=(List.pairwise_append.1 hp).2.1
     exact Int.le_of_lt ((List.pairwise_cons.1 this).1 l q)
def worseR(l W:List Int):Bool:=decide ((W.length:Int)<l.length)||((l.length:Int)==W.length&&decide (0<cmpL l W))
def bestQS(b:Book)(s:List Int × Bool)(i:Nat):List Int × Bool:=
 if s.2=true∧worseR (bitsN b.lines.length i) s.1=true then s else if canR b (bitsN b.lines.length i)=true then(bitsN b.lines.length i,true)else s
def bestQ(b:Book)(i:Nat):List Int × Bool:=(List.range i).foldl (bestQS b) ([],false)
theorem bestQ_succ(b:Book)(i:Nat):bestQ b (i+1)=bestQS b (bestQ b i) i:=by unfold bestQ;rw[List.range_succ,List.foldl_append];rfl
theorem best_can(b:Book):∀i,(bestQ b i).2=true→(∃j,j<i∧(bestQ b i).1=bitsN b.lines.length j)∧canR b (bestQ b i).1=true
 |0,h=>by cases h
 |i+1,h=>by
  rw[bestQ_succ]at h⊢
  unfold bestQS at h⊢
  split
  ·rename_i hc
   rw[if_pos hc]at h
   obtain⟨⟨j,h1,h2⟩,h3⟩:=best_can b i h
   exact⟨⟨j,by omega,h2⟩,h3⟩
  ·rename_i hc
   rw[if_neg hc]at h
   split
   ·rename_i hcan;exact⟨⟨i,by omega,rfl⟩,hcan⟩
   ·rename_i hcan
    rw[if_neg hcan]at h
    obtain⟨⟨j,h1,h2⟩,h3⟩:=best_can b i h
    exact⟨⟨j,by omega,h2⟩,h3⟩
theorem worse_iff{l W:List Int}:worseR l W=true↔W.length<l.length∨(l.length=W.length∧0<cmpL l W):=by
 unfold worseR
 rw[Bool.or_eq_true,Bool.and_eq_true,decide_eq_true_eq,decide_eq_true_eq,beq_iff_eq]
 omega
theorem best_end{b:Book}(hn:b.lines.length≤8){W:List Int}(hW:First36 b b.lines.length W):(bestQ b (2^b.lines.length)).1=W:=by
 obtain⟨hb1,hb2⟩:=picks_num ⟨b.lines.length,by omega⟩ ⟨W.length,by have:=hW.len;omega⟩ W hW.mem
 simp only at hb1 hb2
 have least:=fun j:Nat=>hW.least (bitsN b.lines.length j) (bits_picks j) (bitsN_len _ _)
 have hat:bestQ b (numL W+1)=(W,true):=by
  rw[bestQ_succ]
  unfold bestQS
  rw[hb1]
  by_cases hc:(bestQ b (numL W)).2=true∧worseR W (bestQ b (numL W)).1=true
  ·exfalso
   obtain⟨⟨j,h1,h2⟩,h3⟩:=best_can b _ hc.1
   have hw:=worse_iff.1 hc.2
   rw[h2]at hw h3
   rcases least j h3 with q|⟨q1,q2⟩
   ·rcases hw with w|w<;>omega
   ·rcases hw with w|w<;>omega
  ·rw[if_neg hc,if_pos hW.can]
 have hon:∀m,bestQ b (numL W+1+m)=(W,true):=fun m=>by
  induction m with
  |zero=>exact hat
  |succ m ih=>
   rw[show numL W+1+(m+1)=(numL W+1+m)+1 by omega,bestQ_succ,ih]
   unfold bestQS
   by_cases hc:(true=true)∧worseR (bitsN b.lines.length (numL W+1+m:Nat)) W=true
   ·rw[if_pos hc]
   ·rw[if_neg hc]
    by_cases hcan:canR b (bitsN b.lines.length (numL W+1+m:Nat))=true
    ·rw[if_pos hcan]
     have hw:¬(W.length<(bitsN b.lines.length (numL W+1+m:Nat)).length∨((bitsN b.lines.length (numL W+1+m:Nat)).length=W.length∧0<cmpL (bitsN b.lines.length (numL W+1+m:Nat)) W)):=fun q=>hc ⟨rfl,worse_iff.2 q⟩
     have ha:=cmpL_anti W (bitsN b.lines.length (numL W+1+m:Nat))
     have:cmpL W (bitsN b.lines.length (numL W+1+m:Nat))=0:=by
      rcases least (numL W+1+m) hcan with q|⟨q1,q2⟩<;>omega
     rw[←cmpL_zero this]
    ·rw[if_neg hcan]
 have:=hon (2^b.lines.length-(numL W+1))
 rw[show numL W+1+(2^b.lines.length-(numL W+1))=2^b.lines.length by omega]at this
 rw[this]
theorem full_can{b:Book}(h:OkBook b){l:List Int}(hl:∀i,i<b.lines.length→hasN l (i:Int)=true):canR b l=true:=by
 have:∀i,i≤b.lines.length→0<(truthsTo b l i).length:=by
  intro i
  induction i with
  |zero=>intro _;simp[truthsTo]
  |succ i ih=>
   intro hi
   obtain⟨t,ht⟩:=List.exists_mem_of_length_pos (ih (by omega))
   have hpos:=pairs_pos (h.line (i:=i) (by omega))
   have hmem:(⟨t.pairs++ [(pairsR (b.lines.getD i zLine)).getD 0 zPair],t.haves++ [t.haves.getD i []]⟩:Truth)∈truthsTo b l (i+1):=by
    rw[truthsTo,List.mem_flatMap]
    refine⟨t,ht,?_⟩
    unfold stepT
    rw[List.mem_flatMap]
    refine⟨0,List.mem_range.2 hpos,?_⟩
    unfold waysR
    rw[if_pos (hl i (by omega)),if_pos rfl];exact List.mem_singleton.2 rfl
   exact List.length_pos_of_mem hmem
 unfold canR
 exact decide_eq_true (this _ (Nat.le_refl _))
theorem picks_full:∀n:Fin 9,∀l∈picks (n.val:Int) n.val,∀i:Fin n.val,hasN l (i.val:Int)=true:=by decide+kernel
theorem wrong_best{b:Book}(h:OkBook b):(bestQ b (2^b.lines.length)).1=wrongFrom b b.lines.length b.lines.length 0:=
 best_end h.nl (first_from h.nl (fun l hl=>full_can h fun i hi=>picks_full ⟨b.lines.length,by have:=h.nl;omega⟩ l hl ⟨i,hi⟩) b.lines.length 0 (by omega) fun l _ q=>by omega)
inductive P36y
 |e
 |l0 (x0_2:List Int) (x0_5:Bool) (x0_21:Int)
 |l1 (x0_2:List Int) (x0_5:Bool) (x0_21:Int) (x1_27:Int) (a1_1:List Int)
inductive R36y
 |r0 (r1:Int)
 |r1 (r0:List Int) (r1:Int)
noncomputable def T36y(b:Book):P36y→Tr P36y R36y
 |.e=>(.call 88 [.agg (cC b)] (.tuple [lk (lookOf b),iI 0]) true true (.br ((0:Int) !=(0:Int)) (.out (.r0 0)) (.need (decide (0≤(b.lines.length:Int))&&inR .i64 ((1:Int)*2^(min ((b.lines.length:Int)).toNat 64))) (.wait 1 (.vle 2 .nils (tint.lst ([]:List Int)) (.go (.l0 ([]:List Int) false 0)))))))
 |.l0 x0_2 x0_5 x0_21=>(.br (decide (x0_21<((1:Int)*2^(min ((b.lines.length:Int)).toNat 64)))) (.wait 7 (.own 7 3 1 (.go (.l1 x0_2 x0_5 x0_21 0 ([]))))) (.out (.r1 x0_2 0)))
 |.l1 x0_2 x0_5 x0_21 x1_27 a1_1=>let c2:Tr P36y R36y:=.need (inR .i64 (x0_21+(1:Int))) (.go (.l0 x0_2 x0_5 (x0_21+(1:Int))));let c1:Tr P36y R36y:=.call 90 [lk (lookOf b),iI x0_21] (.bool (decide (0<(truthsR b (butL b x0_21)).length))) true true (.br (decide (0<(truthsR b (butL b x0_21)).length)) (.need (inR .i64 (x0_21+(1:Int))) (.go (.l0 a1_1.reverse true (x0_21+(1:Int))))) c2);let c3:=x1_27+(1:Int);let c4:=(a1_1.reverse.length:Int);(.br (decide (x1_27<(b.lines.length:Int))) (.need (decide (0≤x1_27)) (.br ((bitsOf .and .i64 (x0_21.fdiv (2^(min (x1_27).toNat 64))) (1:Int))==(1:Int)) (.need ((decide (a1_1.length=a1_1.length)&&decide (a1_1.length+1≤4294967296))&&decide (1≤1)) (.scal (fun _=>true) (.need (inR .i64 c3) (.go (.l1 x0_2 x0_5 x0_21 c3 (x1_27::a1_1)))))) (.need (inR .i64 c3) (.go (.l1 x0_2 x0_5 x0_21 c3 a1_1))))) (.wait 3 (.frz 1 ((decide (a1_1.length≤a1_1.length))&&true) (.vle 7 (.list 1 a1_1.length (rowsRev tint a1_1)) (tint.lst a1_1.reverse) (.br x0_5 (.br (decide (c4>(x0_2.length:Int))) (.lit true (.lit true (.lit true c2))) (.br (c4==(x0_2.length:Int)) (.call 89 [tint.lst a1_1.reverse,tint.lst x0_2] (iI (cmpL a1_1.reverse x0_2)) true true (.lit false (.lit true (.br (decide ((cmpL a1_1.reverse x0_2)>(0:Int))) c2 c1)))) (.lit false (.lit true (.lit false c1))))) (.lit false (.lit false c1)))))))
noncomputable def g36y(b:Book):P36y→List Item × St
 |.e=>bd Tryz.f36 [.agg (cC b)] 66
 |.l0 x0_2 x0_5 x0_21=>(cutOf Tryz.f36 0,⟨mk 67 [(1,.ref 0 0 0),(2,tint.lst x0_2),(4,lk (lookOf b)),(5,.bool x0_5),(20,iI ((1:Int)*2^(min ((b.lines.length:Int)).toNat 64))),(21,iI x0_21)],[.cells (cC b)],[]⟩)
 |.l1 x0_2 x0_5 x0_21 x1_27 a1_1=>(cutOf Tryz.f36 1,⟨mk 67 [(1,.ref 0 0 0),(2,tint.lst x0_2),(4,lk (lookOf b)),(5,.bool x0_5),(6,iI x0_21),(7,.row 1 a1_1.length),(20,iI ((1:Int)*2^(min ((b.lines.length:Int)).toNat 64))),(21,iI x0_21),(26,iI (b.lines.length:Int)),(27,iI x1_27)],[.cells (cC b),.rows 3 1 a1_1.length (rowsRev tint a1_1)],[]⟩)
noncomputable def n36y(b:Book):R36y→Exit × St
 |.r0 r1=>(.ret,⟨mk 67 [(2,.nils),(3,iI r1)],[],[]⟩)
 |.r1 r0 r1=>(.ret,⟨mk 67 [(2,tint.lst r0),(3,iI r1)],[],[]⟩)
noncomputable def v36y(b:Book):R36y→V
 |.r0 r1=>.tuple [tint.lst ([]:List Int),iI r1]
 |.r1 r0 r1=>.tuple [tint.lst r0,iI r1]
theorem s36y(b:Book):Sm 0 (g36y b) (T36y b) (n36y b)
 |.e=>⟨400,by kernel_rfl⟩
 |.l0 _ _ _=>⟨400,by kernel_rfl⟩
 |.l1 _ _ _ _ _=>⟨400,by kernel_rfl⟩
theorem q36y(b:Book):∀r,bodyQ Tryz.prog Tryz.f36 (·=v36y b r) (n36y b r).1 (n36y b r).2
 |.r0 r1=>⟨.inr rfl,by simp[n36y],(.tuple [.nils,iI r1]),(.tuple [tint.lst ([]:List Int),iI r1]),by kernel_rfl,(.tuple rfl fun j hj=>match j,hj with|0,_=>.weak (.imm rfl) VLe.nils|1,_=>.imm rfl),rfl⟩
 |.r1 r0 r1=>bq (.tuple [tint.lst r0,iI r1]) (by kernel_rfl)
theorem w36y(b:Book){post:V→Prop}(h:WP Tryz.prog ⟨none,0⟩ (T36y b) (Ends' fun r=>post (v36y b r)) .e):PC 36 [.agg (cC b)] post:=
 PCalls.wq Tryz.func36 (s36y b) (q36y b) h
inductive P36n
 |e
inductive R36n
 |r0 (r1:Int)
noncomputable def T36n(b:Book):P36n→Tr P36n R36n
 |.e=>(.call 88 [.agg (cC b)] (.tuple [.nil,iI ((bookCheck b).2.2)]) true true (.br ((bookCheck b).2.2 !=(0:Int)) (.out (.r0 ((bookCheck b).2.2))) (.wait 5 .never)))
noncomputable def g36n(b:Book):P36n→List Item × St
 |.e=>bd Tryz.f36 [.agg (cC b)] 66
noncomputable def n36n(b:Book):R36n→Exit × St
 |.r0 r1=>(.ret,⟨mk 67 [(2,.nils),(3,iI r1)],[],[]⟩)
noncomputable def v36n(b:Book):R36n→V
 |.r0 r1=>.tuple [tint.lst ([]:List Int),iI r1]
theorem s36n(b:Book):Sm 0 (g36n b) (T36n b) (n36n b)
 |.e=>⟨400,by kernel_rfl⟩
theorem q36n(b:Book):∀r,bodyQ Tryz.prog Tryz.f36 (·=v36n b r) (n36n b r).1 (n36n b r).2
 |.r0 r1=>⟨.inr rfl,by simp[n36n],(.tuple [.nils,iI r1]),(.tuple [tint.lst ([]:List Int),iI r1]),by kernel_rfl,(.tuple rfl fun j hj=>match j,hj with|0,_=>.weak (.imm rfl) VLe.nils|1,_=>.imm rfl),rfl⟩
theorem w36n(b:Book){post:V→Prop}(h:WP Tryz.prog ⟨none,0⟩ (T36n b) (Ends' fun r=>post (v36n b r)) .e):PC 36 [.agg (cC b)] post:=
 PCalls.wq Tryz.func36 (s36n b) (q36n b) h
def bitsK(i:Int)(k:Nat):List Int:=((List.range k).filter (bitB i)).map fun(j:Nat)=>(j:Int)
theorem bitsK_y{i:Int}{k:Nat}(h:bitB i k=true):(bitsK i (k+1)).reverse=(k:Int)::(bitsK i k).reverse:=by
 unfold bitsK;rw[List.range_succ,List.filter_append];simp[h]
theorem bitsK_n{i:Int}{k:Nat}(h:bitB i k=false):bitsK i (k+1)=bitsK i k:=by
 unfold bitsK;rw[List.range_succ,List.filter_append];simp[h]
theorem bitsK_len(i:Int)(k:Nat):(bitsK i k).length≤k:=by
 unfold bitsK;rw[List.length_map];exact Nat.le_trans (List.length_filter_le _ _) (by simp)
theorem best_len{b:Book}:∀i,(bestQ b i).1.length≤b.lines.length
 |0=>by simp[bestQ]
 |i+1=>by
  rw[bestQ_succ]
  unfold bestQS
  split
  ·exact best_len i
  ·split
   ·exact bitsN_len _ _
   ·exact best_len i
set_option maxHeartbeats 4000000 in
theorem c36(b:Book):PC 36 [.agg (tBook.cells b)] (·=.tuple [tint.lst (wrongR b).1,iI (wrongR b).2]):=by
 by_cases h0:(bookCheck b).2.2=0
 ·have hok:=okBook h0
  have hnl:=hok.nl
  have k88:=c88y b h0
  have k90:=fun but=>c90 b hok but
  have hP:wrongR b=((bestQ b (2^b.lines.length)).1,0):=by unfold wrongR;rw[if_neg (fun q=>q h0),wrong_best hok]
  have hpw:(1:Int)*2^(min b.lines.length 64)=((2^b.lines.length:Nat):Int):=by
   rw[Nat.min_eq_left (by omega),Int.one_mul];exact_mod_cast rfl
  have hle:2^b.lines.length≤256:=by
   have:=Nat.pow_le_pow_right (n:=2) (by decide) hnl
   exact this
  have hr0:inR .i64 ((2^b.lines.length:Nat):Int)=true:=by
   generalize 2^b.lines.length=N2 at*
   exact inR64 (by omega) (by omega)
  have hmain:WP Tryz.prog ⟨none,0⟩ (T36y b) (Ends' fun r=>v36y b r=.tuple [tint.lst (bestQ b (2^b.lines.length)).1,iI 0]) (.l0 [] false 0):=by
   refine WP.run (fun i=>.l0 (bestQ b i).1 (bestQ b i).2 (i:Int)) rfl (2^b.lines.length) (fun i hi=> ?_) ?_
   ·have hr:inR .i64 ((i:Int)+1)=true:=inR64 (by omega) (by omega)
    have hi':(i:Int)<((2^b.lines.length:Nat):Int):=by exact_mod_cast hi
    have hci:((i+1:Nat):Int)=(i:Int)+1:=by omega
    rw[bestQ_succ]
    have hbl:=best_len (b:=b) i
    have hcan:decide (0<(truthsR b (butL b (i:Int))).length)=canR b (bitsN b.lines.length i):=rfl
    have k90i:=k90 (i:Int)
    rw[hcan]at k90i
    have hln:=bitsN_len b.lines.length (i:Int)
    have k89:=c89g (bitsN b.lines.length i) (bestQ b i).1 (by omega) (by omega)
    unfold bestQS
    have hwr:worseR (bitsN b.lines.length i) (bestQ b i).1=(decide (((bestQ b i).1.length:Int)<(bitsN b.lines.length i).length)||(((bitsN b.lines.length i).length:Int)==(bestQ b i).1.length&&decide (0<cmpL (bitsN b.lines.length i) (bestQ b i).1))):=rfl
    generalize hs:bestQ b i=s at*
    obtain⟨W,fo⟩:=s
    simp only at*
    refine WP.step ?_
    simp only[T36y,Go,Ends',v36y,Tr.sure,SS,hpw,hi',Int.toNat_natCast]
    repeat' with_reducible first|intro _|apply And.intro
    refine WP.run (fun k=>.l1 W fo (i:Int) (k:Int) (bitsK (i:Int) k).reverse) rfl b.lines.length (fun k hk=> ?_) ?_
    ·have hr2:inR .i64 ((k:Int)+1)=true:=inR64 (by omega) (by omega)
     have hk':(k:Int)<b.lines.length:=by omega
     have htl:=bitsK_len (i:Int) k
     have hal:(bitsK (i:Int) k).reverse.length+1≤4294967296:=by rw[List.length_reverse];omega
     have hbe:((bitsOf .and .i64 ((i:Int).fdiv (2^(min k 64))) (1:Int))==(1:Int))=bitB (i:Int) k:=rfl
     cases hb:bitB (i:Int) k with
     |true=>
      rw[bitsK_y hb]
      generalize(bitsK (i:Int) k).reverse=A at*
      rw[hb]at hbe
      refine WP.once ?_
      simp only[T36y,Tr.sure,SS,hk',hbe,Int.toNat_natCast]
      repeat' with_reducible first|intro _|apply And.intro
      all_goals simp[hr2,hal,Go,Ends',v36y,-List.getD_eq_getElem?_getD, *]
     |false=>
      rw[bitsK_n hb]
      generalize(bitsK (i:Int) k).reverse=A at*
      rw[hb]at hbe
      refine WP.once ?_
      simp only[T36y,Tr.sure,SS,hk',hbe,Int.toNat_natCast]
      repeat' with_reducible first|intro _|apply And.intro
      all_goals simp[hr2,Go,Ends',v36y,-List.getD_eq_getElem?_getD, *]
    ·have e:(bitsK (i:Int) b.lines.length).reverse.reverse=bitsN b.lines.length i:=by rw[List.reverse_reverse];rfl
     generalize(bitsK (i:Int) b.lines.length).reverse=A at*
     generalize hL:bitsN b.lines.length (i:Int)=L at*
     have hvr:VLe (.list 1 A.length (rowsRev tint A)) (tint.lst L):=by rw[←e];exact VLe.rev tint A
     have hcan':decide (0<(truthsR b (butL b (i:Int))).length)=canR b L:=hcan
     cases fo with
     |false=>
      rw[if_neg (fun q=>Bool.false_ne_true q.1)]
      cases hc:canR b L with
      |true=>
       rw[if_pos rfl]
       rw[hc]at k90i hcan'
       refine WP.once ?_
       simp only[T36y,Tr.sure,SS,e,hcan',Int.lt_irrefl,hci]
       repeat' with_reducible first|intro _|apply And.intro
       all_goals first|exact hvr|exact k90i|(simp[hr,e,Go,Ends',v36y,-List.getD_eq_getElem?_getD, *];done)
      |false=>
       rw[if_neg Bool.false_ne_true]
       rw[hc]at k90i hcan'
       refine WP.once ?_
       simp only[T36y,Tr.sure,SS,e,hcan',Int.lt_irrefl,hci]
       repeat' with_reducible first|intro _|apply And.intro
       all_goals first|exact hvr|exact k90i|(simp[hr,e,Go,Ends',v36y,-List.getD_eq_getElem?_getD, *];done)
     |true=>
      by_cases g1:(W.length:Int)<L.length
      ·have hw:worseR L W=true:=by rw[hwr,decide_eq_true g1];rfl
       rw[if_pos ⟨rfl,hw⟩]
       refine WP.once ?_
       simp only[T36y,Tr.sure,SS,e,g1,Int.lt_irrefl,hci]
       repeat' with_reducible first|intro _|apply And.intro
       all_goals first|exact hvr|(simp[hr,e,g1,Go,Ends',v36y,-List.getD_eq_getElem?_getD, *];done)
      ·by_cases g2:(L.length:Int)=W.length
       ·have g2':((L.length:Int)==W.length)=true:=by rw[beq_iff_eq];exact g2
        by_cases g3:0<cmpL L W
        ·have hw:worseR L W=true:=by rw[hwr,decide_eq_true g3,g2'];simp
         rw[if_pos ⟨rfl,hw⟩]
         refine WP.once ?_
         simp only[T36y,Tr.sure,SS,e,g1,g2',g3,Int.lt_irrefl,hci]
         repeat' with_reducible first|intro _|apply And.intro
         all_goals first|exact hvr|exact k89|(simp[hr,e,g3,Go,Ends',v36y,-List.getD_eq_getElem?_getD, *];done)
        ·have hw:¬worseR L W=true:=by rw[hwr,decide_eq_false g3,decide_eq_false g1];simp
         rw[if_neg (fun q=>hw q.2)]
         cases hc:canR b L with
         |true=>
          rw[if_pos rfl]
          rw[hc]at k90i hcan'
          refine WP.once ?_
          simp only[T36y,Tr.sure,SS,e,hcan',g1,g2',g3,Int.lt_irrefl,hci]
          repeat' with_reducible first|intro _|apply And.intro
          all_goals first|exact hvr|exact k89|exact k90i|(simp[hr,e,Go,Ends',v36y,-List.getD_eq_getElem?_getD, *];done)
         |false=>
          rw[if_neg Bool.false_ne_true]
          rw[hc]at k90i hcan'
          refine WP.once ?_
          simp only[T36y,Tr.sure,SS,e,hcan',g1,g2',g3,Int.lt_irrefl,hci]
          repeat' with_reducible first|intro _|apply And.intro
          all_goals first|exact hvr|exact k89|exact k90i|(simp[hr,e,Go,Ends',v36y,-List.getD_eq_getElem?_getD, *];done)
       ·have g2':((L.length:Int)==W.length)=false:=by rw[beq_eq_false_iff_ne];exact g2
        have hw:¬worseR L W=true:=by rw[hwr,g2',decide_eq_false g1];simp
        rw[if_neg (fun q=>hw q.2)]
        cases hc:canR b L with
        |true=>
         rw[if_pos rfl]
         rw[hc]at k90i hcan'
         refine WP.once ?_
         simp only[T36y,Tr.sure,SS,e,hcan',g1,g2',Int.lt_irrefl,hci]
         repeat' with_reducible first|intro _|apply And.intro
         all_goals first|exact hvr|exact k90i|(simp[hr,e,Go,Ends',v36y,-List.getD_eq_getElem?_getD, *];done)
        |false=>
         rw[if_neg Bool.false_ne_true]
         rw[hc]at k90i hcan'
         refine WP.once ?_
         simp only[T36y,Tr.sure,SS,e,hcan',g1,g2',Int.lt_irrefl,hci]
         repeat' with_reducible first|intro _|apply And.intro
         all_goals first|exact hvr|exact k90i|(simp[hr,e,Go,Ends',v36y,-List.getD_eq_getElem?_getD, *];done)
   ·refine WP.step ?_
    simp only[T36y,Go,Ends',v36y,Tr.sure,SS,hpw,Int.lt_irrefl,Int.toNat_natCast]
    repeat' with_reducible first|intro _|apply And.intro
  rw[hP]
  refine w36y b (WP.step ?_)
  simp only[T36y,Go,Ends',v36y,Tr.sure,SS,hpw,Int.toNat_natCast]
  repeat' with_reducible first|intro _|apply And.intro
  all_goals first|exact k88|exact hmain|exact VLe.nils|(simp_all [hr0,Go,Ends',v36y,-List.getD_eq_getElem?_getD];done)
 ·have hP:wrongR b=([],(bookCheck b).2.2):=by unfold wrongR;rw[if_pos h0]
  have k88:=c88n b h0
  rw[hP]
  refine w36n b (WP.step ?_)
  simp only[T36n,Go,Ends',v36n,Tr.sure,SS,h0]
  repeat' with_reducible first|intro _|apply And.intro
  all_goals exact k88
end
noncomputable section
structure Stretch where
 line:Int
 body:Int
 as_:ByteArray
 span:Span
def zStretch:Stretch:=⟨0,0,ByteArray.empty,zSpan⟩
def tStretch:Ty Stretch:=⟨5,fun x=>[iI x.line,iI x.body,.str x.as_,iI x.span.lo,iI x.span.hi],zStretch⟩
def goesOn(s:Stretch)(dy:Int)(y:Stretch):Bool:=(y.line==s.line)&&((y.body==s.body)&&((y.as_.toList==s.as_.toList)&&(((y.span.lo==y.span.lo)&&((y.span.hi==(dy-(1:Int)))&&true))&&true)))
def idxS(s:Stretch)(dy:Int)(l:List Stretch):Int:=match firstI (goesOn s dy) 0 l with|some i=>(i:Int)|none=> -1
def setL(l:List Stretch)(i d:Int):List Stretch:=l.set i.toNat {l.getD i.toNat zStretch with span:=⟨(l.getD i.toNat zStretch).span.lo,d⟩}
def setS(A:List Stretch)(i d:Int):List Stretch:=(setL A.reverse i d).reverse
theorem setS_len(A:List Stretch)(i d:Int):(setS A i d).length=A.length:=by simp[setS,setL]
inductive P116
 |e
inductive R116
 |r0 (r0:Bool)
noncomputable def T116(s0:Stretch)(dy:Int)(y:Stretch):P116→Tr P116 R116
 |.e=>(.need (inR .i64 (dy-(1:Int))) (.out (.r0 ((y.line==s0.line)&&((y.body==s0.body)&&((y.as_.toList==s0.as_.toList)&&(((y.span.lo==y.span.lo)&&((y.span.hi==(dy-(1:Int)))&&true))&&true)))))))
noncomputable def g116(s0:Stretch)(dy:Int)(y:Stretch):P116→List Item × St
 |.e=>bd Tryz.f116 [.agg [iI y.line,iI y.body,.str y.as_,iI y.span.lo,iI y.span.hi],.cref 5 fun q=>([iI s0.line,iI s0.body,.str s0.as_,iI s0.span.lo,iI s0.span.hi]:List V).getD q uU,rR (iI dy)] 17
noncomputable def n116:R116→Exit × St
 |.r0 r0=>(.ret,⟨mk 20 [(4,.bool r0)],[],[]⟩)
noncomputable def v116:R116→V
 |.r0 r0=>.bool r0
theorem s116(s0:Stretch)(dy:Int)(y:Stretch):Sm 0 (g116 s0 dy y) (T116 s0 dy y) (n116)
 |.e=>⟨400,by kernel_rfl⟩
theorem q116:∀r,bodyQ Tryz.prog Tryz.f116 (·=v116 r) (n116 r).1 (n116 r).2
 |.r0 r0=>bq (.bool r0) (by kernel_rfl)
theorem w116(s0:Stretch)(dy:Int)(y:Stretch){post:V→Prop}(h:WQ (T116 s0 dy y) v116 post .e):PC 116 [.agg [iI y.line,iI y.body,.str y.as_,iI y.span.lo,iI y.span.hi],.cref 5 fun q=>([iI s0.line,iI s0.body,.str s0.as_,iI s0.span.lo,iI s0.span.hi]:List V).getD q uU,rR (iI dy)] post:=
 PCalls.wq Tryz.func116 (s116 s0 dy y) q116 h
theorem c116(s0:Stretch)(dy:Int)(y:Stretch)(hr:inR .i64 (dy-1)=true):PC 116 [.agg (tStretch.cells y),.cref 5 fun q=>(tStretch.cells s0).getD q uU,rR (iI dy)] (·=.bool (goesOn s0 dy y)):=by
 refine w116 s0 dy y (WP.step ?_)
 simp only[T116,Go,Ends',v116,Tr.sure,SS]
 repeat' with_reducible first|intro _|apply And.intro
 all_goals simp[hr,goesOn,Go,Ends',v116,-List.getD_eq_getElem?_getD, *]
 all_goals exact rfl
inductive P115
 |e
 |l0 (x0_8:Int)
inductive R115
 |r0 (r0:Int)
noncomputable def T115(s0:Stretch)(dy:Int)(l:List Stretch):P115→Tr P115 R115
 |.e=>(.go (.l0 0))
 |.l0 x0_8=>let c1:=l.getD (x0_8).toNat tStretch.zero;(.br (decide (x0_8<(l.length:Int))) (.need (decide (0≤x0_8)&&decide (x0_8<(l.length:Int))) (.call 116 [.agg [iI (c1.line),iI (c1.body),.str (c1.as_),iI (c1.span.lo),iI (c1.span.hi)],.cref 5 fun q=>([iI s0.line,iI s0.body,.str s0.as_,iI s0.span.lo,iI s0.span.hi]:List V).getD q uU,rR (iI dy)] (.bool (goesOn s0 dy c1)) true true (.br (goesOn s0 dy c1) (.out (.r0 x0_8)) (.need (inR .i64 (x0_8+(1:Int))) (.go (.l0 (x0_8+(1:Int)))))))) (.out (.r0 (-1))))
noncomputable def g115(s0:Stretch)(dy:Int)(l:List Stretch):P115→List Item × St
 |.e=>bd Tryz.f115 [tStretch.lst l,fG 116 [.cref 5 fun q=>([iI s0.line,iI s0.body,.str s0.as_,iI s0.span.lo,iI s0.span.hi]:List V).getD q uU,rR (iI dy)]] 17
 |.l0 x0_8=>(cutOf Tryz.f115 0,⟨mk 19 [(0,tStretch.lst l),(1,fG 116 [.cref 5 fun q=>([iI s0.line,iI s0.body,.str s0.as_,iI s0.span.lo,iI s0.span.hi]:List V).getD q uU,rR (iI dy)]),(7,iI (l.length:Int)),(8,iI x0_8)],[],[]⟩)
noncomputable def n115:R115→Exit × St
 |.r0 r0=>(.ret,⟨mk 19 [(4,iI r0)],[],[]⟩)
noncomputable def v115:R115→V
 |.r0 r0=>iI r0
theorem s115(s0:Stretch)(dy:Int)(l:List Stretch):Sm 0 (g115 s0 dy l) (T115 s0 dy l) (n115)
 |.e=>⟨400,by kernel_rfl⟩
 |.l0 _=>⟨400,by kernel_rfl⟩
theorem q115:∀r,bodyQ Tryz.prog Tryz.f115 (·=v115 r) (n115 r).1 (n115 r).2
 |.r0 r0=>bq (iI r0) (by kernel_rfl)
theorem w115(s0:Stretch)(dy:Int)(l:List Stretch){post:V→Prop}(h:WQ (T115 s0 dy l) v115 post .e):PC 115 [tStretch.lst l,fG 116 [.cref 5 fun q=>([iI s0.line,iI s0.body,.str s0.as_,iI s0.span.lo,iI s0.span.hi]:List V).getD q uU,rR (iI dy)]] post:=
 PCalls.wq Tryz.func115 (s115 s0 dy l) q115 h
theorem c115(s0:Stretch)(dy:Int)(l:List Stretch)(hl:l.length≤1000000)(hr:inR .i64 (dy-1)=true):PC 115 [tStretch.lst l,fG 116 [.cref 5 fun q=>(tStretch.cells s0).getD q uU,rR (iI dy)]] (·=iI (idxS s0 dy l)):=by
 have hz:tStretch.zero=zStretch:=rfl
 refine w115 s0 dy l (WP.step ?_)
 simp only[T115,Go,Ends',v115,Tr.sure,SS]
 repeat' with_reducible first|intro _|apply And.intro
 refine WP.findI (fun i=>.l0 i) rfl l zStretch (goesOn s0 dy) (fun i hi=> ?_) fun hI=> ?_
 ·have hr1:inR .i64 ((i:Int)+1)=true:=inR64 (by omega) (by omega)
  have k116:=c116 s0 dy (l.getD i zStretch) hr
  refine WP.once ?_
  simp only[T115,Tr.sure,SS,hi,hz]
  repeat' with_reducible first|intro _|apply And.intro
  all_goals first|exact k116|(simp[hr1,idxS,Go,Ends',v115,-List.getD_eq_getElem?_getD, *];done)|(simp_all [hr1,idxS,Go,Ends',v115,-List.getD_eq_getElem?_getD];done)
 ·refine WP.step ?_
  simp only[T115,Go,Ends',v115,Tr.sure,SS]
  repeat' with_reducible first|intro _|apply And.intro
  all_goals simp[hI,idxS,Go,Ends',v115,-List.getD_eq_getElem?_getD, *]
theorem forgetL:∀(l:List Nat) (t:List V) (j:Nat),VLe (t.getD j uU) ((l.foldl (fun t i=>t.set i uU) t).getD j uU)
 |[],_,_=>VLe.refl _
 |i::l,t,j=>fun G β x h=>forgetL l (t.set i uU) j G β x (forget_set t i j G β x h)
theorem tel_setL(L:List Stretch)(i:Nat)(d:Int)(hi:i<L.length){r j:Nat}(hr:r<L.length)(hj:j<5):
  VLe (if r=i∧4≤j∧j<4+([iI d]:List V).length then([iI d]:List V).getD (j-4) uU else rowsOf tStretch L r j) (rowsOf tStretch (setL L (i:Int) d) r j):=by
 unfold setL rowsOf
 rw[Int.toNat_natCast]
 by_cases h0:r=i
 ·subst h0
  rw[List.getD_eq_getElem?_getD (l:=L.set r _),List.getElem?_set_self hi]
  rcases show j=0∨j=1∨j=2∨j=3∨j=4 by omega with rfl|rfl|rfl|rfl|rfl
  ·rw[if_neg (by omega)];exact VLe.refl _
  ·rw[if_neg (by omega)];exact VLe.refl _
  ·rw[if_neg (by omega)];exact VLe.refl _
  ·rw[if_neg (by omega)];exact VLe.refl _
  ·rw[if_pos ⟨rfl,by omega,by simp⟩];exact VLe.refl _
 ·rw[if_neg (fun q=>h0 q.1),List.getD_eq_getElem?_getD (l:=L.set i _),List.getElem?_set_ne (Ne.symm h0),←List.getD_eq_getElem?_getD];exact VLe.refl _
theorem mid84(x:Look)(L:List Stretch)(n:Nat)(dy bl bo:Int)(io:Nat)(c0 c1:Int)(c2:ByteArray)(c3 c4:Int)(hi:io<n):AWP Tryz.prog ⟨none,0⟩ (regionF Tryz.f84 13) ⟨[lk x,uU,.row 0 n,.func (.func 81) [lk x] [],.ref 1 0 0,uU,uU,iI (io:Int),uU,uU,iI dy,uU,uU,uU,uU,uU,uU,uU,iI bl,iI bo,uU,uU,uU,uU,uU,uU,uU,uU,uU,uU,uU,uU,uU,uU,uU,uU,uU,uU,uU,uU,uU,uU,uU,uU,uU,uU,uU,uU,uU,uU,uU,uU,uU,uU,uU,uU,uU],[.rows 142 5 n (rowsOf tStretch L),.cells [iI dy],.cells [iI c0,iI c1,.str c2,iI c3,iI c4]],[]⟩ (fun e T=>e=.normal∧T=⟨[lk x,uU,.row 0 n,.func (.func 81) [lk x] [],.ref 1 0 0,uU,uU,iI (io:Int),uU,uU,iI dy,uU,uU,uU,uU,uU,uU,uU,iI bl,iI bo,uU,uU,uU,uU,uU,uU,uU,uU,uU,uU,uU,uU,uU,uU,uU,uU,uU,uU,uU,uU,uU,uU,uU,uU,uU,uU,uU,uU,.row 0 n,iI (io:Int),iI dy,.ref 0 (((io:Int)).toNat) 0,.ref 0 (((io:Int)).toNat) 3,.ref 0 (((io:Int)).toNat) 4,uU,uU,uU],[.rows 142 5 n (fun r' j=>if r'=((io:Int)).toNat∧4≤j∧j<4+([iI dy]:List V).length then([iI dy]:List V).getD (j-4) uU else(rowsOf tStretch L) r' j),.cells [iI dy],.cells [iI c0,iI c1,.str c2,iI c3,iI c4]],[]⟩):=by
 refine AWP.region (AOps.tree (g:=(.need ((decide (0≤(io:Int))&&decide ((io:Int)<(n:Int)))&&decide (n≤n)) (.need ((decide (((io:Int)).toNat<n)&&decide (4+([iI dy]:List V).length≤5))&&underL 0 ([iI dy]:List V)) (.done .normal ⟨[lk x,uU,.row 0 n,.func (.func 81) [lk x] [],.ref 1 0 0,uU,uU,iI (io:Int),uU,uU,iI dy,uU,uU,uU,uU,uU,uU,uU,iI bl,iI bo,uU,uU,uU,uU,uU,uU,uU,uU,uU,uU,uU,uU,uU,uU,uU,uU,uU,uU,uU,uU,uU,uU,uU,uU,uU,uU,uU,uU,.row 0 n,iI (io:Int),iI dy,.ref 0 (((io:Int)).toNat) 0,.ref 0 (((io:Int)).toNat) 3,.ref 0 (((io:Int)).toNat) 4,uU,uU,uU],[.rows 142 5 n (fun r' j=>if r'=((io:Int)).toNat∧4≤j∧j<4+([iI dy]:List V).length then([iI dy]:List V).getD (j-4) uU else(rowsOf tStretch L) r' j),.cells [iI dy],.cells [iI c0,iI c1,.str c2,iI c3,iI c4]],[]⟩)))) (by kernel_rfl) ?_)
 simp only[DT.holds]
 have hb1:((decide (0≤(io:Int))&&decide ((io:Int)<(n:Int)))&&decide (n≤n))=true:=by simp;omega
 have hb2:((decide (((io:Int)).toNat<n)&&decide (4+([iI dy]:List V).length≤5))&&underL 0 ([iI dy]:List V))=true:=by
  rw[under1,Int.toNat_natCast];simp;omega
 refine⟨hb1,hb2,?_⟩
 simp
theorem ov84_13(x:Look)(A:List Stretch)(dy bl bo:Int)(io:Nat)(c0 c1:Int)(c2:ByteArray)(c3 c4:Int)(hi:io<A.length):AWP Tryz.prog ⟨none,0⟩ (regionF Tryz.f84 13) ⟨[lk x,uU,.row 0 A.length,.func (.func 81) [lk x] [],.ref 1 0 0,uU,uU,iI (io:Int),uU,uU,iI dy,uU,uU,uU,uU,uU,uU,uU,iI bl,iI bo,uU,uU,uU,uU,uU,uU,uU,uU,uU,uU,uU,uU,uU,uU,uU,uU,uU,uU,uU,uU,uU,uU,uU,uU,uU,uU,uU,uU,uU,uU,uU,uU,uU,uU,uU,uU,uU],[.rows 142 5 A.length (rowsRev tStretch A),.cells [iI dy],.cells [iI c0,iI c1,.str c2,iI c3,iI c4]],[]⟩ (fun e T=>e=.normal∧T=⟨[lk x,uU,.row 0 ((setS A (io:Int) dy).length),.func (.func 81) [lk x] [],.ref 1 0 0,uU,uU,iI (io:Int),uU,uU,iI dy,uU,uU,uU,uU,uU,uU,uU,iI bl,iI bo,uU,uU,uU,uU,uU,uU,uU,uU,uU,uU,uU,uU,uU,uU,uU,uU,uU,uU,uU,uU,uU,uU,uU,uU,uU,uU,uU,uU,uU,uU,uU,uU,uU,uU,uU,uU,uU],[.rows 142 5 ((setS A (io:Int) dy).length) (rowsRev tStretch (setS A (io:Int) dy)),.cells [iI dy],.cells [iI c0,iI c1,.str c2,iI c3,iI c4]],[]⟩):=by
 have hlr:A.reverse.length=A.length:=List.length_reverse
 have hsl:=setS_len A (io:Int) dy
 have hS:(setS A (io:Int) dy).reverse=setL A.reverse (io:Int) dy:=by unfold setS;rw[List.reverse_reverse]
 have hv1:∀r j,r<A.length→j<5→VLe (rowsRev tStretch A r j) (rowsOf tStretch A.reverse r j):=fun r j hr _=>by rw[rowsRev_get tStretch A r j hr];exact VLe.refl _
 have hv2:∀r j,r<A.length→j<5→VLe (if r=((io:Int)).toNat∧4≤j∧j<4+([iI dy]:List V).length then([iI dy]:List V).getD (j-4) uU else rowsOf tStretch A.reverse r j) (rowsRev tStretch (setS A (io:Int) dy) r j):=fun r j hr hj=>by
  rw[rowsRev_get tStretch _ r j (by rw[hsl];exact hr),hS,Int.toNat_natCast]
  exact tel_setL A.reverse io dy (by rw[hlr];exact hi) (by rw[hlr];exact hr) hj
 rw[hsl]
 refine AWP.telRows (i:=0) (c':=rowsOf tStretch A.reverse) rfl hv1 ?_
 refine AWP.toldRows (i:=0) (e:=142) (wd:=5) (n:=A.length) (t:=[lk x,uU,.row 0 A.length,.func (.func 81) [lk x] [],.ref 1 0 0,uU,uU,iI (io:Int),uU,uU,iI dy,uU,uU,uU,uU,uU,uU,uU,iI bl,iI bo,uU,uU,uU,uU,uU,uU,uU,uU,uU,uU,uU,uU,uU,uU,uU,uU,uU,uU,uU,uU,uU,uU,uU,uU,uU,uU,uU,uU,uU,uU,uU,uU,uU,uU,uU,uU,uU]) (c:=fun r' j=>if r'=((io:Int)).toNat∧4≤j∧j<4+([iI dy]:List V).length then([iI dy]:List V).getD (j-4) uU else rowsOf tStretch A.reverse r' j) (c':=rowsRev tStretch (setS A (io:Int) dy)) ?_
 refine(mid84 x A.reverse A.length dy bl bo io c0 c1 c2 c3 c4 hi).mono fun e T q=> ?_
 obtain⟨he,hT⟩:=q
 rw[hT]
 exact⟨rfl,hv2,rfl,fun j=>forgetL [48,49,50,51,52,53] _ j,he,rfl⟩
def oneS(b:Book)(day:Int)(k:Nat):Stretch:=⟨lineN b day,(k:Int),namedR (b.bodies.getD k zBody) day,⟨day,day⟩⟩
def stepS(b:Book)(day:Int)(k:Nat)(l:List Stretch):List Stretch:=
 if((namedR (b.bodies.getD k zBody) day).toList==(ByteArray.mk #[]).toList)=true then l
 else if 0≤idxS (oneS b day k) day l then setL l (idxS (oneS b day k) day l) day else l++ [oneS b day k]
def strB(b:Book)(day:Int)(l:List Stretch)(k:Nat):List Stretch:=natF (stepS b day) l k
def strD(b:Book)(d:Nat):List Stretch:=natF (fun(d:Nat) l=>strB b (d:Int) l b.bodies.length) [] d
def stretchesR(b:Book):List Stretch:=strD b 365
theorem stepS_len(b:Book)(day:Int)(k:Nat)(l:List Stretch):(stepS b day k l).length≤l.length+1:=by
 unfold stepS
 split
 ·omega
 ·split
  ·simp[setL]
  ·simp
theorem strB_len(b:Book)(day:Int)(l:List Stretch):∀k,(strB b day l k).length≤l.length+k
 |0=>Nat.le_refl _
 |k+1=>by
  have h1:=stepS_len b day k (strB b day l k)
  have h2:=strB_len b day l k
  show(stepS b day k (strB b day l k)).length≤_
  omega
theorem strD_len{b:Book}(h:OkBook b):∀d,(strD b d).length≤d*5
 |0=>Nat.le_refl _
 |d+1=>by
  have h1:=strB_len b (d:Int) (strD b d) b.bodies.length
  have h2:=strD_len h d
  have h3:=h.nb
  show(strB b (d:Int) (strD b d) b.bodies.length).length≤_
  omega
theorem idxS_in(s:Stretch)(dy:Int)(l:List Stretch)(h:0≤idxS s dy l):∃i:Nat,idxS s dy l=(i:Int)∧i<l.length:=by
 unfold idxS at h⊢
 have key:∀(l:List Stretch) (k:Nat),∀i,firstI (goesOn s dy) k l=some i→k≤i∧i<k+l.length:=by
  intro l
  induction l with
  |nil=>intro k i hi;simp[firstI]at hi
  |cons y l ih=>
   intro k i hi
   simp only[firstI]at hi
   split at hi
   ·cases hi;simp
   ·have:=ih (k+1) i hi
    simp only[List.length_cons];omega
 cases hf:firstI (goesOn s dy) 0 l with
 |none=>rw[hf]at h;simp at h
 |some i=>
  have:=key l 0 i hf
  exact⟨i,rfl,by omega⟩
end
end Go.Proofs.YtemgodefhcbleaaGreat
