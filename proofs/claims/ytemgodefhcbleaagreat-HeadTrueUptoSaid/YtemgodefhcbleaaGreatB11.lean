/-
  Part of the proof of the Head laws. Conditions: those that stand in each theorem.
-/
import Derived.Test.YtemgodefhcbleaaGreatB10
set_option linter.unusedSimpArgs false
set_option linter.unusedVariables false
set_option maxRecDepth 100000
namespace Go.Proofs.YtemgodefhcbleaaGreat
open Ab Go
noncomputable section
def len8:ByteArray:=ByteArray.mk #[0,1,2,2,3,3,3,3,4,4,4,4,4,4,4,4,5,5,5,5,5,5,5,5,5,5,5,5,5,5,5,5,6,6,6,6,6,6,6,6,6,6,6,6,6,6,6,6,6,6,6,6,6,6,6,6,6,6,6,6,6,6,6,6,7,7,7,7,7,7,7,7,7,7,7,7,7,7,7,7,7,7,7,7,7,7,7,7,7,7,7,7,7,7,7,7,7,7,7,7,7,7,7,7,7,7,7,7,7,7,7,7,7,7,7,7,7,7,7,7,7,7,7,7,7,7,7,7,8,8,8,8,8,8,8,8,8,8,8,8,8,8,8,8,8,8,8,8,8,8,8,8,8,8,8,8,8,8,8,8,8,8,8,8,8,8,8,8,8,8,8,8,8,8,8,8,8,8,8,8,8,8,8,8,8,8,8,8,8,8,8,8,8,8,8,8,8,8,8,8,8,8,8,8,8,8,8,8,8,8,8,8,8,8,8,8,8,8,8,8,8,8,8,8,8,8,8,8,8,8,8,8,8,8,8,8,8,8,8,8,8,8,8,8,8,8,8,8,8,8,8,8,8,8,8,8]
inductive P140
 |e
inductive R140
 |r0 (r0:Int)
def T140(s:Int):P140->Tr P140 R140
 |.e=>let c1:=((len8.data.getD ((IntKind.wrap .u8 s)).toNat 0).toNat:Int);let c2:Tr P140 R140:=.wait 1 .never;(.br (decide (s≥(4294967296:Int))) c2 (.br (decide (s≥(65536:Int))) c2 (.br (decide (s≥(256:Int))) c2 (.need true (.need (decide (0<=(IntKind.wrap .u8 s))&&decide ((IntKind.wrap .u8 s)<(len8.size:Int))) (.need (inR .i64 c1) (.need (inR .i64 ((0:Int)+c1)) (.out (.r0 ((0:Int)+c1))))))))))
noncomputable def g140(s:Int):P140->List Item × St
 |.e=>bd Tryz.f140 [.int .u64 s] 24
def n140:R140->Exit × St
 |.r0 r0=>(.ret,⟨mk 25 [(2,iI r0)],[],[]⟩)
def v140:R140->V
 |.r0 r0=>iI r0
theorem s140(s:Int):Sm 0 (g140 s) (T140 s) (n140)
 |.e=>⟨400,by kernel_rfl⟩
theorem q140:∀r,bodyQ Tryz.prog Tryz.f140 (·=v140 r) (n140 r).1 (n140 r).2
 |.r0 r0=>bq (iI r0) (by kernel_rfl)
theorem w140(s:Int){post:V->Prop}(h:WQ (T140 s) v140 post .e):PC 140 [.int .u64 s] post:=
 PCalls.wq Tryz.func140 (s140 s) q140 h
def lenB(s:Int):Int:=0+((len8.data.getD (IntKind.wrap .u8 s).toNat 0).toNat:Int)
theorem lenB_small:∀k:Fin 13,IntKind.wrap .u8 ((k:Nat):Int)=((k:Nat):Int)/\0<=lenB ((k:Nat):Int)/\lenB ((k:Nat):Int)<=255:=by decide
theorem c140(s:Int)(h:0<=s/\s<=12):PC 140 [.int .u64 s] (·=iI (lenB s)):=by
 obtain⟨k,rfl⟩:∃k:Fin 13,s=((k:Nat):Int):=⟨⟨s.toNat,by omega⟩,by simp only;omega⟩
 obtain⟨h1,h2,h3⟩:=lenB_small k;have hr:inR .i64 (lenB ((k:Nat):Int))=true:=inR64 (by omega) (by omega);have hs:(len8.size:Int)=256:=by decide
 have q1:¬((k:Nat):Int)≥4294967296:=by omega
 have q2:¬((k:Nat):Int)≥65536:=by omega
 have q3:¬((k:Nat):Int)≥256:=by omega
 have q4:(0:Int)<=IntKind.wrap .u8 ((k:Nat):Int):=by omega
 have q5:IntKind.wrap .u8 ((k:Nat):Int)<(len8.size:Int):=by omega
 refine w140 _ (WP.step ?_);simp only[T140,Tr.sure,q1,q2,q3,decide_false,Bool.false_eq_true,false_imp_iff,true_imp_iff,true_and,q4,q5,decide_true,Bool.and_self];have hr1:inR .i64 ((len8.data.getD (IntKind.wrap .u8 ((k:Nat):Int)).toNat 0).toNat:Int)=true:=by unfold lenB at hr;rwa[Int.zero_add]at hr
 exact⟨hr1,fun _=>⟨hr,fun _=>rfl⟩⟩
inductive P114
 |e
inductive R114
 |r0 (r0:Int)
def T114(s:Int):P114->Tr P114 R114
 |.e=>(.lit false (.call 140 [.int .u64 s] (iI (lenB s)) true true (.out (.r0 (lenB s)))))
noncomputable def g114(s:Int):P114->List Item × St
 |.e=>bd Tryz.f114 [.int .u64 s] 7
def n114:R114->Exit × St
 |.r0 r0=>(.ret,⟨mk 8 [(2,iI r0)],[],[]⟩)
def v114:R114->V
 |.r0 r0=>iI r0
theorem s114(s:Int):Sm 0 (g114 s) (T114 s) (n114)
 |.e=>⟨400,by kernel_rfl⟩
theorem q114:∀r,bodyQ Tryz.prog Tryz.f114 (·=v114 r) (n114 r).1 (n114 r).2
 |.r0 r0=>bq (iI r0) (by kernel_rfl)
theorem w114(s:Int){post:V->Prop}(h:WQ (T114 s) v114 post .e):PC 114 [.int .u64 s] post:=
 PCalls.wq Tryz.func114 (s114 s) q114 h
theorem c114(s:Int)(h:0<=s/\s<=12):PC 114 [.int .u64 s] (·=iI (lenB s)):=by
 refine w114 _ (WP.step ?_);simp only[T114,Go,Ends',v114,Tr.sure,SS];repeat' with_reducible first|intro _|apply aI
 all_goals exact c140 s h
inductive P117
 |e
inductive R117
 |r0 (r0:List Pair)
def T117(n:Nat)(l:List Pair):P117->Tr P117 R117
 |.e=>let c1:=IntKind.wrap .u64 (n:Int);(.need true (.call 114 [.int .u64 c1] (iI (lenB c1)) true true (.hcall 141 [.row 0 n,iI 0,iI (n:Int),iI (lenB c1),fF 118] (.tuple []) [.rows 95 2 n (rowsOf tPair l)] [.rows 95 2 n (rowsOf tPair (isortN l n))] true (.out (.r0 (isortN l n))))))
noncomputable def g117(n:Nat)(l:List Pair):P117->List Item × St
 |.e=>([.code (Tryz.f117.body.getD .skip)],⟨[.row 0 n,fF 118]++List.replicate 12 uU,[.rows 95 2 n (rowsOf tPair l)],[]⟩)
def n117(n:Nat)(l:List Pair):R117->Exit × St
 |.r0 r0=>(.normal,⟨mk 14 [],[.rows 95 2 n (rowsOf tPair r0)],[]⟩)
theorem s117(n:Nat)(l:List Pair):Sm 1 (g117 n l) (T117 n l) (n117 n l)
 |.e=>⟨400,by kernel_rfl⟩
def hh117(n:Nat)(l:List Pair):R117->List Blk
 |.r0 r0=>[.rows 95 2 n (rowsOf tPair r0)]
def v117(n:Nat)(l:List Pair):R117->V
 |.r0 r0=>.tuple []
theorem q117(n:Nat)(l:List Pair):∀r,((n117 n l r).1=.normal\/(n117 n l r).1=.ret)/\(n117 n l r).2.d=[]/\(n117 n l r).2.h=hh117 n l r/\resultV Tryz.prog Tryz.f117 (n117 n l r).2=some (v117 n l r)
 |.r0 r0=>⟨.inl rfl,rfl,rfl,by kernel_rfl⟩
theorem w117(n:Nat)(l:List Pair){V0:V}{h':List Blk}(h:WP Tryz.prog ⟨none,1⟩ (T117 n l) (Ends' fun r=>v117 n l r=V0/\hh117 n l r=h') .e):HCalls Tryz.prog 117 [.row 0 n,fF 118] V0 [.rows 95 2 n (rowsOf tPair l)] h':=
 HCalls.wp mx Tryz.func117 (by kernel_rfl) (by kernel_rfl) (T117 n l) (g117 n l) (n117 n l) .e rfl (s117 n l) h fun r hr=>by rw[<-hr.1,<-hr.2];exact q117 n l r
theorem c117(n:Nat)(l:List Pair)(hl:l.length=n)(h0:0<n)(hn:n<=12):HCalls Tryz.prog 117 [.row 0 n,fF 118] (.tuple []) [.rows 95 2 n (rowsOf tPair l)] [.rows 95 2 n (rowsOf tPair (isortN l n))]:=by
 have hw:=wrap64 (s:=(n:Int)) ⟨by omega,by omega⟩;have k1:=c114 (n:Int) ⟨by omega,by omega⟩;have k2:=fun lim=>c141 n l lim hl h0 hn;refine w117 n l (WP.step ?_);simp only[T117,Tr.sure,hw,true_imp_iff,true_and];exact⟨k1,k2 _,rfl,rfl⟩
theorem c117at(n:Nat)(l:List Pair)(hl:l.length=n)(h0:0<n)(hn:n<=12)(h:List Blk)(q:Nat)(hq:h[q]? =some (.rows 95 2 n (rowsOf tPair l))):HCalls Tryz.prog 117 [.row q n,fF 118] (.tuple []) h (h.set q (.rows 95 2 n (rowsOf tPair (isortN l n)))):=
 (c117 n l hl h0 hn).atRow (fun j=>match j with
  |0=>.inr (.inl ⟨n,rfl⟩)
  |1=>.inr (.inr rfl)
  |j+2=>.inr (.inr rfl)) (.inr rfl) h0 hq
inductive P124
 |e
inductive R124
 |r0 (r0_0:Int) (r0_1:Int)
def T124(n:Int)(m:Int):P124->Tr P124 R124
 |.e=>(.out (.r0 (min n m) (max n m)))
noncomputable def g124(n:Int)(m:Int):P124->List Item × St
 |.e=>bd Tryz.f124 [iI n,iI m] 10
def n124:R124->Exit × St
 |.r0 r0_0 r0_1=>(.ret,⟨mk 12 [(4,.ref 0 0 0)],[.cells [iI r0_0,iI r0_1]],[]⟩)
def v124:R124->V
 |.r0 r0_0 r0_1=>.agg [iI r0_0,iI r0_1]
theorem s124(n:Int)(m:Int):Sm 0 (g124 n m) (T124 n m) (n124)
 |.e=>⟨400,by kernel_rfl⟩
theorem q124:∀r,bodyQ Tryz.prog Tryz.f124 (·=v124 r) (n124 r).1 (n124 r).2
 |.r0 r0_0 r0_1=>bq (.agg [iI r0_0,iI r0_1]) (by kernel_rfl)
theorem w124(n:Int)(m:Int){post:V->Prop}(h:WQ (T124 n m) v124 post .e):PC 124 [iI n,iI m] post:=
 PCalls.wq Tryz.func124 (s124 n m) q124 h
theorem c124(n m:Int):PC 124 [iI n,iI m] (·=.agg (tPair.cells (pairR n m))):=by
 refine w124 _ _ (WP.step ?_);simp only[T124,Go,Ends',v124,Tr.sure,SS];repeat' with_reducible first|intro _|apply aI
 all_goals simp[pairR,tPair,Go,Ends',v124,-List.getD_eq_getElem?_getD, *]
def allP(s:Int):List Pair:=(List.range 5).flatMap fun k=>(List.range k).filterMap fun i=>if bitH s i=true/\bitH s k=true then some ⟨(i:Int),(k:Int)⟩else none
def pairsP(x:Line):List Pair:=if x.kind=0 then[pairR x.a x.b]else if x.kind=1 then[pairR x.a x.b,pairR x.c x.d]else if x.kind=2 then allP x.set else[zPair]
inductive P122
 |e
inductive R122
 |r0
def T122(x:Line):P122->Tr P122 R122
 |.e=>(.out (.r0))
noncomputable def g122(x:Line):P122->List Item × St
 |.e=>bd Tryz.f122 [.agg [iI x.day,iI x.kind,iI x.a,iI x.b,iI x.c,iI x.d,iI x.set]] 4
def n122(x:Line):R122->Exit × St
 |.r0=>(.ret,⟨mk 5 [(2,.row 1 1)],[.gone,.rows 95 2 1 (litC 2 1 [iI 0,iI 0])],[]⟩)
theorem s122(x:Line):Sm 0 (g122 x) (T122 x) (n122 x)
 |.e=>⟨400,by kernel_rfl⟩
def hh122(x:Line):R122->List Blk
 |.r0=>[.gone,.rows 95 2 1 (litC 2 1 [iI 0,iI 0])]
def v122(x:Line):R122->V
 |.r0=>.row 1 1
theorem q122(x:Line):∀r,((n122 x r).1=.normal\/(n122 x r).1=.ret)/\(n122 x r).2.d=[]/\(n122 x r).2.h=hh122 x r/\resultV Tryz.prog Tryz.f122 (n122 x r).2=some (v122 x r)
 |.r0=>⟨.inr rfl,rfl,rfl,by kernel_rfl⟩
theorem w122(x:Line){V0:V}{h':List Blk}(h:WP Tryz.prog ⟨none,0⟩ (T122 x) (Ends' fun r=>v122 x r=V0/\hh122 x r=h') .e):HCalls Tryz.prog 122 [.agg [iI x.day,iI x.kind,iI x.a,iI x.b,iI x.c,iI x.d,iI x.set]] V0 [] h':=
 HCalls.wp mx Tryz.func122 (by kernel_rfl) (by kernel_rfl) (T122 x) (g122 x) (n122 x) .e rfl (s122 x) h fun r hr=>by rw[<-hr.1,<-hr.2];exact q122 x r
inductive P123
 |e
inductive R123
 |r0
def T123(x:Line):P123->Tr P123 R123
 |.e=>(.call 124 [iI x.a,iI x.b] (.agg [iI ((pairR x.a x.b).a),iI ((pairR x.a x.b).b)]) true true (.out (.r0)))
noncomputable def g123(x:Line):P123->List Item × St
 |.e=>bd Tryz.f123 [.agg [iI x.day,iI x.kind,iI x.a,iI x.b,iI x.c,iI x.d,iI x.set]] 8
def n123(x:Line):R123->Exit × St
 |.r0=>(.ret,⟨mk 9 [(2,.row 1 1)],[.gone,.rows 95 2 1 (litC 2 1 [iI ((pairR x.a x.b).a),iI ((pairR x.a x.b).b)])],[]⟩)
theorem s123(x:Line):Sm 0 (g123 x) (T123 x) (n123 x)
 |.e=>⟨400,by kernel_rfl⟩
def hh123(x:Line):R123->List Blk
 |.r0=>[.gone,.rows 95 2 1 (litC 2 1 [iI ((pairR x.a x.b).a),iI ((pairR x.a x.b).b)])]
def v123(x:Line):R123->V
 |.r0=>.row 1 1
theorem q123(x:Line):∀r,((n123 x r).1=.normal\/(n123 x r).1=.ret)/\(n123 x r).2.d=[]/\(n123 x r).2.h=hh123 x r/\resultV Tryz.prog Tryz.f123 (n123 x r).2=some (v123 x r)
 |.r0=>⟨.inr rfl,rfl,rfl,by kernel_rfl⟩
theorem w123(x:Line){V0:V}{h':List Blk}(h:WP Tryz.prog ⟨none,0⟩ (T123 x) (Ends' fun r=>v123 x r=V0/\hh123 x r=h') .e):HCalls Tryz.prog 123 [.agg [iI x.day,iI x.kind,iI x.a,iI x.b,iI x.c,iI x.d,iI x.set]] V0 [] h':=
 HCalls.wp mx Tryz.func123 (by kernel_rfl) (by kernel_rfl) (T123 x) (g123 x) (n123 x) .e rfl (s123 x) h fun r hr=>by rw[<-hr.1,<-hr.2];exact q123 x r
inductive P125
 |e
inductive R125
 |r0
def T125(x:Line):P125->Tr P125 R125
 |.e=>(.front [(4,124,[iI x.a,iI x.b],.agg [iI ((pairR x.a x.b).a),iI ((pairR x.a x.b).b)])] [] true true (.call 124 [iI x.c,iI x.d] (.agg [iI ((pairR x.c x.d).a),iI ((pairR x.c x.d).b)]) true true (.out (.r0))))
noncomputable def g125(x:Line):P125->List Item × St
 |.e=>bd Tryz.f125 [.agg [iI x.day,iI x.kind,iI x.a,iI x.b,iI x.c,iI x.d,iI x.set]] 13
def n125(x:Line):R125->Exit × St
 |.r0=>(.ret,⟨mk 14 [(2,.row 1 2)],[.gone,.rows 95 2 2 (litC 2 2 [iI ((pairR x.a x.b).a),iI ((pairR x.a x.b).b),iI ((pairR x.c x.d).a),iI ((pairR x.c x.d).b)])],[]⟩)
theorem s125(x:Line):Sm 0 (g125 x) (T125 x) (n125 x)
 |.e=>⟨400,by kernel_rfl⟩
def hh125(x:Line):R125->List Blk
 |.r0=>[.gone,.rows 95 2 2 (litC 2 2 [iI ((pairR x.a x.b).a),iI ((pairR x.a x.b).b),iI ((pairR x.c x.d).a),iI ((pairR x.c x.d).b)])]
def v125(x:Line):R125->V
 |.r0=>.row 1 2
theorem q125(x:Line):∀r,((n125 x r).1=.normal\/(n125 x r).1=.ret)/\(n125 x r).2.d=[]/\(n125 x r).2.h=hh125 x r/\resultV Tryz.prog Tryz.f125 (n125 x r).2=some (v125 x r)
 |.r0=>⟨.inr rfl,rfl,rfl,by kernel_rfl⟩
theorem w125(x:Line){V0:V}{h':List Blk}(h:WP Tryz.prog ⟨none,0⟩ (T125 x) (Ends' fun r=>v125 x r=V0/\hh125 x r=h') .e):HCalls Tryz.prog 125 [.agg [iI x.day,iI x.kind,iI x.a,iI x.b,iI x.c,iI x.d,iI x.set]] V0 [] h':=
 HCalls.wp mx Tryz.func125 (by kernel_rfl) (by kernel_rfl) (T125 x) (g125 x) (n125 x) .e rfl (s125 x) h fun r hr=>by rw[<-hr.1,<-hr.2];exact q125 x r
theorem one_row(p:Pair)(r j:Nat)(hr:r<1):VLe (litC 2 1 (tPair.cells p) r j) (rowsOf tPair [p] r j):=by
 obtain rfl:r=0:=by omega
 exact VLe.refl _
theorem c122(x:Line)(hk:x.kind=3\/x.kind=4):HCalls Tryz.prog 122 [.agg (tLine.cells x)] (.row 1 (pairsP x).length) [] [.gone,.rows 95 2 (pairsP x).length (rowsOf tPair (pairsP x))]:=by
 have e:pairsP x=[zPair]:=by unfold pairsP;rw[if_neg (by omega),if_neg (by omega),if_neg (by omega)]
 have h1:HCalls Tryz.prog 122 [.agg (tLine.cells x)] (.row 1 1) [] [.gone,.rows 95 2 1 (litC 2 1 [iI 0,iI 0])]:=by
  refine w122 x (WP.step ?_);simp only[T122,Tr.sure];exact⟨rfl,rfl⟩
 rw[e];exact h1.telR (q:=1) (c':=rowsOf tPair [zPair]) rfl fun r j hr _=>one_row zPair r j hr
theorem c123(x:Line)(hk:x.kind=0):HCalls Tryz.prog 123 [.agg (tLine.cells x)] (.row 1 (pairsP x).length) [] [.gone,.rows 95 2 (pairsP x).length (rowsOf tPair (pairsP x))]:=by
 have e:pairsP x=[pairR x.a x.b]:=by unfold pairsP;rw[if_pos hk]
 have k:=c124 x.a x.b
 have h1:HCalls Tryz.prog 123 [.agg (tLine.cells x)] (.row 1 1) [] [.gone,.rows 95 2 1 (litC 2 1 (tPair.cells (pairR x.a x.b)))]:=by
  refine w123 x (WP.step ?_);simp only[T123,Tr.sure,true_and];exact⟨k,rfl,rfl⟩
 rw[e];exact h1.telR (q:=1) (c':=rowsOf tPair [pairR x.a x.b]) rfl fun r j hr _=>one_row _ r j hr
theorem c125(x:Line)(hk:x.kind=1):HCalls Tryz.prog 125 [.agg (tLine.cells x)] (.row 1 (pairsP x).length) [] [.gone,.rows 95 2 (pairsP x).length (rowsOf tPair (pairsP x))]:=by
 have e:pairsP x=[pairR x.a x.b,pairR x.c x.d]:=by unfold pairsP;rw[if_neg (by omega),if_pos hk]
 have k1:=c124 x.a x.b;have k2:=c124 x.c x.d
 have h1:HCalls Tryz.prog 125 [.agg (tLine.cells x)] (.row 1 2) [] [.gone,.rows 95 2 2 (litC 2 2 (tPair.cells (pairR x.a x.b)++tPair.cells (pairR x.c x.d)))]:=by
  refine w125 x (WP.step ?_);simp only[T125,Tr.sure,true_and,List.forall_mem_cons,List.not_mem_nil,false_imp_iff,implies_true,and_true];exact⟨k1,k2,rfl,rfl⟩
 rw[e];refine h1.telR (q:=1) (c':=rowsOf tPair [pairR x.a x.b,pairR x.c x.d]) rfl fun r j hr hj=> ?_;have hr:r<2:=hr;rw[litC_eq (len:=2) hr];rcases show r=0\/r=1 by omega with rfl|rfl<;>rcases show j=0\/j=1 by omega with rfl|rfl<;>exact VLe.refl _
def rowP(s:Int)(k i:Nat):List Pair:=(List.range i).filterMap fun i=>if bitH s i=true/\bitH s k=true then some ⟨(i:Int),(k:Int)⟩else none
def allTo(s:Int)(k:Nat):List Pair:=(List.range k).flatMap fun k=>rowP s k k
theorem rowP_next(s:Int)(k i:Nat):rowP s k (i+1)=if bitH s i=true/\bitH s k=true then rowP s k i++ [⟨(i:Int),(k:Int)⟩]else rowP s k i:=by
 unfold rowP;rw[List.range_succ,List.filterMap_append];by_cases h:bitH s i=true/\bitH s k=true
 ·rw[if_pos h];simp[h]
 ·rw[if_neg h];simp[h]
theorem rowP_len(s:Int)(k i:Nat):(rowP s k i).length<=i:=by
 unfold rowP;have:=List.length_filterMap_le (fun i:Nat=>if bitH s i=true/\bitH s k=true then some (⟨(i:Int),(k:Int)⟩:Pair)else none) (List.range i);rwa[List.length_range]at this
theorem allTo_next(s:Int)(k:Nat):allTo s (k+1)=allTo s k++rowP s k k:=by
 unfold allTo;rw[List.range_succ,List.flatMap_append];simp
theorem allTo_len(s:Int):∀k,(allTo s k).length<=k*k
 |0=>by simp[allTo]
 |k+1=>by
  rw[allTo_next,List.length_append];have h1:=allTo_len s k;have h2:=rowP_len s k k;have h3:(k+1)*(k+1)=k*k+2*k+1:=by rw[Nat.add_mul,Nat.mul_add];omega
  omega
def bitP(s i:Int):Bool:=(bitsOf .and .i64 (s.fdiv (2^(min i.toNat 64))) (1:Int))==(1:Int)
theorem bitP_small:∀(s:Fin 32) (i:Fin 5),bitP ((s:Nat):Int) ((i:Nat):Int)=bitH ((s:Nat):Int) i:=by decide
inductive P127
 |e
 |l0 (x0_5:Int) (a0_0:List Pair)
 |l1 (x0_5:Int) (x1_9:Int) (a1_0:List Pair)
inductive R127
 |r0 (r0:List Pair) (r1:Nat)
def T127(s:Int):P127->Tr P127 R127
 |.e=>(.wait 2 (.own 2 95 2 (.go (.l0 0 ([])))))
 |.l0 x0_5 a0_0=>(.br (decide (x0_5<(5:Int))) (.go (.l1 x0_5 0 a0_0)) (.out (.r0 a0_0 a0_0.length)))
 |.l1 x0_5 x1_9 a1_0=>let c1:=x1_9+(1:Int);let c2:Tr P127 R127:=.need (inR .i64 c1) (.go (.l1 x0_5 c1 a1_0));(.br (decide (x1_9<x0_5)) (.need (decide (0<=x1_9)) (.br ((bitsOf .and .i64 (s.fdiv (2^(min (x1_9).toNat 64))) (1:Int))==(1:Int)) (.need (decide (0<=x0_5)) (.br ((bitsOf .and .i64 (s.fdiv (2^(min (x0_5).toNat 64))) (1:Int))==(1:Int)) (.need ((decide (a1_0.length=a1_0.length)&&decide (a1_0.length+1<=4294967296))&&decide (1<=1)) (.scal (fun _=>true) (.need (inR .i64 c1) (.go (.l1 x0_5 c1 ((⟨x1_9,x0_5⟩:Pair)::a1_0)))))) c2)) (.lit false c2))) (.need (inR .i64 (x0_5+(1:Int))) (.go (.l0 (x0_5+(1:Int)) a1_0))))
noncomputable def g127(s:Int):P127->List Item × St
 |.e=>bd Tryz.f127 [iI s] 32
 |.l0 x0_5 a0_0=>(cutOf Tryz.f127 0,⟨mk 33 [(0,iI s),(2,.row 0 a0_0.length),(5,iI x0_5)],[.rows 95 2 a0_0.length (rowsRev tPair a0_0)],[]⟩)
 |.l1 x0_5 x1_9 a1_0=>(cutOf Tryz.f127 1,⟨mk 33 [(0,iI s),(2,.row 0 a1_0.length),(3,iI x0_5),(5,iI x0_5),(8,iI x0_5),(9,iI x1_9)],[.rows 95 2 a1_0.length (rowsRev tPair a1_0)],[]⟩)
def n127(s:Int):R127->Exit × St
 |.r0 r0 r1=>(.ret,⟨mk 33 [(2,.row 0 r1)],[.rows 95 2 r0.length (rowsRev tPair r0)],[]⟩)
theorem s127(s:Int):Sm 0 (g127 s) (T127 s) (n127 s)
 |.e=>⟨400,by kernel_rfl⟩
 |.l0 _ _=>⟨400,by kernel_rfl⟩
 |.l1 _ _ _=>⟨400,by kernel_rfl⟩
def hh127(s:Int):R127->List Blk
 |.r0 r0 r1=>[.rows 95 2 r0.length (rowsRev tPair r0)]
def v127(s:Int):R127->V
 |.r0 r0 r1=>.row 0 r1
theorem q127(s:Int):∀r,((n127 s r).1=.normal\/(n127 s r).1=.ret)/\(n127 s r).2.d=[]/\(n127 s r).2.h=hh127 s r/\resultV Tryz.prog Tryz.f127 (n127 s r).2=some (v127 s r)
 |.r0 r0 r1=>⟨.inr rfl,rfl,rfl,by kernel_rfl⟩
theorem w127(s:Int){V0:V}{h':List Blk}(h:WP Tryz.prog ⟨none,0⟩ (T127 s) (Ends' fun r=>v127 s r=V0/\hh127 s r=h') .e):HCalls Tryz.prog 127 [iI s] V0 [] h':=
 HCalls.wp mx Tryz.func127 (by kernel_rfl) (by kernel_rfl) (T127 s) (g127 s) (n127 s) .e rfl (s127 s) h fun r hr=>by rw[<-hr.1,<-hr.2];exact q127 s r
theorem c127(s:Int)(h:0<=s/\s<=31):HCalls Tryz.prog 127 [iI s] (.row 0 (allP s).length) [] [.rows 95 2 (allP s).length (rowsOf tPair (allP s))]:=by
 obtain⟨z,rfl⟩:∃z:Fin 32,s=((z:Nat):Int):=⟨⟨s.toNat,by omega⟩,by simp only;omega⟩
 have hbit:∀i:Nat,i<5->bitP ((z:Nat):Int) (i:Int)=bitH ((z:Nat):Int) i:=fun i hi=>bitP_small z ⟨i,hi⟩;generalize((z:Nat):Int)=s at*
 have hmain:WP Tryz.prog ⟨none,0⟩ (T127 s) (Ends' fun r=>v127 s r=.row 0 (allP s).reverse.length/\hh127 s r=[.rows 95 2 (allP s).reverse.length (rowsRev tPair (allP s).reverse)]) (.l0 0 []):=by
  have eA:allP s=allTo s 5:=rfl;rw[eA];refine WP.run (fun k=>.l0 (k:Int) (allTo s k).reverse) rfl 5 (fun k hk=> ?_) ?_
  ·have hr:inR .i64 ((k:Int)+1)=true:=inR64 (by omega) (by omega);have hk':(k:Int)<5:=by omega
   have hal:=allTo_len s k;have hkk:k*k<=25:=by rcases show k=0\/k=1\/k=2\/k=3\/k=4 by omega with rfl|rfl|rfl|rfl|rfl<;>decide
   rw[allTo_next,List.reverse_append];refine WP.step ?_;simp only[T127,Go,Ends',v127,Tr.sure,SS,hk'];repeat' with_reducible first|intro _|apply aI
   refine WP.run (fun i=>.l1 (k:Int) (i:Int) ((rowP s k i).reverse++(allTo s k).reverse)) rfl k (fun i hi=> ?_) ?_
   ·have hr2:inR .i64 ((i:Int)+1)=true:=inR64 (by omega) (by omega);have hi':(i:Int)<k:=by omega
    have hrl:=rowP_len s k i;have hlen:((rowP s k i).reverse++(allTo s k).reverse).length+1<=4294967296:=by simp only[List.length_append,List.length_reverse];omega
    have b1:=hbit i (by omega);have b2:=hbit k hk;unfold bitP at b1 b2;rw[Int.toNat_natCast]at b1 b2;rw[rowP_next,<-b1,<-b2];generalize hA:(rowP s k i).reverse++(allTo s k).reverse=A at*
    have hA2:((rowP s k i++ [(⟨(i:Int),(k:Int)⟩:Pair)]).reverse++(allTo s k).reverse)=(⟨(i:Int),(k:Int)⟩:Pair)::A:=by rw[<-hA];simp
    cases g1:(bitsOf .and .i64 (s.fdiv (2^(min i 64))) (1:Int))==(1:Int)with
    |false=>
     simp only[Bool.false_eq_true,false_and,if_false,hA];refine WP.once ?_;simp only[T127,Tr.sure,SS,hi',g1];repeat' with_reducible first|intro _|apply aI
     all_goals simp[hr2,hlen,Go,Ends',v127,-List.getD_eq_getElem?_getD, *]
    |true=>
     cases g2:(bitsOf .and .i64 (s.fdiv (2^(min k 64))) (1:Int))==(1:Int)with
     |false=>
      simp only[Bool.false_eq_true,and_false,if_false,hA];refine WP.once ?_;simp only[T127,Tr.sure,SS,hi',g1,g2];repeat' with_reducible first|intro _|apply aI
      all_goals simp[hr2,hlen,Go,Ends',v127,-List.getD_eq_getElem?_getD, *]
     |true=>
      simp only[true_and,if_true,hA2];refine WP.once ?_;simp only[T127,Tr.sure,SS,hi',g1,g2];repeat' with_reducible first|intro _|apply aI
      all_goals simp[hr2,hlen,Go,Ends',v127,-List.getD_eq_getElem?_getD, *]
   ·refine WP.once ?_;simp only[T127,Tr.sure,SS,Int.lt_irrefl];repeat' with_reducible first|intro _|apply aI
    all_goals simp[hr,Go,Ends',v127,-List.getD_eq_getElem?_getD, *]
  ·refine WP.step ?_;simp only[T127,Go,Ends',v127,Tr.sure,SS,Int.lt_irrefl];repeat' with_reducible first|intro _|apply aI
   all_goals first|exact rfl|(simp_all [hh127,Go,Ends',v127,-List.getD_eq_getElem?_getD];done)
 have h1:HCalls Tryz.prog 127 [iI s] (.row 0 (allP s).reverse.length) [] [.rows 95 2 (allP s).reverse.length (rowsRev tPair (allP s).reverse)]:=by
  refine w127 s (WP.step ?_);simp only[T127,Tr.sure];exact hmain
 rw[List.length_reverse]at h1;refine h1.telR (q:=0) (c':=rowsOf tPair (allP s)) rfl fun r j hr hj=> ?_;have:=rowsRev_get tPair (allP s).reverse r j (by rw[List.length_reverse];exact hr);rw[List.reverse_reverse]at this;rw[this];exact VLe.refl _
inductive P126
 |e
inductive R126
 |r0 (r0:List Pair)
def T126(x:Line):P126->Tr P126 R126
 |.e=>let c1:List V:=[iI x.day,iI x.kind,iI x.a,iI x.b,iI x.c,iI x.d,iI x.set];let c2:=allP x.set;(.hcall 127 [iI x.set] (.row 1 (c2.length)) [.cells c1] [.cells c1,.rows 95 2 (c2.length) (rowsOf tPair c2)] true (.out (.r0 c2)))
noncomputable def g126(x:Line):P126->List Item × St
 |.e=>bd Tryz.f126 [.agg [iI x.day,iI x.kind,iI x.a,iI x.b,iI x.c,iI x.d,iI x.set]] 5
def n126(x:Line):R126->Exit × St
 |.r0 r0=>(.ret,⟨mk 6 [(2,.row 1 ((allP x.set).length))],[.gone,.rows 95 2 r0.length (rowsOf tPair r0)],[]⟩)
theorem s126(x:Line):Sm 0 (g126 x) (T126 x) (n126 x)
 |.e=>⟨400,by kernel_rfl⟩
def hh126(x:Line):R126->List Blk
 |.r0 r0=>[.gone,.rows 95 2 r0.length (rowsOf tPair r0)]
def v126(x:Line):R126->V
 |.r0 r0=>.row 1 ((allP x.set).length)
theorem q126(x:Line):∀r,((n126 x r).1=.normal\/(n126 x r).1=.ret)/\(n126 x r).2.d=[]/\(n126 x r).2.h=hh126 x r/\resultV Tryz.prog Tryz.f126 (n126 x r).2=some (v126 x r)
 |.r0 r0=>⟨.inr rfl,rfl,rfl,by kernel_rfl⟩
theorem w126(x:Line){V0:V}{h':List Blk}(h:WP Tryz.prog ⟨none,0⟩ (T126 x) (Ends' fun r=>v126 x r=V0/\hh126 x r=h') .e):HCalls Tryz.prog 126 [.agg [iI x.day,iI x.kind,iI x.a,iI x.b,iI x.c,iI x.d,iI x.set]] V0 [] h':=
 HCalls.wp mx Tryz.func126 (by kernel_rfl) (by kernel_rfl) (T126 x) (g126 x) (n126 x) .e rfl (s126 x) h fun r hr=>by rw[<-hr.1,<-hr.2];exact q126 x r
theorem c126(x:Line)(hk:x.kind=2)(hs:0<=x.set/\x.set<=31):HCalls Tryz.prog 126 [.agg (tLine.cells x)] (.row 1 (pairsP x).length) [] [.gone,.rows 95 2 (pairsP x).length (rowsOf tPair (pairsP x))]:=by
 have e:pairsP x=allP x.set:=by unfold pairsP;rw[if_neg (by omega),if_neg (by omega),if_pos hk]
 have k:=(c127 x.set hs).frame rfl rfl [.cells (tLine.cells x)];rw[e];refine w126 x (WP.step ?_);simp only[T126,Tr.sure,true_and];exact⟨k,rfl,rfl⟩
end
noncomputable section
inductive P119n
 |e
 |l0 (x0_3:Int)
inductive R119n
 |r0 (r0:List Pair)
def T119n(n:Nat)(l:List Pair):P119n->Tr P119n R119n
 |.e=>(.br (decide ((n:Int)<(2:Int))) (.out (.r0 l)) (.go (.l0 1)))
 |.l0 x0_3=>let c1:=x0_3-(1:Int);let c2:=l.getD (x0_3).toNat tPair.zero;let c3:=l.getD (c1).toNat tPair.zero;(.br (decide (x0_3<(n:Int))) (.front [] [] ((((decide (0<=x0_3)&&decide (x0_3<(n:Int)))&&decide (n<=n))&&((decide ((x0_3).toNat<n)&&decide (0+2<=2))&&((inR .i64 c1)&&(((decide (0<=c1)&&decide (c1<(n:Int)))&&decide (n<=n))&&((decide ((c1).toNat<n)&&decide (0+2<=2))&&true)))))&&true) true (.br ((c2.a==c3.a)&&((c2.b==c3.b)&&true)) (.wait 1 .never) (.need (inR .i64 (x0_3+(1:Int))) (.go (.l0 (x0_3+(1:Int))))))) (.out (.r0 l)))
noncomputable def g119n(n:Nat)(l:List Pair):P119n->List Item × St
 |.e=>([.code (Tryz.f119.body.getD .skip)],⟨[.row 0 n]++List.replicate 60 uU,[.rows 95 2 n (rowsOf tPair l)],[]⟩)
 |.l0 x0_3=>(cutOf Tryz.f119 0,⟨mk 61 [(0,.row 0 n),(3,iI x0_3)],[.rows 95 2 n (rowsOf tPair l)],[]⟩)
def n119n(n:Nat)(l:List Pair):R119n->Exit × St
 |.r0 r0=>(.ret,⟨mk 61 [(2,.row 0 n)],[.rows 95 2 n (rowsOf tPair r0)],[]⟩)
theorem s119n(n:Nat)(l:List Pair):Sm 1 (g119n n l) (T119n n l) (n119n n l)
 |.e=>⟨400,by kernel_rfl⟩
 |.l0 _=>⟨400,by kernel_rfl⟩
def hh119n(n:Nat)(l:List Pair):R119n->List Blk
 |.r0 r0=>[.rows 95 2 n (rowsOf tPair r0)]
def v119n(n:Nat)(l:List Pair):R119n->V
 |.r0 r0=>.row 0 n
theorem q119n(n:Nat)(l:List Pair):∀r,((n119n n l r).1=.normal\/(n119n n l r).1=.ret)/\(n119n n l r).2.d=[]/\(n119n n l r).2.h=hh119n n l r/\resultV Tryz.prog Tryz.f119 (n119n n l r).2=some (v119n n l r)
 |.r0 r0=>⟨.inr rfl,rfl,rfl,by kernel_rfl⟩
theorem w119n(n:Nat)(l:List Pair){V0:V}{h':List Blk}(h:WP Tryz.prog ⟨none,1⟩ (T119n n l) (Ends' fun r=>v119n n l r=V0/\hh119n n l r=h') .e):HCalls Tryz.prog 119 [.row 0 n] V0 [.rows 95 2 n (rowsOf tPair l)] h':=
 HCalls.wp mx Tryz.func119 (by kernel_rfl) (by kernel_rfl) (T119n n l) (g119n n l) (n119n n l) .e rfl (s119n n l) h fun r hr=>by rw[<-hr.1,<-hr.2];exact q119n n l r
inductive P119d
 |e
 |l0
 |l1
inductive R119d
 |r0
def T119d(p:Pair):P119d->Tr P119d R119d
 |.e=>(.br (decide ((2:Int)<(2:Int))) (.wait 1 .never) (.go (.l0)))
 |.l0=>let c1:=(1:Int)-(1:Int);let c2:=([p,p]:List Pair).getD ((1:Int)).toNat tPair.zero;let c3:=([p,p]:List Pair).getD (c1).toNat tPair.zero;(.br (decide ((1:Int)<(2:Int))) (.front [] [] ((((decide (0<=(1:Int))&&decide ((1:Int)<(2:Int)))&&decide (2<=2))&&((decide (((1:Int)).toNat<2)&&decide (0+2<=2))&&((inR .i64 c1)&&(((decide (0<=c1)&&decide (c1<(2:Int)))&&decide (2<=2))&&((decide ((c1).toNat<2)&&decide (0+2<=2))&&true)))))&&true) true (.br ((c2.a==c3.a)&&((c2.b==c3.b)&&true)) (.need (((decide (0<=(1:Int))&&decide ((1:Int)<=(2:Int)))&&decide ((2:Int)<=(2:Int)))&&decide (2<=2)) (.go (.l1))) (.wait 2 .never))) (.wait 2 .never))
 |.l1=>let c1:=((2:Int)).toNat-((1:Int)).toNat;let c2:=rowsOf tPair ([p,p]:List Pair);(.br (decide ((1:Int)<(c1:Int))) (.wait 4 .never) (.need (((decide (0<=(1:Int))&&decide ((1:Int)<=(2:Int)))&&decide ((2:Int)<=(2:Int)))&&decide (2<=2)) (.sem (opAt Tryz.f119 14 3) [(.tmp 56,.sub 0 (((1:Int)).toNat) 0 2 c1)] [.rows 95 2 2 c2] (.tuple []) [.rows 95 2 2 (fun q j=>if((1:Int)).toNat<=q/\q<((1:Int)).toNat+c1 then([iI 0,iI 0]:List V).getD j uU else c2 q j)] true (.need (((decide (0<=(0:Int))&&decide ((0:Int)<=(1:Int)))&&decide ((1:Int)<=(2:Int)))&&decide (2<=2)) (.out (.r0))))))
noncomputable def g119d(p:Pair):P119d->List Item × St
 |.e=>([.code (Tryz.f119.body.getD .skip)],⟨[.row 0 2]++List.replicate 60 uU,[.rows 95 2 2 (rowsOf tPair ([p,p]:List Pair))],[]⟩)
 |.l0=>(cutOf Tryz.f119 0,⟨mk 61 [(0,.row 0 2),(3,iI 1)],[.rows 95 2 2 (rowsOf tPair ([p,p]:List Pair))],[]⟩)
 |.l1=>(cutOf Tryz.f119 1,⟨mk 61 [(0,.row 0 2),(3,iI 1),(4,.sub 0 (((1:Int)).toNat) 0 2 (((2:Int)).toNat-((1:Int)).toNat)),(5,iI 1)],[.rows 95 2 2 (rowsOf tPair ([p,p]:List Pair))],[]⟩)
def n119d(p:Pair):R119d->Exit × St
 |.r0=>(.ret,⟨mk 61 [(2,.row 0 (((1:Int)).toNat))],[.rows 95 2 2 (fun q j=>if((1:Int)).toNat<=q/\q<((1:Int)).toNat+(((2:Int)).toNat-((1:Int)).toNat)then([iI 0,iI 0]:List V).getD j uU else(rowsOf tPair ([p,p]:List Pair)) q j)],[]⟩)
theorem s119d(p:Pair):Sm 1 (g119d p) (T119d p) (n119d p)
 |.e=>⟨400,by kernel_rfl⟩
 |.l0=>⟨400,by kernel_rfl⟩
 |.l1=>⟨400,by kernel_rfl⟩
def hh119d(p:Pair):R119d->List Blk
 |.r0=>[.rows 95 2 2 (fun q j=>if((1:Int)).toNat<=q/\q<((1:Int)).toNat+(((2:Int)).toNat-((1:Int)).toNat)then([iI 0,iI 0]:List V).getD j uU else(rowsOf tPair ([p,p]:List Pair)) q j)]
def v119d(p:Pair):R119d->V
 |.r0=>.row 0 (((1:Int)).toNat)
theorem q119d(p:Pair):∀r,((n119d p r).1=.normal\/(n119d p r).1=.ret)/\(n119d p r).2.d=[]/\(n119d p r).2.h=hh119d p r/\resultV Tryz.prog Tryz.f119 (n119d p r).2=some (v119d p r)
 |.r0=>⟨.inr rfl,rfl,rfl,by kernel_rfl⟩
theorem w119d(p:Pair){V0:V}{h':List Blk}(h:WP Tryz.prog ⟨none,1⟩ (T119d p) (Ends' fun r=>v119d p r=V0/\hh119d p r=h') .e):HCalls Tryz.prog 119 [.row 0 2] V0 [.rows 95 2 2 (rowsOf tPair ([p,p]:List Pair))] h':=
 HCalls.wp mx Tryz.func119 (by kernel_rfl) (by kernel_rfl) (T119d p) (g119d p) (n119d p) .e rfl (s119d p) h fun r hr=>by rw[<-hr.1,<-hr.2];exact q119d p r
def noTwice(l:List Pair):Prop:=∀k,k+1<l.length->l.getD (k+1) zPair≠l.getD k zPair
theorem c119n(n:Nat)(l:List Pair)(hl:l.length=n)(hn:n<=1000)(ht:noTwice l):HCalls Tryz.prog 119 [.row 0 n] (.row 0 n) [.rows 95 2 n (rowsOf tPair l)] [.rows 95 2 n (rowsOf tPair l)]:=by
 have hmain:2<=n->WP Tryz.prog ⟨none,1⟩ (T119n n l) (Ends' fun r=>v119n n l r=.row 0 n/\hh119n n l r=[.rows 95 2 n (rowsOf tPair l)]) (.l0 1):=fun h2=>by
  refine WP.count (fun k=>.l0 (1+(k:Int))) rfl (n-1) (fun _=>True) trivial (fun k hk _=> ?_) fun _=> ?_
  ·have e1:(1:Int)+(k:Int)=((k+1:Nat):Int):=by omega
   have e2:((k+1:Nat):Int)-1=(k:Int):=by omega
   have e3:(1:Int)+((k+1:Nat):Int)=((k+1:Nat):Int)+1:=by omega
   have e4:(((k+1:Nat):Int)).toNat=k+1:=Int.toNat_natCast _;have e5:((k:Nat):Int).toNat=k:=Int.toNat_natCast _;have q1:((k+1:Nat):Int)<n:=by omega
   have q2:(0:Int)<=((k+1:Nat):Int):=by omega
   have q3:(k:Int)<n:=by omega
   have q4:(0:Int)<=(k:Int):=by omega
   have q5:k+1<n:=by omega
   have q6:k<n:=by omega
   have r1:inR .i64 (((k+1:Nat):Int)-1)=true:=inR64 (by omega) (by omega);have r2:inR .i64 (((k+1:Nat):Int)+1)=true:=inR64 (by omega) (by omega);have hne:=ht k (by omega);have hq:=pair_beq (l.getD (k+1) zPair) (l.getD k zPair);have hx:(((l.getD (k+1) zPair).a==(l.getD k zPair).a)&&(((l.getD (k+1) zPair).b==(l.getD k zPair).b)&&true))=false:=by rw[hq];simpa using hne
   rw[e1,e3];rw[e2]at r1;refine WP.once ?_;simp only[T119n,Tr.sure,SS,e2,e4,e5,q1,z8,hx];repeat' with_reducible first|intro _|apply aI
   all_goals first|exact(by omega)|(simp[r1,r2,q1,q2,q3,q4,q5,q6,Go,Ends',v119n,-List.getD_eq_getElem?_getD, *];done)
  ·have e:(1:Int)+((n-1:Nat):Int)=n:=by omega
   rw[e];refine WP.step ?_;simp only[T119n,Go,Ends',v119n,Tr.sure,SS,Int.lt_irrefl];repeat' with_reducible first|intro _|apply aI
   all_goals exact rfl
 refine w119n n l (WP.step ?_);by_cases h2:(n:Int)<2
 ·simp only[T119n,Tr.sure,h2,decide_true,true_imp_iff,Bool.true_eq_false,false_imp_iff,and_true];exact⟨rfl,rfl⟩
 ·simp only[T119n,Tr.sure,h2,decide_false,Bool.false_eq_true,false_imp_iff,true_and,true_imp_iff];exact hmain (by omega)
theorem c119d(p:Pair):∃c,HCalls Tryz.prog 119 [.row 0 2] (.row 0 1) [.rows 95 2 2 (rowsOf tPair [p,p])] [.rows 95 2 2 c]/\∀j,c 0 j=rowsOf tPair [p] 0 j:=by
 refine⟨fun q j=>if((1:Int)).toNat<=q/\q<((1:Int)).toNat+(((2:Int)).toNat-((1:Int)).toNat)then([iI 0,iI 0]:List V).getD j uU else(rowsOf tPair ([p,p]:List Pair)) q j,?_,fun j=>rfl⟩
 have hsem:SemOK Tryz.prog (opAt Tryz.f119 14 3) [(.tmp 56,.sub 0 1 0 2 1)] [.rows 95 2 2 (rowsOf tPair [p,p])] (.tuple []) [.rows 95 2 2 fun q j=>if 1<=q/\q<1+1 then([iI 0,iI 0]:List V).getD j uU else rowsOf tPair [p,p] q j]:=
  sem_clear (P:=Tryz.prog) (x:=.tmp 56) (t:=30) (e:=95) (i:=0) (r:=1) (n:=1) (w:=2) (m:=2) (zs:=[iI 0,iI 0]) (by kernel_rfl) (by kernel_rfl) rfl rfl rfl (by decide)
 have hl1:WP Tryz.prog ⟨none,1⟩ (T119d p) (Ends' fun r=>v119d p r=.row 0 1/\hh119d p r=[.rows 95 2 2 fun q j=>if((1:Int)).toNat<=q/\q<((1:Int)).toNat+(((2:Int)).toNat-((1:Int)).toNat)then([iI 0,iI 0]:List V).getD j uU else(rowsOf tPair ([p,p]:List Pair)) q j]) .l1:=by
  refine WP.step ?_;simp only[T119d,Tr.sure];exact⟨fun h=>absurd h (by decide),fun _=>⟨by decide,fun _=>⟨hsem,by decide,fun _=>⟨rfl,rfl⟩⟩⟩⟩
 have hl0:WP Tryz.prog ⟨none,1⟩ (T119d p) (Ends' fun r=>v119d p r=.row 0 1/\hh119d p r=[.rows 95 2 2 fun q j=>if((1:Int)).toNat<=q/\q<((1:Int)).toNat+(((2:Int)).toNat-((1:Int)).toNat)then([iI 0,iI 0]:List V).getD j uU else(rowsOf tPair ([p,p]:List Pair)) q j]) .l0:=by
  refine WP.step ?_;have h1:decide ((1:Int)<(2:Int))=true:=by decide
  have h2:(((([p,p]:List Pair).getD ((1:Int)).toNat tPair.zero).a==(([p,p]:List Pair).getD (((1:Int)-(1:Int))).toNat tPair.zero).a)&&(((([p,p]:List Pair).getD ((1:Int)).toNat tPair.zero).b==(([p,p]:List Pair).getD (((1:Int)-(1:Int))).toNat tPair.zero).b)&&true))=true:=by
   show((p.a==p.a)&&((p.b==p.b)&&true))=true;simp
  simp only[T119d,Tr.sure,h1,h2,Bool.true_eq_false,false_imp_iff,and_true,true_imp_iff];refine⟨by decide,fun c hc=>by simp at hc,by decide,fun _=>hl1⟩
 refine w119d p (WP.step ?_);have h1:decide ((2:Int)<(2:Int))=false:=by decide
 simp only[T119d,Tr.sure,h1,Bool.false_eq_true,false_imp_iff,true_and,true_imp_iff];exact hl0
def dedupP:List Pair->List Pair
 |[p,q]=>if p=q then[p]else[p,q]
 |l=>l
theorem dedup_noTwice{l:List Pair}(h:noTwice l):dedupP l=l:=by
 unfold dedupP;split
 ·rename_i p q;have:=h 0 (by simp);simp only[gE,List.getElem?_cons_succ,List.getElem?_cons_zero,Option.getD_some]at this;rw[if_neg fun e=>this e.symm]
 ·rfl
theorem c119at(n:Nat)(l:List Pair)(hl:l.length=n)(h0:0<n)(hn:n<=1000)(ht:noTwice l\/∃p,l=[p,p])(h:List Blk)(q:Nat)(hq:h[q]? =some (.rows 95 2 n (rowsOf tPair l)))(ho:h.all (offB q)=true):
  HCalls Tryz.prog 119 [.row q n] (tPair.lst (dedupP l)) h (h.set q .gone):=by
 have hql:=(List.getElem?_eq_some_iff.1 hq).1;have hs:∀(b:Blk),((h.set q b).set q .gone)=h.set q .gone:=fun b=>by simp
 rcases ht with ht|⟨p,rfl⟩
 ·rw[dedup_noTwice ht]
  have k:=(c119n n l hl hn ht).atRow (fun j=>match j with
   |0=>.inr (.inl ⟨n,rfl⟩)
   |j+1=>.inr (.inr rfl)) (.inl ⟨n,rfl⟩) h0 hq
  have k2:=k.frzOff (q:=q) (m:=n) (n:=n) (c:=rowsOf tPair l) (by rw[List.getElem?_set_self hql]) (Nat.le_refl _) (by
   rw[List.all_eq_true]at ho⊢;intro b hb;rcases List.mem_or_eq_of_mem_set hb with z|rfl
   ·exact ho b z
   ·rfl)
  rw[hs]at k2;subst hl;exact k2
 ·obtain rfl:n=2:=hl.symm;obtain⟨c,hc,hcc⟩:=c119d p
  have k:=hc.atRow (fun j=>match j with
   |0=>.inr (.inl ⟨2,rfl⟩)
   |j+1=>.inr (.inr rfl)) (.inl ⟨1,rfl⟩) h0 hq
  have k2:=k.frzOff (q:=q) (m:=1) (n:=2) (c:=c) (by rw[List.getElem?_set_self hql]) (by decide) (by
   rw[List.all_eq_true]at ho⊢;intro b hb;rcases List.mem_or_eq_of_mem_set hb with z|rfl
   ·exact ho b z
   ·rfl)
  rw[hs]at k2;have e:dedupP [p,p]=[p]:=by simp[dedupP]
  rw[e];refine k2.res (VLe.list fun i j hi hj=> ?_);obtain rfl:i=0:=by omega
  exact hcc j
def sortedP(x:Line):List Pair:=isortN (pairsP x) (pairsP x).length
theorem allP_small:∀s:Fin 32,2<=(bitsR ((s:Nat):Int)).length->isortN (allP ((s:Nat):Int)) (allP ((s:Nat):Int)).length=somePairs (bitsR ((s:Nat):Int))/\0<(allP ((s:Nat):Int)).length/\(allP ((s:Nat):Int)).length<=10/\
  ∀k:Fin 10,(k:Nat)+1<(somePairs (bitsR ((s:Nat):Int))).length->(somePairs (bitsR ((s:Nat):Int))).getD (k+1) zPair≠(somePairs (bitsR ((s:Nat):Int))).getD k zPair:=by decide
theorem pairs_come{n:Nat}{x:Line}(h:OkLine n x)(hn:n<=5):(0<(pairsP x).length/\(pairsP x).length<=10)/\(noTwice (sortedP x)\/∃p,sortedP x=[p,p])/\dedupP (sortedP x)=pairsR x:=by
 have hk:=h.kind
 have one:∀p,pairsP x=[p]->pairsR x=[p]->(0<(pairsP x).length/\(pairsP x).length<=10)/\(noTwice (sortedP x)\/∃p,sortedP x=[p,p])/\dedupP (sortedP x)=pairsR x:=fun p e1 e2=>by
  have e3:sortedP x=[p]:=by unfold sortedP;rw[e1];rfl
  rw[e3,e1,e2];exact⟨⟨by simp,by simp⟩,.inl fun k hk=>by simp at hk,rfl⟩
 rcases show x.kind=0\/x.kind=1\/x.kind=2\/x.kind=3\/x.kind=4 by omega with q|q|q|q|q
 ·exact one (pairR x.a x.b) (by unfold pairsP;rw[if_pos q]) (by unfold pairsR;rw[if_pos q])
 ·have e1:pairsP x=[pairR x.a x.b,pairR x.c x.d]:=by unfold pairsP;rw[if_neg (by omega),if_pos q]
  have e2:pairsR x=if pairR x.a x.b=pairR x.c x.d then[pairR x.a x.b]else if beforeR (pairR x.c x.d) (pairR x.a x.b)=true then[pairR x.c x.d,pairR x.a x.b]else[pairR x.a x.b,pairR x.c x.d]:=by unfold pairsR;rw[if_neg (by omega),if_pos q]
  have e3:sortedP x=if beforeR (pairR x.c x.d) (pairR x.a x.b)=true then[pairR x.c x.d,pairR x.a x.b]else[pairR x.a x.b,pairR x.c x.d]:=by unfold sortedP;rw[e1];rfl
  rw[e3,e1,e2];generalize pairR x.a x.b=p
  generalize pairR x.c x.d=r
  refine⟨⟨by simp,by simp⟩,?_⟩
  have two:∀a b:Pair,a≠b->noTwice [a,b]:=fun a b hne k hk=>by
   have:k=0:=by simp at hk;omega
   subst this;exact fun e=>hne e.symm
  by_cases e:p=r
  ·subst e;have:beforeR p p=false:=by simp[beforeR]
   rw[this];simp only[Bool.false_eq_true,if_false,if_true];exact⟨.inr ⟨p,rfl⟩,by simp[dedupP]⟩
  ·rw[if_neg e];by_cases g:beforeR r p=true
   ·rw[if_pos g];have:=two r p (fun z=>e z.symm);exact⟨.inl this,dedup_noTwice this⟩
   ·rw[if_neg g];have:=two p r e;exact⟨.inl this,dedup_noTwice this⟩
 ·obtain⟨s1,s2,_⟩:=h.set q;have hp:=pow2s hn
  obtain⟨z,hz⟩:∃z:Fin 32,x.set=((z:Nat):Int):=⟨⟨x.set.toNat,by omega⟩,by simp only;omega⟩
  have e1:pairsP x=allP x.set:=by unfold pairsP;rw[if_neg (by omega),if_neg (by omega),if_pos q]
  have e2:pairsR x=somePairs (bitsR x.set):=by unfold pairsR;rw[if_neg (by omega),if_neg (by omega),if_pos q]
  unfold sortedP;rw[e1,e2];rw[hz]at s2⊢;obtain⟨a1,a2,a3,a4⟩:=allP_small z s2;rw[a1];have hnt:noTwice (somePairs (bitsR ((z:Nat):Int))):=fun k hk=>a4 ⟨k,by have:=some_len (bitsR ((z:Nat):Int)) (bitsR_len _);omega⟩ hk;exact⟨⟨a2,a3⟩,.inl hnt,dedup_noTwice hnt⟩
 ·exact one zPair (by unfold pairsP;rw[if_neg (by omega),if_neg (by omega),if_neg (by omega)]) (by unfold pairsR;rw[if_neg (by omega),if_neg (by omega),if_neg (by omega)])
 ·exact one zPair (by unfold pairsP;rw[if_neg (by omega),if_neg (by omega),if_neg (by omega)]) (by unfold pairsR;rw[if_neg (by omega),if_neg (by omega),if_neg (by omega)])
theorem sortedP_len(x:Line):(sortedP x).length=(pairsP x).length:=isortN_len _ _
end
noncomputable section
structure Look where
 b:Book
 pairs:List (List Pair)
def tLook:Ty Look:=⟨4,fun x=>[tBody.lst x.b.bodies,tstr.lst x.b.heads,tLine.lst x.b.lines,(tlist tPair).lst x.pairs],⟨⟨[],[],[]⟩,[]⟩⟩
def regionF(fn:Func)(id:Nat):Code:=.region id ((regOf id (fn.body.getD .skip)).getD #[]) false
def o88_11:Array Oper:=(regOf 11 (Tryz.f88.body.getD .skip)).getD #[]
@[reducible] def st88_11 (b:Book) (A:List (List Pair)) (m:Nat) (l:List Pair) (io:Int) (d0:Int) (d1:Int) (d2:Int) (d3:Int) (d4:Int) (d5:Int) (d6:Int) (c:Nat->Bool):St:=⟨[uU,uU,uU,uU,uU,uU,uU,.ref 1 0 0,.ref 2 0 0,uU,uU,.row 6 m,uU,uU,uU,uU,uU,uU,uU,uU,uU,uU,uU,uU,uU,uU,tLine.lst b.lines,iI (b.lines.length:Int),iI io,uU,uU,uU,uU,uU,uU,uU,uU,uU,uU,uU,uU,(bif c 0 then .ref 1 0 0 else(uU)),(bif c 1 then .ref 1 0 0 else(uU)),(bif c 2 then .ref 1 0 0 else(uU)),(bif c 3 then .ref 1 0 3 else(uU)),(bif c 8 then uU else(bif c 4 then .row 3 A.length else(uU))),(bif c 5 then .row 6 m else(uU)),(bif c 6 then tPair.lst (dedupP l)else(uU)),(bif c 7 then .list 1 1 (litC 1 1 [tPair.lst (dedupP l)])else(uU)),(bif c 8 then .row 3 (A.length+1)else(uU)),uU,uU,uU,uU],[.gone,(bif c 8 then .cells [tBody.lst b.bodies,tstr.lst b.heads,tLine.lst b.lines,uU]else(.cells [tBody.lst b.bodies,tstr.lst b.heads,tLine.lst b.lines,.row 3 A.length])),.rows 162 3 5 formsC,(bif c 8 then .rows 30 1 (A.length+1) (rowsRev (tlist tPair) ((dedupP l)::A))else(.rows 30 1 A.length (rowsRev (tlist tPair) A))),.cells [iI d0,iI d1,iI d2,iI d3,iI d4,iI d5,iI d6],.gone,(bif c 6 then .gone else(.rows 95 2 m (rowsOf tPair l)))],[]⟩
def t88_11:Tab:=[([],[1,2,3,4,5,6,7,8]),([],[0,5,6,7]),([1],[0,5,6,7]),([1,2],[0,5,6,7]),([1,2,3],[0,5,6,7]),([],[0,1,2,3,4]),([5],[0,1,2,3,4]),([5,6],[0,1,2,3,4]),([1,2,3,4,5,6,7],[0])]
theorem ov88_11(b:Book)(A:List (List Pair))(m:Nat)(l:List Pair)(io:Int)(d0:Int)(d1:Int)(d2:Int)(d3:Int)(d4:Int)(d5:Int)(d6:Int)(hc:HCalls Tryz.prog 119 [.row 6 m] (tPair.lst (dedupP l)) [.gone,.cells [tBody.lst b.bodies,tstr.lst b.heads,tLine.lst b.lines,.row 3 A.length],.rows 162 3 5 formsC,.rows 30 1 A.length (rowsRev (tlist tPair) A),.cells [iI d0,iI d1,iI d2,iI d3,iI d4,iI d5,iI d6],.gone,.rows 95 2 m (rowsOf tPair l)] [.gone,.cells [tBody.lst b.bodies,tstr.lst b.heads,tLine.lst b.lines,.row 3 A.length],.rows 162 3 5 formsC,.rows 30 1 A.length (rowsRev (tlist tPair) A),.cells [iI d0,iI d1,iI d2,iI d3,iI d4,iI d5,iI d6],.gone,.gone])(hA:A.length+1<=4294967296):AWP Tryz.prog ⟨none,0⟩ (regionOf Tryz.f88 11) ⟨[uU,uU,uU,uU,uU,uU,uU,.ref 1 0 0,.ref 2 0 0,uU,uU,.row 6 m,uU,uU,uU,uU,uU,uU,uU,uU,uU,uU,uU,uU,uU,uU,tLine.lst b.lines,iI (b.lines.length:Int),iI io,uU,uU,uU,uU,uU,uU,uU,uU,uU,uU,uU,uU,uU,uU,uU,uU,uU,uU,uU,uU,uU,uU,uU,uU,uU],[.gone,.cells [tBody.lst b.bodies,tstr.lst b.heads,tLine.lst b.lines,.row 3 A.length],.rows 162 3 5 formsC,.rows 30 1 A.length (rowsRev (tlist tPair) A),.cells [iI d0,iI d1,iI d2,iI d3,iI d4,iI d5,iI d6],.gone,.rows 95 2 m (rowsOf tPair l)],[]⟩ (fun e T=>e=.normal/\T=⟨[uU,uU,uU,uU,uU,uU,uU,.ref 1 0 0,.ref 2 0 0,uU,uU,.row 6 m,uU,uU,uU,uU,uU,uU,uU,uU,uU,uU,uU,uU,uU,uU,tLine.lst b.lines,iI (b.lines.length:Int),iI io,uU,uU,uU,uU,uU,uU,uU,uU,uU,uU,uU,uU,.ref 1 0 0,.ref 1 0 0,.ref 1 0 0,.ref 1 0 3,uU,.row 6 m,tPair.lst (dedupP l),.list 1 1 (litC 1 1 [tPair.lst (dedupP l)]),.row 3 (A.length+1),.ref 1 0 0,.ref 1 0 3,uU,uU],[.gone,.cells [tBody.lst b.bodies,tstr.lst b.heads,tLine.lst b.lines,.row 3 (A.length+1)],.rows 162 3 5 formsC,.rows 30 1 (A.length+1) (rowsRev (tlist tPair) ((dedupP l)::A)),.cells [iI d0,iI d1,iI d2,iI d3,iI d4,iI d5,iI d6],.gone,.gone],[]⟩):=by
 refine AWP.region_bits (ops:=o88_11) 9 0 t88_11 mx (st88_11 b A m l io d0 d1 d2 d3 d4 d5 d6) (fun z_i z_h c=> ?_) ?_
 ·rcases show z_i=0\/z_i=1\/z_i=2\/z_i=3\/z_i=4\/z_i=5\/z_i=6\/z_i=7\/z_i=8 by omega with rfl|rfl|rfl|rfl|rfl|rfl|rfl|rfl|rfl
  ·exact AStep.rd true (.ref 1 0 0) rfl
  ·exact AStep.rd true (.ref 1 0 0) rfl
  ·exact AStep.rd true (.ref 1 0 0) rfl
  ·exact AStep.rd true (.ref 1 0 3) rfl
  ·exact AStep.rd true (.row 3 A.length) rfl
  ·exact AStep.rd true (.row 6 m) rfl
  ·refine AStep.tree (g:=(.hcall 119 [.row 6 m] (tPair.lst (dedupP l)) [.gone,.cells [tBody.lst b.bodies,tstr.lst b.heads,tLine.lst b.lines,.row 3 A.length],.rows 162 3 5 formsC,.rows 30 1 A.length (rowsRev (tlist tPair) A),.cells [iI d0,iI d1,iI d2,iI d3,iI d4,iI d5,iI d6],.gone,.rows 95 2 m (rowsOf tPair l)] [.gone,.cells [tBody.lst b.bodies,tstr.lst b.heads,tLine.lst b.lines,.row 3 A.length],.rows 162 3 5 formsC,.rows 30 1 A.length (rowsRev (tlist tPair) A),.cells [iI d0,iI d1,iI d2,iI d3,iI d4,iI d5,iI d6],.gone,.gone] (.done .normal (st88_11 b A m l io d0 d1 d2 d3 d4 d5 d6 (mkb t88_11 6 true c))))) (by kernel_rfl) ?_
   simp only[DT.holds];repeat' (first|assumption|exact rfl|(with_reducible refine And.intro ?_ ?_))
   all_goals simp[*]
  ·exact AStep.lt 132 30 1 #[(0,.tmp 47)] [.nils] [tPair.lst (dedupP l)]
  ·refine AStep.ap 132 (.tmp 45) (.tmp 48) 3 (.rows 30 1 (A.length+1) (rowsRev (tlist tPair) ((dedupP l)::A))) ((decide (A.length=A.length)&&decide (A.length+1<=4294967296))&&true) (fun _=>true) (.row 3 (A.length+1)) ?_ ?_ ?_
   ·first|(simp;done)|(simp;omega)|(simp[*];done)|(simp[-List.getD_eq_getElem?_getD];omega)
   ·intro r;rfl
   ·simp only[killS,List.map_cons,List.map_nil,killV_bif,killB_bif];kernel_rfl
 ·refine AOps.tree (g:=(.done .normal ⟨[uU,uU,uU,uU,uU,uU,uU,.ref 1 0 0,.ref 2 0 0,uU,uU,.row 6 m,uU,uU,uU,uU,uU,uU,uU,uU,uU,uU,uU,uU,uU,uU,tLine.lst b.lines,iI (b.lines.length:Int),iI io,uU,uU,uU,uU,uU,uU,uU,uU,uU,uU,uU,uU,.ref 1 0 0,.ref 1 0 0,.ref 1 0 0,.ref 1 0 3,uU,.row 6 m,tPair.lst (dedupP l),.list 1 1 (litC 1 1 [tPair.lst (dedupP l)]),.row 3 (A.length+1),.ref 1 0 0,.ref 1 0 3,uU,uU],[.gone,.cells [tBody.lst b.bodies,tstr.lst b.heads,tLine.lst b.lines,.row 3 (A.length+1)],.rows 162 3 5 formsC,.rows 30 1 (A.length+1) (rowsRev (tlist tPair) ((dedupP l)::A)),.cells [iI d0,iI d1,iI d2,iI d3,iI d4,iI d5,iI d6],.gone,.gone],[]⟩)) (by kernel_rfl) ?_
  simp only[DT.holds];repeat' (first|exact rfl|refine And.intro ?_ ?_)
  all_goals simp
inductive P88
 |e
 |l0 (x0_28:Int) (a0_3:List (List Pair))
inductive R88
 |r0 (r1:Int)
 |r1 (r0_0:List Body) (r0_1:List ByteArray) (r0_2:List Line) (r0_3:List (List Pair)) (r1:Int)
def T88(b:Book):P88->Tr P88 R88
 |.e=>let c1:=bookCheck b;(.call 16 [.agg (cC b)] (.tuple [iI (c1.1),iI (c1.2.1),iI (c1.2.2)]) true true (.br (c1.2.2 !=(0:Int)) (.out (.r0 (c1.2.2))) (.call 106 [] (.arr 3 5 formsC) true true (.wait 2 (.drop ⟨[uU,.nil,uU,uU,uU,uU,uU,.nil,.nil,uU,uU,uU,uU,uU,uU,uU,uU,uU,uU,uU,uU,uU,uU,uU,uU,uU,uU,uU,uU,uU,uU,uU,uU,uU,uU,uU,uU,uU,uU,uU,uU,uU,uU,uU,uU,uU,uU,uU,uU,uU,uU,uU,uU,uU],[.void,.void,.void],[]⟩ (.over (regionF Tryz.f88 6) ⟨[uU,.ref 0 0 0,uU,uU,uU,uU,uU,.ref 1 0 0,.ref 2 0 0,uU,uU,uU,uU,uU,uU,uU,uU,uU,uU,uU,uU,uU,uU,uU,uU,uU,uU,uU,uU,uU,uU,uU,uU,uU,uU,uU,uU,uU,uU,uU,uU,uU,uU,uU,uU,uU,uU,uU,uU,uU,uU,uU,uU,uU],[.cells (cC b),.cells [tBody.lst b.bodies,tstr.lst b.heads,tLine.lst b.lines,.nils],.rows 162 3 5 formsC],[]⟩ .normal ⟨[uU,.ref 0 0 0,uU,uU,uU,uU,uU,.ref 1 0 0,.ref 2 0 0,uU,uU,uU,uU,uU,uU,uU,uU,uU,uU,uU,uU,uU,uU,uU,uU,.ref 0 0 2,tLine.lst b.lines,iI (b.lines.length:Int),iI 0,uU,uU,uU,uU,uU,uU,uU,uU,uU,uU,uU,uU,uU,uU,uU,uU,uU,uU,uU,uU,uU,uU,uU,uU,uU],[.cells (cC b),.cells [tBody.lst b.bodies,tstr.lst b.heads,tLine.lst b.lines,.row 3 0],.rows 162 3 5 formsC,.rows 30 1 0 (rowsRev (tlist tPair) ([]))],[]⟩ true (.go (.l0 0 ([])))))))))
 |.l0 x0_28 a0_3=>let c1:=b.lines.getD (x0_28).toNat tLine.zero;let c4:List V:=[uU,uU,uU,uU,uU,uU,uU,.nil,.nil,uU,uU,.nil,uU,uU,uU,uU,uU,uU,uU,uU,uU,uU,uU,uU,uU,uU,.nil,.nil,.nil,uU,uU,uU,uU,uU,uU,uU,uU,uU,uU,uU,uU,uU,uU,uU,uU,uU,uU,uU,uU,uU,uU,uU,uU,uU];let c5:=isortN (pairsP c1) (pairsP c1).length;let c6:=rowsRev (tlist tPair) a0_3;let c7:List V:=[iI (c1.day),iI 4,iI (c1.a),iI (c1.b),iI (c1.c),iI (c1.d),iI (c1.set)];let c8:List V:=[iI (c1.day),iI 3,iI (c1.a),iI (c1.b),iI (c1.c),iI (c1.d),iI (c1.set)];let c9:List V:=[iI (c1.day),iI 2,iI (c1.a),iI (c1.b),iI (c1.c),iI (c1.d),iI (c1.set)];let c10:List V:=[iI (c1.day),iI 1,iI (c1.a),iI (c1.b),iI (c1.c),iI (c1.d),iI (c1.set)];let c11:List V:=[iI (c1.day),iI 0,iI (c1.a),iI (c1.b),iI (c1.c),iI (c1.d),iI (c1.set)];let c12:=(pairsP c1).length;let c3:List V:=[uU,uU,uU,uU,uU,uU,uU,.ref 1 0 0,.ref 2 0 0,uU,uU,.row 6 c12,uU,uU,uU,uU,uU,uU,uU,uU,uU,uU,uU,uU,uU,uU,tLine.lst b.lines,iI (b.lines.length:Int),iI x0_28,uU,uU,uU,uU,uU,uU,uU,uU,uU,uU,uU,uU,uU,uU,uU,uU,uU,uU,uU,uU,uU,uU,uU,uU,uU];let c13:Tr P88 R88:=.need (inR .i64 (x0_28+(1:Int))) (.go (.l0 (x0_28+(1:Int)) ((dedupP c5)::a0_3)));let c14:List V:=[iI (c1.day),iI (c1.kind),iI (c1.a),iI (c1.b),iI (c1.c),iI (c1.d),iI (c1.set)];let c15:=rowsOf tPair (pairsP c1);let c16:List Blk:=[.gone,.cells [tBody.lst b.bodies,tstr.lst b.heads,tLine.lst b.lines,.row 3 a0_3.length],.rows 162 3 5 formsC,.rows 30 1 a0_3.length c6,.cells c11,.gone,.rows 95 2 c12 (rowsOf tPair c5)];let c17:List Blk:=[.gone,.cells [tBody.lst b.bodies,tstr.lst b.heads,tLine.lst b.lines,.row 3 a0_3.length],.rows 162 3 5 formsC,.rows 30 1 a0_3.length c6,.cells c10,.gone,.rows 95 2 c12 (rowsOf tPair c5)];let c18:List Blk:=[.gone,.cells [tBody.lst b.bodies,tstr.lst b.heads,tLine.lst b.lines,.row 3 a0_3.length],.rows 162 3 5 formsC,.rows 30 1 a0_3.length c6,.cells c9,.gone,.rows 95 2 c12 (rowsOf tPair c5)];let c19:List Blk:=[.gone,.cells [tBody.lst b.bodies,tstr.lst b.heads,tLine.lst b.lines,.row 3 a0_3.length],.rows 162 3 5 formsC,.rows 30 1 a0_3.length c6,.cells c8,.gone,.rows 95 2 c12 (rowsOf tPair c5)];let c20:List Blk:=[.gone,.cells [tBody.lst b.bodies,tstr.lst b.heads,tLine.lst b.lines,.row 3 a0_3.length],.rows 162 3 5 formsC,.rows 30 1 a0_3.length c6,.cells c7,.gone,.rows 95 2 c12 (rowsOf tPair c5)];let c21:List Blk:=[.void,.void,.void,.void,.void,.void,.void];let c22:List Blk:=[.gone,.cells [tBody.lst b.bodies,tstr.lst b.heads,tLine.lst b.lines,.row 3 a0_3.length],.rows 162 3 5 formsC,.rows 30 1 a0_3.length c6,.cells c11,.gone,.rows 95 2 c12 c15];let c23:List Blk:=[.gone,.cells [tBody.lst b.bodies,tstr.lst b.heads,tLine.lst b.lines,.row 3 a0_3.length],.rows 162 3 5 formsC,.rows 30 1 a0_3.length c6,.cells c10,.gone,.rows 95 2 c12 c15];let c24:List Blk:=[.gone,.cells [tBody.lst b.bodies,tstr.lst b.heads,tLine.lst b.lines,.row 3 a0_3.length],.rows 162 3 5 formsC,.rows 30 1 a0_3.length c6,.cells c9,.gone,.rows 95 2 c12 c15];let c25:List Blk:=[.gone,.cells [tBody.lst b.bodies,tstr.lst b.heads,tLine.lst b.lines,.row 3 a0_3.length],.rows 162 3 5 formsC,.rows 30 1 a0_3.length c6,.cells c8,.gone,.rows 95 2 c12 c15];let c26:List Blk:=[.gone,.cells [tBody.lst b.bodies,tstr.lst b.heads,tLine.lst b.lines,.row 3 a0_3.length],.rows 162 3 5 formsC,.rows 30 1 a0_3.length c6,.cells c7,.gone,.rows 95 2 c12 c15];let c27:=rowsRev (tlist tPair) ((dedupP c5)::a0_3);let c28:=a0_3.length+1;let c2:List V:=[uU,uU,uU,uU,uU,uU,uU,.ref 1 0 0,.ref 2 0 0,uU,uU,.row 6 c12,uU,uU,uU,uU,uU,uU,uU,uU,uU,uU,uU,uU,uU,uU,tLine.lst b.lines,iI (b.lines.length:Int),iI x0_28,uU,uU,uU,uU,uU,uU,uU,uU,uU,uU,uU,uU,.ref 1 0 0,.ref 1 0 0,.ref 1 0 0,.ref 1 0 3,uU,.row 6 c12,tPair.lst (dedupP c5),.list 1 1 (litC 1 1 [tPair.lst (dedupP c5)]),.row 3 c28,.ref 1 0 0,.ref 1 0 3,uU,uU];let c29:=regionOf Tryz.f88 11;let c30:List V:=[.row 6 c12,fF 118];let c31:V:=.row 6 c12;let c32:=x0_28<(b.lines.length:Int);(.br (decide c32) (.need (decide (0<=x0_28)&&decide c32) (.wait 1 (.cas (decide (c1.kind=0)) (.telc 4 c14 c11 (.front [] [] (((decide (0<=(0:Int))&&decide ((0:Int)<(5:Int)))&&((decide (((0:Int)).toNat<5)&&decide (2<3))&&true))&&true) true (.hcall 123 [.agg c11] c31 [.gone,.cells [tBody.lst b.bodies,tstr.lst b.heads,tLine.lst b.lines,.row 3 a0_3.length],.rows 162 3 5 formsC,.rows 30 1 a0_3.length c6,.cells c11] c22 true (.hcall 117 c30 (.tuple []) c22 c16 true (.drop ⟨c4,c21,[]⟩ (.over c29 ⟨c3,c16,[]⟩ .normal ⟨c2,[.gone,.cells [tBody.lst b.bodies,tstr.lst b.heads,tLine.lst b.lines,.row 3 c28],.rows 162 3 5 formsC,.rows 30 1 c28 c27,.cells c11,.gone,.gone],[]⟩ true c13)))))) (.cas (decide (c1.kind=1)) (.telc 4 c14 c10 (.front [] [] (((decide (0<=(1:Int))&&decide ((1:Int)<(5:Int)))&&((decide (((1:Int)).toNat<5)&&decide (2<3))&&true))&&true) true (.hcall 125 [.agg c10] c31 [.gone,.cells [tBody.lst b.bodies,tstr.lst b.heads,tLine.lst b.lines,.row 3 a0_3.length],.rows 162 3 5 formsC,.rows 30 1 a0_3.length c6,.cells c10] c23 true (.hcall 117 c30 (.tuple []) c23 c17 true (.drop ⟨c4,c21,[]⟩ (.over c29 ⟨c3,c17,[]⟩ .normal ⟨c2,[.gone,.cells [tBody.lst b.bodies,tstr.lst b.heads,tLine.lst b.lines,.row 3 c28],.rows 162 3 5 formsC,.rows 30 1 c28 c27,.cells c10,.gone,.gone],[]⟩ true c13)))))) (.cas (decide (c1.kind=2)) (.telc 4 c14 c9 (.front [] [] (((decide (0<=(2:Int))&&decide ((2:Int)<(5:Int)))&&((decide (((2:Int)).toNat<5)&&decide (2<3))&&true))&&true) true (.hcall 126 [.agg c9] c31 [.gone,.cells [tBody.lst b.bodies,tstr.lst b.heads,tLine.lst b.lines,.row 3 a0_3.length],.rows 162 3 5 formsC,.rows 30 1 a0_3.length c6,.cells c9] c24 true (.hcall 117 c30 (.tuple []) c24 c18 true (.drop ⟨c4,c21,[]⟩ (.over c29 ⟨c3,c18,[]⟩ .normal ⟨c2,[.gone,.cells [tBody.lst b.bodies,tstr.lst b.heads,tLine.lst b.lines,.row 3 c28],.rows 162 3 5 formsC,.rows 30 1 c28 c27,.cells c9,.gone,.gone],[]⟩ true c13)))))) (.cas (decide (c1.kind=3)) (.telc 4 c14 c8 (.front [] [] (((decide (0<=(3:Int))&&decide ((3:Int)<(5:Int)))&&((decide (((3:Int)).toNat<5)&&decide (2<3))&&true))&&true) true (.hcall 122 [.agg c8] c31 [.gone,.cells [tBody.lst b.bodies,tstr.lst b.heads,tLine.lst b.lines,.row 3 a0_3.length],.rows 162 3 5 formsC,.rows 30 1 a0_3.length c6,.cells c8] c25 true (.hcall 117 c30 (.tuple []) c25 c19 true (.drop ⟨c4,c21,[]⟩ (.over c29 ⟨c3,c19,[]⟩ .normal ⟨c2,[.gone,.cells [tBody.lst b.bodies,tstr.lst b.heads,tLine.lst b.lines,.row 3 c28],.rows 162 3 5 formsC,.rows 30 1 c28 c27,.cells c8,.gone,.gone],[]⟩ true c13)))))) (.cas (decide (c1.kind=4)) (.telc 4 c14 c7 (.front [] [] (((decide (0<=(4:Int))&&decide ((4:Int)<(5:Int)))&&((decide (((4:Int)).toNat<5)&&decide (2<3))&&true))&&true) true (.hcall 122 [.agg c7] c31 [.gone,.cells [tBody.lst b.bodies,tstr.lst b.heads,tLine.lst b.lines,.row 3 a0_3.length],.rows 162 3 5 formsC,.rows 30 1 a0_3.length c6,.cells c7] c26 true (.hcall 117 c30 (.tuple []) c26 c20 true (.drop ⟨c4,c21,[]⟩ (.over c29 ⟨c3,c20,[]⟩ .normal ⟨c2,[.gone,.cells [tBody.lst b.bodies,tstr.lst b.heads,tLine.lst b.lines,.row 3 c28],.rows 162 3 5 formsC,.rows 30 1 c28 c27,.cells c7,.gone,.gone],[]⟩ true c13)))))) .never))))))) (.out (.r1 b.bodies b.heads b.lines a0_3 0)))
noncomputable def g88(b:Book):P88->List Item × St
 |.e=>bd Tryz.f88 [.agg (cC b)] 53
 |.l0 x0_28 a0_3=>(cutOf Tryz.f88 0,⟨mk 54 [(7,.ref 1 0 0),(8,.ref 2 0 0),(26,tLine.lst b.lines),(27,iI (b.lines.length:Int)),(28,iI x0_28)],[.gone,.cells [tBody.lst b.bodies,tstr.lst b.heads,tLine.lst b.lines,.row 3 a0_3.length],.rows 162 3 5 formsC,.rows 30 1 a0_3.length (rowsRev (tlist tPair) a0_3)],[]⟩)
def n88:R88->Exit × St
 |.r0 r1=>(.ret,⟨mk 54 [(2,.nil),(3,iI r1)],[],[]⟩)
 |.r1 r0_0 r0_1 r0_2 r0_3 r1=>(.ret,⟨mk 54 [(2,.ref 1 0 0),(3,iI r1)],[.gone,.cells [tBody.lst r0_0,tstr.lst r0_1,tLine.lst r0_2,.row 3 r0_3.length],.gone,.rows 30 1 r0_3.length (rowsRev (tlist tPair) r0_3)],[]⟩)
def v88:R88->V
 |.r0 r1=>.tuple [.nil,iI r1]
 |.r1 r0_0 r0_1 r0_2 r0_3 r1=>.tuple [.cref 4 fun q=>([tBody.lst r0_0,tstr.lst r0_1,tLine.lst r0_2,(tlist tPair).lst r0_3.reverse]:List V).getD q uU,iI r1]
theorem s88(b:Book):Sm 0 (g88 b) (T88 b) (n88)
 |.e=>⟨400,by kernel_rfl⟩
 |.l0 _ _=>⟨400,by kernel_rfl⟩
theorem q88:∀r,bodyQ Tryz.prog Tryz.f88 (·=v88 r) (n88 r).1 (n88 r).2
 |.r0 r1=>bq (.tuple [.nil,iI r1]) (by kernel_rfl)
 |.r1 r0_0 r0_1 r0_2 r0_3 r1=>⟨.inr rfl,by simp[n88],(.tuple [.ref 1 0 0,iI r1]),(.tuple [.cref 4 fun q=>([tBody.lst r0_0,tstr.lst r0_1,tLine.lst r0_2,(tlist tPair).lst r0_3.reverse]:List V).getD q uU,iI r1]),by kernel_rfl,(.tuple rfl fun j hj=>match j,hj with|0,_=>.weak (.ref (n:=4) rfl (Nat.le_refl _) (by intro j hj;match j,hj with|0,_=>exact .imm rfl|1,_=>exact .imm rfl|2,_=>exact .imm rfl|3,_=>exact .weak (.row rfl (Nat.le_refl _)) (VLe.rev (tlist tPair) r0_3))) (VLe.refl _)|1,_=>.imm rfl),rfl⟩
theorem w88(b:Book){post:V->Prop}(h:WQ (T88 b) v88 post .e):PC 88 [.agg (cC b)] post:=
 PCalls.wq Tryz.func88 (s88 b) q88 h
theorem ov88_6(b:Book):AWP Tryz.prog ⟨none,0⟩ (regionF Tryz.f88 6) ⟨[uU,.ref 0 0 0,uU,uU,uU,uU,uU,.ref 1 0 0,.ref 2 0 0,uU,uU,uU,uU,uU,uU,uU,uU,uU,uU,uU,uU,uU,uU,uU,uU,uU,uU,uU,uU,uU,uU,uU,uU,uU,uU,uU,uU,uU,uU,uU,uU,uU,uU,uU,uU,uU,uU,uU,uU,uU,uU,uU,uU,uU],[.cells (cC b),.cells [tBody.lst b.bodies,tstr.lst b.heads,tLine.lst b.lines,.nils],.rows 162 3 5 formsC],[]⟩ (fun e T=>e=.normal/\T=⟨[uU,.ref 0 0 0,uU,uU,uU,uU,uU,.ref 1 0 0,.ref 2 0 0,uU,uU,uU,uU,uU,uU,uU,uU,uU,uU,uU,uU,uU,uU,uU,uU,.ref 0 0 2,tLine.lst b.lines,iI (b.lines.length:Int),iI 0,uU,uU,uU,uU,uU,uU,uU,uU,uU,uU,uU,uU,uU,uU,uU,uU,uU,uU,uU,uU,uU,uU,uU,uU,uU],[.cells (cC b),.cells [tBody.lst b.bodies,tstr.lst b.heads,tLine.lst b.lines,.row 3 0],.rows 162 3 5 formsC,.rows 30 1 0 (rowsRev (tlist tPair) ([]))],[]⟩):=by
 refine AWP.ownCell (i:=1) (j:=3) (n:=1) 30 (rowsRev (tlist tPair) []) rfl rfl (by decide) (AWP.region (AOps.tree (g:=(.done .normal ⟨[uU,.ref 0 0 0,uU,uU,uU,uU,uU,.ref 1 0 0,.ref 2 0 0,uU,uU,uU,uU,uU,uU,uU,uU,uU,uU,uU,uU,uU,uU,uU,uU,.ref 0 0 2,tLine.lst b.lines,iI (b.lines.length:Int),iI 0,uU,uU,uU,uU,uU,uU,uU,uU,uU,uU,uU,uU,uU,uU,uU,uU,uU,uU,uU,uU,uU,uU,uU,uU,uU],[.cells (cC b),.cells [tBody.lst b.bodies,tstr.lst b.heads,tLine.lst b.lines,.row 3 0],.rows 162 3 5 formsC,.rows 30 1 0 (rowsRev (tlist tPair) ([]))],[]⟩)) (by kernel_rfl) ?_));simp only[DT.holds,true_and]
def lookOf(b:Book):Look:=⟨b,b.lines.map pairsR⟩
abbrev lk(x:Look):V:=.cref 4 fun q=>(tLook.cells x).getD q uU
theorem kfX{f:Nat}{x:Line}{k:Int}(hk:x.kind=k)(h:HCalls Tryz.prog f [.agg (tLine.cells x)] (.row 1 (pairsP x).length) [] [.gone,.rows 95 2 (pairsP x).length (rowsOf tPair (pairsP x))])(h0:List Blk):
  HCalls Tryz.prog f [.agg [iI x.day,iI k,iI x.a,iI x.b,iI x.c,iI x.d,iI x.set]] (.row (1+h0.length) (pairsP x).length) h0 (h0++ [.gone,.rows 95 2 (pairsP x).length (rowsOf tPair (pairsP x))]):=by
 rw[cells_kind x hk]at h;exact h.frame rfl rfl h0
set_option maxHeartbeats 4000000 in
theorem c88y(b:Book)(h0:(bookCheck b).2.2=0):PC 88 [.agg (tBook.cells b)] (·=.tuple [lk (lookOf b),iI 0]):=by
 have hok:=okBook h0;have hnl:=hok.nl;have hnb:=hok.nb;have k16:=c16 b;rw[h0]at k16;have ko6:=ov88_6 b
 have hmain:WP Tryz.prog ⟨none,0⟩ (T88 b) (Ends' fun r=>v88 r=.tuple [lk (lookOf b),iI 0]) (.l0 0 []):=by
  refine WP.run (fun i=>.l0 (i:Int) ((b.lines.take i).map pairsR).reverse) rfl b.lines.length (fun i hi=> ?_) ?_
  ·have hr:inR .i64 ((i:Int)+1)=true:=inR64 (by omega) (by omega);have hi':(i:Int)<b.lines.length:=by omega
   have hline:=hok.line hi;have hnx:((b.lines.take (i+1)).map pairsR).reverse=pairsR (b.lines.getD i zLine)::((b.lines.take i).map pairsR).reverse:=by rw[take_snoc zLine _ i hi];simp
   have hAl:((b.lines.take i).map pairsR).reverse.length+1<=4294967296:=by simp;omega
   rw[hnx];obtain⟨⟨p1,p2⟩,p3,p4⟩:=pairs_come hline hnb;have hkr:=hline.kind;generalize((b.lines.take i).map pairsR).reverse=A at*
   generalize hX:b.lines.getD i zLine=X at*
   have k117:=fun h q hq=>c117at (pairsP X).length (pairsP X) rfl p1 (by omega) h q hq;have k119:=fun h q hq ho=>c119at (pairsP X).length (sortedP X) (sortedP_len X) p1 (by omega) p3 h q hq ho;rw[p4]at k119;have es:isortN (pairsP X) (pairsP X).length=sortedP X:=rfl;have kov:=fun io d0 d1 d2 d3 d4 d5 d6=>ov88_11 b A (pairsP X).length (sortedP X) io d0 d1 d2 d3 d4 d5 d6 (by rw[p4];exact k119 _ 6 rfl rfl) hAl
   rw[p4]at kov;rcases show X.kind=0\/X.kind=1\/X.kind=2\/X.kind=3\/X.kind=4 by omega with hk|hk|hk|hk|hk
   ·have kf:=fun h=>kfX hk (c123 X hk) h;refine WP.once ?_;simp only[T88,Tr.sure,SS,hi',hX,z5,hk,es,p4];repeat' with_reducible first|intro _|apply aI
    all_goals first|exact(kf _)|exact(k117 _ 6 rfl)|exact(kov _ _ _ _ _ _ _ _)|exact(by with_reducible exact VLe.refl _)|(simp[hr,hAl,es,p4,Go,Ends',v88,-List.getD_eq_getElem?_getD, *];done)
   ·have kf:=fun h=>kfX hk (c125 X hk) h;refine WP.once ?_;simp only[T88,Tr.sure,SS,hi',hX,z5,hk,es,p4];repeat' with_reducible first|intro _|apply aI
    all_goals first|exact(kf _)|exact(k117 _ 6 rfl)|exact(kov _ _ _ _ _ _ _ _)|exact(by with_reducible exact VLe.refl _)|(simp[hr,hAl,es,p4,Go,Ends',v88,-List.getD_eq_getElem?_getD, *];done)|(simp_all [hr,hAl,es,p4,Go,Ends',v88,-List.getD_eq_getElem?_getD];done)
   ·have hp:=pow2s hnb;have hset:=(hline.set hk).1;have kf:=fun h=>kfX hk (c126 X hk ⟨hset.1,by omega⟩) h;refine WP.once ?_;simp only[T88,Tr.sure,SS,hi',hX,z5,hk,es,p4];repeat' with_reducible first|intro _|apply aI
    all_goals first|exact(kf _)|exact(k117 _ 6 rfl)|exact(kov _ _ _ _ _ _ _ _)|exact(by with_reducible exact VLe.refl _)|(simp[hr,hAl,es,p4,Go,Ends',v88,-List.getD_eq_getElem?_getD, *];done)|(simp_all [hr,hAl,es,p4,Go,Ends',v88,-List.getD_eq_getElem?_getD];done)
   ·have kf:=fun h=>kfX hk (c122 X (.inl hk)) h;refine WP.once ?_;simp only[T88,Tr.sure,SS,hi',hX,z5,hk,es,p4];repeat' with_reducible first|intro _|apply aI
    all_goals first|exact(kf _)|exact(k117 _ 6 rfl)|exact(kov _ _ _ _ _ _ _ _)|exact(by with_reducible exact VLe.refl _)|(simp[hr,hAl,es,p4,Go,Ends',v88,-List.getD_eq_getElem?_getD, *];done)|(simp_all [hr,hAl,es,p4,Go,Ends',v88,-List.getD_eq_getElem?_getD];done)
   ·have kf:=fun h=>kfX hk (c122 X (.inr hk)) h;refine WP.once ?_;simp only[T88,Tr.sure,SS,hi',hX,z5,hk,es,p4];repeat' with_reducible first|intro _|apply aI
    all_goals first|exact(kf _)|exact(k117 _ 6 rfl)|exact(kov _ _ _ _ _ _ _ _)|exact(by with_reducible exact VLe.refl _)|(simp[hr,hAl,es,p4,Go,Ends',v88,-List.getD_eq_getElem?_getD, *];done)|(simp_all [hr,hAl,es,p4,Go,Ends',v88,-List.getD_eq_getElem?_getD];done)
  ·have e:((b.lines.take b.lines.length).map pairsR).reverse.reverse=b.lines.map pairsR:=by rw[List.reverse_reverse,List.take_length]
   have e2:(lookOf b).pairs=b.lines.map pairsR:=rfl;have e3:(lookOf b).b=b:=rfl;generalize hA:((b.lines.take b.lines.length).map pairsR).reverse=A at*
   refine WP.step ?_;simp only[T88,Tr.sure,Int.lt_irrefl,decide_false,Bool.false_eq_true,false_imp_iff,true_and,true_imp_iff];show v88 _=_;unfold v88 lookOf;rw[<-e];rfl
 refine w88 _ (WP.step ?_);simp only[T88,Go,Ends',v88,Tr.sure,SS,h0];repeat' with_reducible first|intro _|apply aI
 all_goals first|exact k16|exact c106|exact(by with_reducible exact ko6)|exact hmain
theorem c88n(b:Book)(h0:(bookCheck b).2.2≠0):PC 88 [.agg (tBook.cells b)] (·=.tuple [.nil,iI (bookCheck b).2.2]):=by
 have k16:=c16 b;refine w88 _ (WP.step ?_);simp only[T88,Go,Ends',v88,Tr.sure,SS,h0];repeat' with_reducible first|intro _|apply aI
 all_goals exact k16
end
noncomputable section
def tHave:Ty (Nat->Int):=⟨5,fun f=>[iI (f 0),iI (f 1),iI (f 2),iI (f 3),iI (f 4)],fun _=>0⟩
def fn5(a b c d e:Int):Nat->Int:=fun i=>([a,b,c,d,e]:List Int).getD i 0
def yV(n:Nat)(P:List Pair)(H:List (Nat->Int)):V:=.tuple [.agg [.list 2 n (rowsOf tPair P),.list 5 (n+1) (rowsOf tHave H)]]
abbrev St3:=(List Pair × List (Nat->Int)) × List V
abbrev yIn(X:Ext)(n:Nat)(x:Look)(but:Int)(tr:List V)(P:List Pair)(H:List (Nat->Int)):St:=⟨[uU,uU,.ref 1 0 0,.ref 4 0 0,uU,uU,uU,uU,uU,uU,uU,uU,uU,uU,uU,uU,uU,uU,uU,uU,uU,uU,uU,uU,uU,uU,uU,uU,uU,uU,uU,uU,uU,uU,uU,uU,uU,uU,uU,uU,uU,uU,uU,uU,uU,uU,uU,uU,uU,uU,uU,uU,uU,uU,uU,uU,uU,uU,uU,uU,uU,uU,uU,uU,uU,uU,uU,uU,uU,uU,uU,uU,uU,uU,uU,uU,uU,uU,uU,uU,uU,uU,uU,uU,uU,uU,uU,uU,uU,uU,uU,uU,uU,uU,uU,uU,uU,uU,uU,uU,uU,uU,uU,uU,uU,uU,uU,uU,uU,uU,uU,uU,uU,uU],[.ext X tr,.cells [.yld 0],.rows 95 2 n (rowsOf tPair P),.rows 128 5 (n+1) (rowsOf tHave H),.cells [.row 2 n,.row 3 (n+1)],.cells [fG 111 [rR (lk x),.ref 1 0 0,.ref 4 0 0,rR (iI but),.ref 5 0 0]]],[]⟩
abbrev yOut(X:Ext)(n:Nat)(x:Look)(but:Int)(tr:List V)(P:List Pair)(H:List (Nat->Int)):St:=⟨[uU,uU,.ref 1 0 0,.ref 4 0 0,uU,uU,uU,.bool (X.go (tr++ [yV n P H])),uU,uU,uU,uU,uU,uU,uU,uU,uU,uU,uU,uU,uU,.yld 0,.agg [.row 2 n,.row 3 (n+1)],.bool (X.go (tr++ [yV n P H])),uU,uU,uU,uU,uU,uU,uU,uU,uU,uU,uU,uU,uU,uU,uU,uU,uU,uU,uU,uU,uU,uU,uU,uU,uU,uU,uU,uU,uU,uU,uU,uU,uU,uU,uU,uU,uU,uU,uU,uU,uU,uU,uU,uU,uU,uU,uU,uU,uU,uU,uU,uU,uU,uU,uU,uU,uU,uU,uU,uU,uU,uU,uU,uU,uU,uU,uU,uU,uU,uU,uU,uU,uU,uU,uU,uU,uU,uU,uU,uU,uU,uU,uU,uU,uU,uU,uU,uU,uU,uU],[.ext X (tr++ [yV n P H]),.cells [.yld 0],.rows 95 2 n (rowsOf tPair P),.rows 128 5 (n+1) (rowsOf tHave H),.cells [.row 2 n,.row 3 (n+1)],.cells [fG 111 [rR (lk x),.ref 1 0 0,.ref 4 0 0,rR (iI but),.ref 5 0 0]]],[]⟩
theorem ovY{X:Ext}(hY:YSpecL Tryz.prog X)(n:Nat)(x:Look)(but:Int)(tr:List V)(P:List Pair)(H:List (Nat->Int))(hg:X.go tr=true)(hp:tr++ [yV n P H]<+:X.ys):
  AWP Tryz.prog ⟨none,6⟩ (regionF Tryz.f111 2) (yIn X n x but tr P H) (fun e T=>e=.normal/\T=yOut X n x but tr P H):=by
 refine AWP.region ?_;have hsz:List.range ((regOf 2 (Tryz.f111.body.getD .skip)).getD #[]).size=[0,1,2,3]:=by kernel_rfl
 rw[hsz]
 obtain⟨ops,hops⟩:∃ops,ops=(regOf 2 (Tryz.f111.body.getD .skip)).getD #[]:=⟨_,rfl⟩
 rw[<-hops];have s0:∀S:St,S.put (ops.getD 0 default).dst (.yld 0)={S with t:=S.t.set 21 (.yld 0)}:=fun S=>by rw[hops];rfl
 have s1:∀S:St,S.put (ops.getD 1 default).dst (.agg [.row 2 n,.row 3 (n+1)])={S with t:=S.t.set 22 (.agg [.row 2 n,.row 3 (n+1)])}:=fun S=>by rw[hops];rfl
 have s2:∀(S:St) (c:Bool),S.put (ops.getD 2 default).dst (.bool c)={S with t:=S.t.set 23 (.bool c)}:=fun S c=>by rw[hops];rfl
 have s3:∀(S:St) (c:Bool),S.put (ops.getD 3 default).dst (.bool c)={S with t:=S.t.set 7 (.bool c)}:=fun S c=>by rw[hops];rfl
 refine AOps.step (o:=ops.getD 0 default) (v:=.yld 0) (h':=(yIn X n x but tr P H).h) (by rw[hops];kernel_rfl) (by rw[hops];kernel_rfl) (by rw[hops];kernel_rfl) (fun j hj=>rfl) ?_;rw[s0];refine AOps.step (o:=ops.getD 1 default) (v:=.agg [.row 2 n,.row 3 (n+1)]) (h':=(yIn X n x but tr P H).h) (by rw[hops];kernel_rfl) (by rw[hops];kernel_rfl) (by rw[hops];kernel_rfl) (fun j hj=>rfl) ?_;rw[s1]
 refine AOps.yieldL (o:=ops.getD 2 default) (fo:=.tmp 21) (args:= #[.tmp 22]) (ts:= #[123]) (q:=0) (X:=X) (tr:=tr) (us:=[.agg [.list 2 n (rowsOf tPair P),.list 5 (n+1) (rowsOf tHave H)]]) (by rw[hops];kernel_rfl) (by rw[hops];kernel_rfl) (by rw[hops];kernel_rfl) rfl rfl rfl (fun j hj=> ?_) hg hp hY rfl (fun j hj=>by simp at hj) ?_
 ·have:j=0:=by simp at hj;omega
  subst this;refine .agg (vs:=[.row 2 n,.row 3 (n+1)]) rfl fun q hq=> ?_;have hq2:q<2:=hq;rcases show q=0\/q=1 by omega with rfl|rfl
  ·exact .row (e:=95) (m:=n) rfl (Nat.le_refl _)
  ·exact .row (e:=128) (m:=n+1) rfl (Nat.le_refl _)
 rw[s2];refine AOps.step (o:=ops.getD 3 default) (v:=.bool (X.go (tr++ [yV n P H]))) (h':=(yOut X n x but tr P H).h) (by rw[hops];kernel_rfl) (by rw[hops];kernel_rfl) (by rw[hops];kernel_rfl) (fun j hj=>rfl) ?_;rw[s3];exact AOps.nil ⟨rfl,rfl⟩
inductive P111
 |e
 |l0 (x0_40:Int) (e0_0:List V) (a0_2:List Pair) (a0_3:List (Nat->Int))
inductive R111
 |r0 (r0:List V) (r1:List Pair) (r2:List (Nat->Int)) (r3:Bool)
def T111(X:Ext)(n:Nat)(x:Look)(but:Int)(nx:Int->St3->St3)(tr:List V)(P:List Pair)(H:List (Nat->Int))(ln:Nat):P111->Tr P111 R111
 |.e=>let c1:List V:=[fG 111 [rR (lk x),.ref 1 0 0,.ref 4 0 0,rR (iI but),.ref 5 0 0]];let c2:=tr++ [yV n P H];let c3:List V:=[.row 2 n,.row 3 (n+1)];(.br ((ln:Int)==(x.b.lines.length:Int)) (.wait 1 (.drop ⟨[uU,uU,.nil,.nil,uU,uU,uU,uU,uU,uU,uU,uU,uU,uU,uU,uU,uU,uU,uU,uU,uU,uU,uU,uU,uU,uU,uU,uU,uU,uU,uU,uU,uU,uU,uU,uU,uU,uU,uU,uU,uU,uU,uU,uU,uU,uU,uU,uU,uU,uU,uU,uU,uU,uU,uU,uU,uU,uU,uU,uU,uU,uU,uU,uU,uU,uU,uU,uU,uU,uU,uU,uU,uU,uU,uU,uU,uU,uU,uU,uU,uU,uU,uU,uU,uU,uU,uU,uU,uU,uU,uU,uU,uU,uU,uU,uU,uU,uU,uU,uU,uU,uU,uU,uU,uU,uU,uU,uU,uU,uU,uU,uU,uU,uU],[.void,.void,.void,.void,.void,.void],[]⟩ (.over (regionF Tryz.f111 2) ⟨[uU,uU,.ref 1 0 0,.ref 4 0 0,uU,uU,uU,uU,uU,uU,uU,uU,uU,uU,uU,uU,uU,uU,uU,uU,uU,uU,uU,uU,uU,uU,uU,uU,uU,uU,uU,uU,uU,uU,uU,uU,uU,uU,uU,uU,uU,uU,uU,uU,uU,uU,uU,uU,uU,uU,uU,uU,uU,uU,uU,uU,uU,uU,uU,uU,uU,uU,uU,uU,uU,uU,uU,uU,uU,uU,uU,uU,uU,uU,uU,uU,uU,uU,uU,uU,uU,uU,uU,uU,uU,uU,uU,uU,uU,uU,uU,uU,uU,uU,uU,uU,uU,uU,uU,uU,uU,uU,uU,uU,uU,uU,uU,uU,uU,uU,uU,uU,uU,uU],[.ext X tr,.cells [.yld 0],.rows 95 2 n (rowsOf tPair P),.rows 128 5 (n+1) (rowsOf tHave H),.cells c3,.cells c1],[]⟩ .normal ⟨[uU,uU,.ref 1 0 0,.ref 4 0 0,uU,uU,uU,.bool (X.go c2),uU,uU,uU,uU,uU,uU,uU,uU,uU,uU,uU,uU,uU,.yld 0,.agg c3,.bool (X.go c2),uU,uU,uU,uU,uU,uU,uU,uU,uU,uU,uU,uU,uU,uU,uU,uU,uU,uU,uU,uU,uU,uU,uU,uU,uU,uU,uU,uU,uU,uU,uU,uU,uU,uU,uU,uU,uU,uU,uU,uU,uU,uU,uU,uU,uU,uU,uU,uU,uU,uU,uU,uU,uU,uU,uU,uU,uU,uU,uU,uU,uU,uU,uU,uU,uU,uU,uU,uU,uU,uU,uU,uU,uU,uU,uU,uU,uU,uU,uU,uU,uU,uU,uU,uU,uU,uU,uU,uU,uU,uU],[.ext X c2,.cells [.yld 0],.rows 95 2 n (rowsOf tPair P),.rows 128 5 (n+1) (rowsOf tHave H),.cells c3,.cells c1],[]⟩ true (.out (.r0 c2 P H (X.go c2)))))) (.need (decide (0<=(ln:Int))&&decide ((ln:Int)<(x.b.lines.length:Int))) (.need (decide (0<=(ln:Int))&&decide ((ln:Int)<(x.pairs.length:Int))) (.go (.l0 0 tr P H)))))
 |.l0 x0_40 e0_0 a0_2 a0_3=>let c6:=(ln:Int)+(1:Int);let c12:=(decide (0<=c6)&&decide (c6<((n+1):Int)))&&decide ((n+1)<=(n+1));let c13:=(decide (0<=(ln:Int))&&decide ((ln:Int)<(n:Int)))&&decide (n<=n);let c21:Tr P111 R111:=.need (inR .i64 (x0_40+(1:Int))) (.go (.l0 (x0_40+(1:Int)) e0_0 a0_2 a0_3));let c23:List V:=[fG 111 [rR (lk x),.ref 1 0 0,.ref 4 0 0,rR (iI but),.ref 5 0 0]];let c27:=rowsOf tPair a0_2;let c28:=rowsOf tHave a0_3;let c31:=(ln:Int);let c1:=(x.pairs.getD c31.toNat (tlist tPair).zero).getD (x0_40).toNat tPair.zero;let c3:=a0_3.getD c31.toNat tHave.zero;let c4:=upd (upd c3 ((c1.a).toNat) (c3 ((c1.b).toNat))) ((c1.b).toNat) (c3 ((c1.a).toNat));let c5:=x.b.lines.getD c31.toNat tLine.zero;let c7:List V:=[iI (c3 0),iI (c3 1),iI (c3 2),iI (c3 3),iI (c3 4)];let c8:=a0_2.set (c31.toNat) c1;let c9:=nx c6 ((c8,(a0_3.set ((c6).toNat) c4)),e0_0);let c10:List V:=[iI (c1.a),iI (c1.b)];let c15:List V:=[iI (c4 0),iI (c4 1),iI (c4 2),iI (c4 3),iI (c4 4)];let c16:=((decide (0<=c5.a)&&decide (c5.a<(5:Int)))&&((decide ((c5.a).toNat<5)&&decide (0<1))&&true))&&true;let c17:=rowsOf tHave (a0_3.set ((c6).toNat) c3);let c18:=(c10:List V);let c11:=(decide (c31.toNat<n)&&decide (0+c18.length<=2))&&underL 0 c18;let c19:=([iI (c3 ((c1.b).toNat))]:List V);let c20:=([iI (c3 ((c1.a).toNat))]:List V);let c22:List V:=[iI (c5.day),iI (c5.kind),iI (c5.a),iI (c5.b),iI (c5.c),iI (c5.d),iI (c5.set)];let c24:=(c7:List V);let c14:=(decide ((c6).toNat<(n+1))&&decide (0+c24.length<=5))&&underL 0 c24;let c25:=x0_40<(((x.pairs.getD c31.toNat (tlist tPair).zero).length):Int);let c26:=rowsOf tPair c8;let c29:= !(((c3 ((c5.a).toNat))==c5.b)==(c5.kind==(3:Int)));let c30:=rowsFn tint (upd c3 ((c1.a).toNat) (c3 ((c1.b).toNat)));let c32:=inR .i64 c6;let c33:=decide (0<=c1.b)&&decide (c1.b<(5:Int));let c34:=decide (0<=c1.a)&&decide (c1.a<(5:Int));let c35:=rowsOf tHave (a0_3.set ((c6).toNat) c4);let c36:=(c15:List V);let c37:Tr P111 R111:=.out (.r0 e0_0 a0_2 a0_3 true);let c38:=rowsFn tint c4;let c39:List V:=[.row 2 n,.row 3 (n+1)];let c2:Tr P111 R111:=.need c32 (.hcall 111 [iI c6,rR (lk x),.ref 1 0 0,.ref 4 0 0,rR (iI but),.ref 5 0 0] (.bool (X.go (nx c6 ((c8,(a0_3.set ((c6).toNat) c3)),e0_0)).2)) [.ext X e0_0,.cells [.yld 0],.rows 95 2 n c26,.rows 128 5 (n+1) c17,.cells c39,.cells c23,.cells c22,.cells c10,.rows 128 1 5 (rowsFn tint c3)] [.ext X ((nx c6 ((c8,(a0_3.set ((c6).toNat) c3)),e0_0)).2),.cells [.yld 0],.rows 95 2 n (rowsOf tPair ((nx c6 ((c8,(a0_3.set ((c6).toNat) c3)),e0_0)).1.1)),.rows 128 5 (n+1) (rowsOf tHave ((nx c6 ((c8,(a0_3.set ((c6).toNat) c3)),e0_0)).1.2)),.cells c39,.cells c23,.cells c22,.cells c10,.rows 128 1 5 (rowsFn tint c3)] true (.br (!(X.go (nx c6 ((c8,(a0_3.set ((c6).toNat) c3)),e0_0)).2)) (.out (.r0 ((nx c6 ((c8,(a0_3.set ((c6).toNat) c3)),e0_0)).2) ((nx c6 ((c8,(a0_3.set ((c6).toNat) c3)),e0_0)).1.1) ((nx c6 ((c8,(a0_3.set ((c6).toNat) c3)),e0_0)).1.2) false)) (.need (inR .i64 (x0_40+(1:Int))) (.go (.l0 (x0_40+(1:Int)) ((nx c6 ((c8,(a0_3.set ((c6).toNat) c3)),e0_0)).2) ((nx c6 ((c8,(a0_3.set ((c6).toNat) c3)),e0_0)).1.1) ((nx c6 ((c8,(a0_3.set ((c6).toNat) c3)),e0_0)).1.2))))));(.br (decide c25) (.need (decide (0<=x0_40)&&decide c25) (.need ((decide (0<=(ln:Int))&&decide ((ln:Int)<((n+1):Int)))&&decide ((n+1)<=(n+1))) (.need (decide (c31.toNat<(n+1))&&decide (0+5<=5)) (.wait 3 (.telb 8 1 5 (fun r j=>c24.getD (r*1+j) uU) (rowsFn tint c3) (.need (decide (0<=(ln:Int))) (.br ((bitsOf .and .i64 (but.fdiv (2^(min c31.toNat 64))) (1:Int))==(1:Int)) (.br (decide (x0_40>(0:Int))) c37 (.need c13 (.need c11 (.telb 2 2 n (fun r' j=>if r'=c31.toNat/\0<=j/\j<0+c18.length then c18.getD (j-0) uU else c27 r' j) c26 (.need c32 (.need c12 (.need c14 (.telb 3 5 (n+1) (fun r' j=>if r'=(c6).toNat/\0<=j/\j<0+c24.length then c24.getD (j-0) uU else c28 r' j) c17 c2)))))))) (.br (c5.kind==(3:Int)) (.lit true (.front [] [] c16 true (.br c29 c21 (.need c13 (.need c11 (.telb 2 2 n (fun r' j=>if r'=c31.toNat/\0<=j/\j<0+c18.length then c18.getD (j-0) uU else c27 r' j) c26 (.need c32 (.need c12 (.need c14 (.telb 3 5 (n+1) (fun r' j=>if r'=(c6).toNat/\0<=j/\j<0+c24.length then c24.getD (j-0) uU else c28 r' j) c17 c2)))))))))) (.br (c5.kind==(4:Int)) (.front [] [] c16 true (.br c29 c21 (.need c13 (.need c11 (.telb 2 2 n (fun r' j=>if r'=c31.toNat/\0<=j/\j<0+c18.length then c18.getD (j-0) uU else c27 r' j) c26 (.need c32 (.need c12 (.need c14 (.telb 3 5 (n+1) (fun r' j=>if r'=(c6).toNat/\0<=j/\j<0+c24.length then c24.getD (j-0) uU else c28 r' j) c17 c2))))))))) (.br (!((c1.a==(0:Int))&&((c1.b==(0:Int))&&true))) (.need c34 (.need (decide ((c1.a).toNat<5)&&decide (0<1)) (.front [] [] ((c33&&((decide ((c1.b).toNat<5)&&decide (0<1))&&true))&&true) true (.need c34 (.need ((decide ((c1.a).toNat<5)&&decide (0+c19.length<=1))&&underL 0 c19) (.telb 8 1 5 (fun r' j=>if r'=(c1.a).toNat/\0<=j/\j<0+c19.length then c19.getD (j-0) uU else(rowsFn tint c3) r' j) c30 (.need c33 (.need ((decide ((c1.b).toNat<5)&&decide (0+c20.length<=1))&&underL 0 c20) (.telb 8 1 5 (fun r' j=>if r'=(c1.b).toNat/\0<=j/\j<0+c20.length then c20.getD (j-0) uU else c30 r' j) c38 (.need c13 (.need c11 (.telb 2 2 n (fun r' j=>if r'=c31.toNat/\0<=j/\j<0+c18.length then c18.getD (j-0) uU else c27 r' j) c26 (.need c32 (.need c12 (.need ((decide ((c6).toNat<(n+1))&&decide (0+c36.length<=5))&&underL 0 c36) (.telb 3 5 (n+1) (fun r' j=>if r'=(c6).toNat/\0<=j/\j<0+c36.length then c36.getD (j-0) uU else c28 r' j) c35 (.need c32 (.hcall 111 [iI c6,rR (lk x),.ref 1 0 0,.ref 4 0 0,rR (iI but),.ref 5 0 0] (.bool (X.go c9.2)) [.ext X e0_0,.cells [.yld 0],.rows 95 2 n c26,.rows 128 5 (n+1) c35,.cells c39,.cells c23,.cells c22,.cells c10,.rows 128 1 5 c38] [.ext X (c9.2),.cells [.yld 0],.rows 95 2 n (rowsOf tPair (c9.1.1)),.rows 128 5 (n+1) (rowsOf tHave (c9.1.2)),.cells c39,.cells c23,.cells c22,.cells c10,.rows 128 1 5 c38] true (.br (!(X.go c9.2)) (.out (.r0 (c9.2) (c9.1.1) (c9.1.2) false)) (.need (inR .i64 (x0_40+(1:Int))) (.go (.l0 (x0_40+(1:Int)) (c9.2) (c9.1.1) (c9.1.2))))))))))))))))))))))) (.need c13 (.need c11 (.telb 2 2 n (fun r' j=>if r'=c31.toNat/\0<=j/\j<0+c18.length then c18.getD (j-0) uU else c27 r' j) c26 (.need c32 (.need c12 (.need c14 (.telb 3 5 (n+1) (fun r' j=>if r'=(c6).toNat/\0<=j/\j<0+c24.length then c24.getD (j-0) uU else c28 r' j) c17 c2))))))))))))))))) c37)
noncomputable def g111(X:Ext)(n:Nat)(x:Look)(but:Int)(nx:Int->St3->St3)(tr:List V)(P:List Pair)(H:List (Nat->Int))(ln:Nat):P111->List Item × St
 |.e=>([.code (Tryz.f111.body.getD .skip)],⟨[iI (ln:Int),rR (lk x),.ref 1 0 0,.ref 4 0 0,rR (iI but),.ref 5 0 0]++List.replicate 108 uU,[.ext X tr,.cells [.yld 0],.rows 95 2 n (rowsOf tPair P),.rows 128 5 (n+1) (rowsOf tHave H),.cells [.row 2 n,.row 3 (n+1)],.cells [fG 111 [rR (lk x),.ref 1 0 0,.ref 4 0 0,rR (iI but),.ref 5 0 0]]],[]⟩)
 |.l0 x0_40 e0_0 a0_2 a0_3=>(cutOf Tryz.f111 0,⟨mk 114 [(0,iI (ln:Int)),(3,.ref 4 0 0),(4,rR (iI but)),(5,.ref 5 0 0),(8,.ref 6 0 0),(38,tPair.lst (x.pairs.getD ((ln:Int)).toNat (tlist tPair).zero)),(39,iI (((x.pairs.getD ((ln:Int)).toNat (tlist tPair).zero).length):Int)),(40,iI x0_40)],[.ext X e0_0,.cells [.yld 0],.rows 95 2 n (rowsOf tPair a0_2),.rows 128 5 (n+1) (rowsOf tHave a0_3),.cells [.row 2 n,.row 3 (n+1)],.cells [fG 111 [rR (lk x),.ref 1 0 0,.ref 4 0 0,rR (iI but),.ref 5 0 0]],.cells [iI ((x.b.lines.getD ((ln:Int)).toNat tLine.zero).day),iI ((x.b.lines.getD ((ln:Int)).toNat tLine.zero).kind),iI ((x.b.lines.getD ((ln:Int)).toNat tLine.zero).a),iI ((x.b.lines.getD ((ln:Int)).toNat tLine.zero).b),iI ((x.b.lines.getD ((ln:Int)).toNat tLine.zero).c),iI ((x.b.lines.getD ((ln:Int)).toNat tLine.zero).d),iI ((x.b.lines.getD ((ln:Int)).toNat tLine.zero).set)]],[]⟩)
def n111(X:Ext)(n:Nat)(x:Look)(but:Int)(nx:Int->St3->St3)(tr:List V)(P:List Pair)(H:List (Nat->Int)):R111->Exit × St
 |.r0 r0 r1 r2 r3=>(.ret,⟨mk 114 [(7,.bool r3)],[.ext X r0,.cells [.yld 0],.rows 95 2 n (rowsOf tPair r1),.rows 128 5 (n+1) (rowsOf tHave r2),.cells [.row 2 n,.row 3 (n+1)],.cells [fG 111 [rR (lk x),.ref 1 0 0,.ref 4 0 0,rR (iI but),.ref 5 0 0]]],[]⟩)
theorem s111(X:Ext)(n:Nat)(x:Look)(but:Int)(nx:Int->St3->St3)(tr:List V)(P:List Pair)(H:List (Nat->Int))(ln:Nat):Sm 6 (g111 X n x but nx tr P H ln) (T111 X n x but nx tr P H ln) (n111 X n x but nx tr P H)
 |.e=>⟨400,by kernel_rfl⟩
 |.l0 _ _ _ _=>⟨400,by kernel_rfl⟩
def hh111(X:Ext)(n:Nat)(x:Look)(but:Int)(nx:Int->St3->St3)(tr:List V)(P:List Pair)(H:List (Nat->Int)):R111->List Blk
 |.r0 r0 r1 r2 r3=>[.ext X r0,.cells [.yld 0],.rows 95 2 n (rowsOf tPair r1),.rows 128 5 (n+1) (rowsOf tHave r2),.cells [.row 2 n,.row 3 (n+1)],.cells [fG 111 [rR (lk x),.ref 1 0 0,.ref 4 0 0,rR (iI but),.ref 5 0 0]]]
def v111(X:Ext)(n:Nat)(x:Look)(but:Int)(nx:Int->St3->St3)(tr:List V)(P:List Pair)(H:List (Nat->Int)):R111->V
 |.r0 r0 r1 r2 r3=>.bool r3
theorem q111(X:Ext)(n:Nat)(x:Look)(but:Int)(nx:Int->St3->St3)(tr:List V)(P:List Pair)(H:List (Nat->Int)):∀r,((n111 X n x but nx tr P H r).1=.normal\/(n111 X n x but nx tr P H r).1=.ret)/\(n111 X n x but nx tr P H r).2.d=[]/\(n111 X n x but nx tr P H r).2.h=hh111 X n x but nx tr P H r/\resultV Tryz.prog Tryz.f111 (n111 X n x but nx tr P H r).2=some (v111 X n x but nx tr P H r)
 |.r0 r0 r1 r2 r3=>⟨.inr rfl,rfl,rfl,by kernel_rfl⟩
theorem w111(X:Ext)(n:Nat)(x:Look)(but:Int)(nx:Int->St3->St3)(tr:List V)(P:List Pair)(H:List (Nat->Int))(ln:Nat){V0:V}{h':List Blk}(h:WP Tryz.prog ⟨none,6⟩ (T111 X n x but nx tr P H ln) (Ends' fun r=>v111 X n x but nx tr P H r=V0/\hh111 X n x but nx tr P H r=h') .e):HCalls Tryz.prog 111 [iI (ln:Int),rR (lk x),.ref 1 0 0,.ref 4 0 0,rR (iI but),.ref 5 0 0] V0 [.ext X tr,.cells [.yld 0],.rows 95 2 n (rowsOf tPair P),.rows 128 5 (n+1) (rowsOf tHave H),.cells [.row 2 n,.row 3 (n+1)],.cells [fG 111 [rR (lk x),.ref 1 0 0,.ref 4 0 0,rR (iI but),.ref 5 0 0]]] h':=
 HCalls.wp mx Tryz.func111 (by kernel_rfl) (by kernel_rfl) (T111 X n x but nx tr P H ln) (g111 X n x but nx tr P H ln) (n111 X n x but nx tr P H) .e rfl (s111 X n x but nx tr P H ln) h fun r hr=>by rw[<-hr.1,<-hr.2];exact q111 X n x but nx tr P H r
end
noncomputable section
theorem feed_app(go:List V->Bool):∀(a b tr:List V),feed go tr (a++b)=feed go (feed go tr a) b
 |[],b,tr=>rfl
 |x::a,b,tr=>by
  simp only[List.cons_append,feed]
  cases h:go tr with
  |true=>simp only[cond_true];exact feed_app go a b _
  |false=>
   simp only[cond_false]
   cases b with
   |nil=>rfl
   |cons y b=>simp[feed,h]
theorem feed_stop{go:List V->Bool}{tr:List V}(h:go tr=false)(b:List V):feed go tr b=tr:=by
 cases b with
 |nil=>rfl
 |cons y b=>simp[feed,h]
theorem feed_all{go:List V->Bool}:∀ {a tr:List V},go (feed go tr a)=true->feed go tr a=tr++a
 |[],tr,_=>by simp[feed]
 |x::a,tr,h=>by
  simp only[feed]at h⊢
  cases hg:go tr with
  |true=>
   rw[hg]at h;simp only[cond_true]at h⊢;rw[feed_all h];simp
  |false=>
   rw[hg]at h;simp only[cond_false]at h;rw[hg]at h;cases h
theorem feed_one{go:List V->Bool}{tr:List V}(h:go tr=true)(y:V):feed go tr [y]=tr++ [y]:=by simp[feed,h]
def swapF(F:Nat->Int)(p:Pair):Nat->Int:=upd (upd F p.a.toNat (F p.b.toNat)) p.b.toNat (F p.a.toNat)
def wayP(bit:Bool)(x:Line)(i:Nat)(p:Pair)(F:Nat->Int):Option (Nat->Int):=
 if bit=true then(if i=0 then some F else none)
 else if x.kind=3 then(if F x.a.toNat=x.b then some F else none)
 else if x.kind=4 then(if F x.a.toNat=x.b then none else some F)
 else if p=zPair then some F else some (swapF F p)
def bitB(but:Int)(ln:Nat):Bool:=(bitsOf .and .i64 (but.fdiv (2^(min ln 64))) (1:Int))==(1:Int)
def wayAt(b:Book)(but:Int)(ln i:Nat)(H:List (Nat->Int)):Option (Nat->Int):=wayP (bitB but ln) (b.lines.getD ln zLine) i ((pairsR (b.lines.getD ln zLine)).getD i zPair) (H.getD ln tHave.zero)
abbrev St2:=List Pair × List (Nat->Int)
def putS(b:Book)(ln i:Nat)(s:St2)(G:Nat->Int):St2:=(s.1.set ln ((pairsR (b.lines.getD ln zLine)).getD i zPair),s.2.set (ln+1) G)
def manyP(b:Book)(ln:Nat):Nat:=(pairsR (b.lines.getD ln zLine)).length
def stepW(X:Ext)(b:Book)(but:Int)(w:St3->St3)(ln i:Nat)(s:St3):St3:=
 bif X.go s.2 then(match wayAt b but ln i s.1.2 with|some G=>w (putS b ln i s.1 G,s.2)|none=>s)else s
theorem stepW_stop{X:Ext}{b:Book}{but:Int}{w:St3->St3}{ln i:Nat}{s:St3}(h:X.go s.2=false):stepW X b but w ln i s=s:=by unfold stepW;rw[h];rfl
theorem stepW_none{X:Ext}{b:Book}{but:Int}{w:St3->St3}{ln i:Nat}{s:St3}(h:wayAt b but ln i s.1.2=none):stepW X b but w ln i s=s:=by
 unfold stepW;rw[h];cases X.go s.2<;>rfl
theorem stepW_some{X:Ext}{b:Book}{but:Int}{w:St3->St3}{ln i:Nat}{s:St3}{G:Nat->Int}(hg:X.go s.2=true)(h:wayAt b but ln i s.1.2=some G):stepW X b but w ln i s=w (putS b ln i s.1 G,s.2):=by
 unfold stepW;rw[h,hg];rfl
def walkT(X:Ext)(b:Book)(but:Int):Nat->Nat->St3->St3
 |0,_,s=>(s.1,s.2++ [yV b.lines.length s.1.1 s.1.2])
 |n+1,ln,s=>natF (stepW X b but (walkT X b but n (ln+1)) ln) s (manyP b ln)
def leafT(b:Book)(but:Int):Nat->Nat->St2->List St2
 |0,_,s=>[s]
 |n+1,ln,s=>(List.range (manyP b ln)).flatMap fun i=>match wayAt b but ln i s.2 with|some G=>leafT b but n (ln+1) (putS b ln i s G)|none=>[]
structure Upto(ln:Nat)(s s':St2):Prop where
 l1:s.1.length=s'.1.length
 l2:s.2.length=s'.2.length
 e1:∀i,i<ln->s.1[i]? =s'.1[i]?
 e2:∀i,i<=ln->s.2[i]? =s'.2[i]?
theorem Upto.refl(ln:Nat)(s:St2):Upto ln s s:=⟨rfl,rfl,fun _ _=>rfl,fun _ _=>rfl⟩
theorem Upto.trans{ln:Nat}{a b c:St2}(h:Upto ln a b)(h':Upto ln b c):Upto ln a c:=⟨h.l1.trans h'.l1,h.l2.trans h'.l2,fun i hi=>(h.e1 i hi).trans (h'.e1 i hi),fun i hi=>(h.e2 i hi).trans (h'.e2 i hi)⟩
theorem Upto.less{ln k:Nat}{a b:St2}(h:Upto ln a b)(hk:k<=ln):Upto k a b:=⟨h.l1,h.l2,fun i hi=>h.e1 i (by omega),fun i hi=>h.e2 i (by omega)⟩
theorem Upto.put{ln:Nat}{s s':St2}(h:Upto ln s s')(b:Book)(i:Nat)(G:Nat->Int):Upto (ln+1) (putS b ln i s G) (putS b ln i s' G):=by
 refine⟨by simp[putS,h.l1],by simp[putS,h.l2],fun j hj=> ?_,fun j hj=> ?_⟩
 ·simp only[putS,List.getElem?_set,h.l1];by_cases q:ln=j
  ·simp[q]
  ·rw[if_neg q,if_neg q];exact h.e1 j (by omega)
 ·simp only[putS,List.getElem?_set,h.l2];by_cases q:ln+1=j
  ·simp[q]
  ·rw[if_neg q,if_neg q];exact h.e2 j (by omega)
theorem Upto.puts(b:Book)(ln i:Nat)(s:St2)(G:Nat->Int):Upto ln (putS b ln i s G) s:=by
 refine⟨by simp[putS],by simp[putS],fun j hj=> ?_,fun j hj=> ?_⟩
 ·simp only[putS];rw[sN (by omega)]
 ·simp only[putS];rw[sN (by omega)]
theorem Upto.way{ln:Nat}{s s':St2}(h:Upto ln s s')(b:Book)(but:Int)(i:Nat):wayAt b but ln i s.2=wayAt b but ln i s'.2:=by
 unfold wayAt;rw[gE (l:=s.2),gE (l:=s'.2),h.e2 ln (Nat.le_refl _)]
theorem leaf_congr(b:Book)(but:Int):∀(n ln:Nat) (s s':St2),Upto ln s s'->s.1.length=ln+n->s.2.length=ln+n+1->leafT b but n ln s=leafT b but n ln s'
 |0,ln,s,s',h,h1,h2=>by
  have q1:s.1=s'.1:=List.ext_getElem? fun i=>by
   rcases Nat.lt_or_ge i ln with q|q
   ·exact h.e1 i q
   ·rw[List.getElem?_eq_none (by omega),List.getElem?_eq_none (by rw[<-h.l1];omega)]
  have q2:s.2=s'.2:=List.ext_getElem? fun i=>by
   rcases Nat.lt_or_ge i (ln+1)with q|q
   ·exact h.e2 i (by omega)
   ·rw[List.getElem?_eq_none (by omega),List.getElem?_eq_none (by rw[<-h.l2];omega)]
  rw[show s=s' from Prod.ext q1 q2]
 |n+1,ln,s,s',h,h1,h2=>by
  unfold leafT;refine congrArg (fun k=>List.flatMap k _) (funext fun i=> ?_);rw[h.way b but i]
  cases wayAt b but ln i s'.2 with
  |none=>rfl
  |some G=>exact leaf_congr b but n (ln+1) _ _ (h.put b i G) (by simp[putS];omega) (by simp[putS];omega)
def ysT(b:Book)(but:Int)(n ln:Nat)(s:St2):List V:=(leafT b but n ln s).map fun t=>yV b.lines.length t.1 t.2
def ysAt(b:Book)(but:Int)(n ln i:Nat)(s:St2):List V:=match wayAt b but ln i s.2 with|some G=>ysT b but n (ln+1) (putS b ln i s G)|none=>[]
theorem ysT_step(b:Book)(but:Int)(n ln:Nat)(s:St2):ysT b but (n+1) ln s=(List.range (manyP b ln)).flatMap fun i=>ysAt b but n ln i s:=by
 unfold ysT;rw[leafT,List.map_flatMap];refine congrArg (fun k=>List.flatMap k _) (funext fun i=> ?_);unfold ysAt ysT;cases wayAt b but ln i s.2<;>rfl
theorem ysAt_congr{b:Book}{but:Int}{n ln i:Nat}{s s':St2}(h:Upto ln s s')(h1:s.1.length=ln+(n+1))(h2:s.2.length=ln+(n+1)+1):ysAt b but n ln i s=ysAt b but n ln i s':=by
 unfold ysAt;rw[h.way b but i]
 cases wayAt b but ln i s'.2 with
 |none=>rfl
 |some G=>
  show(leafT b but n (ln+1) (putS b ln i s G)).map _=(leafT b but n (ln+1) (putS b ln i s' G)).map _;rw[leaf_congr b but n (ln+1) _ _ (h.put b i G) (by simp[putS];omega) (by simp[putS];omega)]
theorem round_spec(X:Ext)(b:Book)(but:Int)(n ln:Nat)(s:St2)(h1:s.1.length=ln+(n+1))(h2:s.2.length=ln+(n+1)+1)
  (hw:∀t:St3,X.go t.2=true->t.1.1.length=ln+(n+1)->t.1.2.length=ln+(n+1)+1->(walkT X b but n (ln+1) t).2=feed X.go t.2 (ysT b but n (ln+1) t.1)/\Upto (ln+1) (walkT X b but n (ln+1) t).1 t.1)
  (i:Nat) (t:St3) (ht:Upto ln t.1 s):(stepW X b but (walkT X b but n (ln+1)) ln i t).2=feed X.go t.2 (ysAt b but n ln i s)/\Upto ln (stepW X b but (walkT X b but n (ln+1)) ln i t).1 s:=by
 have e0:=ysAt_congr (b:=b) (but:=but) (n:=n) (i:=i) ht (by rw[ht.l1];exact h1) (by rw[ht.l2];exact h2);rw[<-e0];unfold stepW
 cases hg:X.go t.2 with
 |false=>exact⟨by rw[feed_stop hg];rfl,ht⟩
 |true=>
  simp only[cond_true];unfold ysAt
  cases hway:wayAt b but ln i t.1.2 with
  |none=>exact⟨rfl,ht⟩
  |some G=>
   obtain⟨w1,w2⟩:=hw (putS b ln i t.1 G,t.2) hg (by simp[putS,ht.l1,h1]) (by simp[putS,ht.l2,h2]);exact⟨w1,(w2.less (Nat.le_succ _)).trans ((Upto.puts b ln i t.1 G).trans ht)⟩
theorem fold_spec(X:Ext)(b:Book)(but:Int)(n ln:Nat)(s:St3)(h1:s.1.1.length=ln+(n+1))(h2:s.1.2.length=ln+(n+1)+1)
  (hw:∀t:St3,X.go t.2=true->t.1.1.length=ln+(n+1)->t.1.2.length=ln+(n+1)+1->(walkT X b but n (ln+1) t).2=feed X.go t.2 (ysT b but n (ln+1) t.1)/\Upto (ln+1) (walkT X b but n (ln+1) t).1 t.1):
  ∀i,(natF (stepW X b but (walkT X b but n (ln+1)) ln) s i).2=feed X.go s.2 ((List.range i).flatMap fun i=>ysAt b but n ln i s.1)/\Upto ln (natF (stepW X b but (walkT X b but n (ln+1)) ln) s i).1 s.1
 |0=>⟨rfl,Upto.refl _ _⟩
 |i+1=>by
  obtain⟨f1,f2⟩:=fold_spec X b but n ln s h1 h2 hw i;have e:natF (stepW X b but (walkT X b but n (ln+1)) ln) s (i+1)=stepW X b but (walkT X b but n (ln+1)) ln i (natF (stepW X b but (walkT X b but n (ln+1)) ln) s i):=rfl;obtain⟨g1,g2⟩:=round_spec X b but n ln s.1 h1 h2 hw i _ f2;rw[e,List.range_succ,List.flatMap_append,feed_app,<-f1];exact⟨by rw[g1];simp,g2⟩
theorem walk_spec(X:Ext)(b:Book)(but:Int):∀(n ln:Nat) (s:St3),X.go s.2=true->s.1.1.length=ln+n->s.1.2.length=ln+n+1->(walkT X b but n ln s).2=feed X.go s.2 (ysT b but n ln s.1)/\Upto ln (walkT X b but n ln s).1 s.1
 |0,ln,s,hg,_,_=>⟨(feed_one hg _).symm,Upto.refl _ _⟩
 |n+1,ln,s,hg,h1,h2=>by
  rw[ysT_step];exact fold_spec X b but n ln s h1 h2 (fun t q1 q2 q3=>walk_spec X b but n (ln+1) t q1 (by omega) (by omega)) (manyP b ln)
theorem fold_stop(X:Ext)(b:Book)(but:Int)(w:St3->St3)(ln:Nat)(s:St3){i:Nat}(h:X.go (natF (stepW X b but w ln) s i).2=false):∀k,natF (stepW X b but w ln) s (i+k)=natF (stepW X b but w ln) s i
 |0=>rfl
 |k+1=>by
  have ih:=fold_stop X b but w ln s h k;have e:natF (stepW X b but w ln) s (i+(k+1))=stepW X b but w ln (i+k) (natF (stepW X b but w ln) s (i+k)):=rfl;rw[e,ih];exact stepW_stop h
theorem fold_bit(X:Ext)(b:Book)(but:Int)(w:St3->St3)(ln:Nat)(s:St3)(h:bitB but ln=true){i:Nat}(hi:0<i):∀k,natF (stepW X b but w ln) s (i+k)=natF (stepW X b but w ln) s i
 |0=>rfl
 |k+1=>by
  have ih:=fold_bit X b but w ln s h hi k;have e:natF (stepW X b but w ln) s (i+(k+1))=stepW X b but w ln (i+k) (natF (stepW X b but w ln) s (i+k)):=rfl;rw[e,ih];exact stepW_none (by unfold wayAt wayP;rw[if_pos h,if_neg (by omega)])
end
end Go.Proofs.YtemgodefhcbleaaGreat
