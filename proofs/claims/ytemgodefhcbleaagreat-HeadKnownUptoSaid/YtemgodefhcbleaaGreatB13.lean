/-
  Part of the proof of the Head laws. Conditions: those that stand in each theorem.
-/
import Derived.Test.YtemgodefhcbleaaGreatB12
set_option linter.unusedSimpArgs false
set_option linter.unusedVariables false
set_option maxRecDepth 100000
namespace Go.Proofs.YtemgodefhcbleaaGreat
open Ab Go
noncomputable section
inductive P18y
 |e
inductive R18y
 |r0 (r1:Int)
 |r1 (r0_0:List Pair) (r1:Int)
noncomputable def T18y(b:Book):P18y→Tr P18y R18y
 |.e=>let c1:List V:=[uU,uU,.ref 1 0 0,uU,uU,uU,uU,uU,uU,uU,uU,uU,uU,uU,uU,fG 110 [rR (lk (lookOf b)),rR (iI 0)],uU,uU,uU,uU,uU,uU,uU,uU,uU,uU];let c2:=(firstP b).1.length;let c3:=(firstP b).1;(.call 74 [.agg (cC b),iI 0,.nils] (.tuple [lk (lookOf b),iI 0]) true true (.br ((0:Int) !=(0:Int)) (.out (.r0 0)) (.call 75 [lk (lookOf b),iI 0] (fG 110 [rR (lk (lookOf b)),rR (iI 0)]) true true (.wait 1 (.drop ⟨[uU,uU,.nil,uU,uU,uU,uU,uU,uU,uU,uU,uU,uU,uU,uU,.nil,uU,uU,uU,uU,uU,uU,uU,uU,uU,uU],[.void,.void],[]⟩ (.over (rangeOf Tryz.f18) ⟨c1,[.cells (cC b),.cells [.nils]],[]⟩ (.exit 0) ⟨c1,[.cells (cC b),.cells [.row 2 c2],.rows 95 2 c2 (rowsOf tPair c3),.obj (.deferred (some []))],[3]⟩ true (.wait 1 (.frz 2 (true&&(((decide ((firstP b).1.length≤(firstP b).1.length))&&true)&&true)) (.telc 1 [.list 2 c2 (rowsOf tPair c3)] [tPair.lst c3] (.out (.r1 c3 0)))))))))))
noncomputable def g18y(b:Book):P18y→List Item × St
 |.e=>bd Tryz.f18 [.agg (cC b)] 25
noncomputable def n18y(b:Book):R18y→Exit × St
 |.r0 r1=>(.ret,⟨mk 26 [(2,.ref 1 0 0),(3,iI r1)],[.gone,.cells [.nils]],[]⟩)
 |.r1 r0_0 r1=>(.ret,⟨mk 26 [(2,.ref 1 0 0),(3,iI r1)],[.gone,.cells [tPair.lst r0_0],.gone,.obj (.deferred (some []))],[3]⟩)
noncomputable def v18y(b:Book):R18y→V
 |.r0 r1=>.tuple [tPair.lst ([]:List Pair),iI r1]
 |.r1 r0_0 r1=>.tuple [tPair.lst r0_0,iI r1]
theorem s18y(b:Book):Sm 0 (g18y b) (T18y b) (n18y b)
 |.e=>⟨400,by kernel_rfl⟩
theorem q18y(b:Book):∀r,bodyQ Tryz.prog Tryz.f18 (·=v18y b r) (n18y b r).1 (n18y b r).2
 |.r0 r1=>⟨.inr rfl,by simp[n18y],(.tuple [.nils,iI r1]),(.tuple [tPair.lst ([]:List Pair),iI r1]),by kernel_rfl,(.tuple rfl fun j hj=>match j,hj with|0,_=>.weak (.imm rfl) VLe.nils|1,_=>.imm rfl),rfl⟩
 |.r1 r0_0 r1=>⟨.inr rfl,by simp[n18y],(.tuple [tPair.lst r0_0,iI r1]),(.tuple [tPair.lst r0_0,iI r1]),by kernel_rfl,(.imm rfl),rfl⟩
theorem w18y(b:Book){post:V→Prop}(h:WP Tryz.prog ⟨none,0⟩ (T18y b) (Ends' fun r=>post (v18y b r)) .e):PC 18 [.agg (cC b)] post:=
 PCalls.wq Tryz.func18 (s18y b) (q18y b) h
inductive P18n
 |e
inductive R18n
 |r0 (r1:Int)
noncomputable def T18n(b:Book):P18n→Tr P18n R18n
 |.e=>(.call 74 [.agg (cC b),iI 0,.nils] (.tuple [.nil,iI ((toldR b [] 0).2)]) true true (.br ((toldR b [] 0).2 !=(0:Int)) (.out (.r0 ((toldR b [] 0).2))) (.wait 3 .never)))
noncomputable def g18n(b:Book):P18n→List Item × St
 |.e=>bd Tryz.f18 [.agg (cC b)] 25
noncomputable def n18n(b:Book):R18n→Exit × St
 |.r0 r1=>(.ret,⟨mk 26 [(2,.ref 1 0 0),(3,iI r1)],[.gone,.cells [.nils]],[]⟩)
noncomputable def v18n(b:Book):R18n→V
 |.r0 r1=>.tuple [tPair.lst ([]:List Pair),iI r1]
theorem s18n(b:Book):Sm 0 (g18n b) (T18n b) (n18n b)
 |.e=>⟨400,by kernel_rfl⟩
theorem q18n(b:Book):∀r,bodyQ Tryz.prog Tryz.f18 (·=v18n b r) (n18n b r).1 (n18n b r).2
 |.r0 r1=>⟨.inr rfl,by simp[n18n],(.tuple [.nils,iI r1]),(.tuple [tPair.lst ([]:List Pair),iI r1]),by kernel_rfl,(.tuple rfl fun j hj=>match j,hj with|0,_=>.weak (.imm rfl) VLe.nils|1,_=>.imm rfl),rfl⟩
theorem w18n(b:Book){post:V→Prop}(h:WP Tryz.prog ⟨none,0⟩ (T18n b) (Ends' fun r=>post (v18n b r)) .e):PC 18 [.agg (cC b)] post:=
 PCalls.wq Tryz.func18 (s18n b) (q18n b) h
inductive P18a
 |e
inductive R18a
 |r0
noncomputable def T18a(n:Nat)(P:List Pair)(H:List (Nat→Int)):P18a→Tr P18a R18a
 |.e=>(.out (.r0))
noncomputable def g18a(n:Nat)(P:List Pair)(H:List (Nat→Int)):P18a→List Item × St
 |.e=>([.code (asgOf (rangeOf Tryz.f18))],⟨[uU,uU,.ref 1 0 0,uU,uU,uU,uU,uU,uU,uU,uU,uU,uU,uU,uU,uU,.agg [.list 2 n (rowsOf tPair P),.list 5 (n+1) (rowsOf tHave H)],uU,uU,uU,uU,uU,uU,uU,uU,uU],[.gone,.cells [.nils],.void],[]⟩)
noncomputable def n18a(n:Nat)(P:List Pair)(H:List (Nat→Int)):R18a→Exit × St
 |.r0=>(.normal,⟨mk 26 [(2,.ref 1 0 0),(5,.ref 3 0 0)],[.gone,.cells [.nils],.void,.cells [.list 2 n (rowsOf tPair P),.list 5 (n+1) (rowsOf tHave H)]],[]⟩)
theorem s18a(n:Nat)(P:List Pair)(H:List (Nat→Int)):Sm 3 (g18a n P H) (T18a n P H) (n18a n P H)
 |.e=>⟨400,by kernel_rfl⟩
inductive P18b
 |e
inductive R18b
 |r0 (r0:List Pair)
noncomputable def T18b(n:Nat)(P:List Pair)(H:List (Nat→Int)):P18b→Tr P18b R18b
 |.e=>let c1:=((n:Nat):Int).toNat;let c2:List V:=[.list 2 n (rowsOf tPair P),.list 5 (n+1) (rowsOf tHave H)];let c3:=rowsOf tPair (List.replicate c1 tPair.zero);(.sem (opAt Tryz.f18 6 3) [(.tmp 19,iI (n:Int)),(.tmp 19,iI (n:Int))] [.gone,.cells [.nils],.void,.cells c2] (.row 2 c1) [.gone,.cells [.nils],.rows 95 2 c1 (fun _ j=>([iI 0,iI 0]:List V).getD j uU),.cells c2] true (.telb 2 2 c1 (fun _ j=>([iI 0,iI 0]:List V).getD j uU) c3 (.sem (opAt Tryz.f18 7 3) [(.tmp 21,.row 2 c1),(.tmp 23,.list 2 n (rowsOf tPair P))] [.gone,.cells [.row 2 c1],.rows 95 2 c1 c3,.cells c2] (iI ((n:Nat):Int)) [.gone,.cells [.row 2 c1],.rows 95 2 c1 (rowsOf tPair P),.cells c2] true (.out (.r0 P)))))
noncomputable def g18b(n:Nat)(P:List Pair)(H:List (Nat→Int)):P18b→List Item × St
 |.e=>([.code (bdyOf (rangeOf Tryz.f18))],⟨[uU,uU,.ref 1 0 0,uU,uU,.ref 3 0 0,uU,uU,uU,uU,uU,uU,uU,uU,uU,uU,uU,uU,uU,uU,uU,uU,uU,uU,uU,uU],[.gone,.cells [.nils],.void,.cells [.list 2 n (rowsOf tPair P),.list 5 (n+1) (rowsOf tHave H)]],[]⟩)
noncomputable def n18b(n:Nat)(P:List Pair)(H:List (Nat→Int)):R18b→Exit × St
 |.r0 r0=>(.exit 0,⟨mk 26 [],[.gone,.cells [.row 2 (((n:Nat):Int).toNat)],.rows 95 2 (((n:Nat):Int).toNat) (rowsOf tPair r0)],[]⟩)
theorem s18b(n:Nat)(P:List Pair)(H:List (Nat→Int)):Sm 3 (g18b n P H) (T18b n P H) (n18b n P H)
 |.e=>⟨400,by kernel_rfl⟩
theorem sem18m(n:Nat)(hn:n≤8)(b1 b3:Blk):SemOK Tryz.prog (opAt Tryz.f18 6 3) [(.tmp 19,iI (n:Int)),(.tmp 19,iI (n:Int))] [.gone,b1,.void,b3] (.row 2 n) [.gone,b1,.rows 95 2 n (fun _ j=>([iI 0,iI 0]:List V).getD j uU),b3]:=by
 have e:opAt Tryz.f18 6 3=.makeSlice 30 (.tmp 19) (.tmp 19):=by kernel_rfl
 rw[e]
 exact sem_makeAt (e:=95) (wd:=2) (zs:=[iI 0,iI 0]) (n:=(n:Int)) (by kernel_rfl) (by kernel_rfl) (by kernel_rfl) rfl (by omega) (by omega)
theorem sem18c(n:Nat)(P:List Pair)(b1 b3:Blk)(c0:Nat→Nat→V)(hP:P.length=n):SemOK Tryz.prog (opAt Tryz.f18 7 3) [(.tmp 21,.row 2 n),(.tmp 23,.list 2 n (rowsOf tPair P))] [.gone,b1,.rows 95 2 n c0,b3] (iI (n:Int)) [.gone,b1,.rows 95 2 n (rowsOf tPair P),b3]:=by
 have e:opAt Tryz.f18 7 3=.call {callee:=.builtin .copy,args:= #[.tmp 21,.tmp 23],argTypes:= #[30,30]}:=by kernel_rfl
 rw[e]
 exact sem_copyW (e:=95) (wd:=2) (i:=2) (by kernel_rfl) (by kernel_rfl) rfl (fun r hr j hj=>by
  rcases show j=0∨j=1 by omega with rfl|rfl<;>rfl)
theorem body18(l:Nat)(n:Nat)(hn:n≤8)(P:List Pair)(H:List (Nat→Int))(hP:P.length=n):AWP Tryz.prog ⟨some l,3⟩ (bdyOf (rangeOf Tryz.f18)) (g18b n P H .e).2 fun e S2=>e=.exit 0∧S2.h=[.gone,.cells [.row 2 n],.rows 95 2 n (rowsOf tPair P)]:=by
 have k1:=sem18m n hn
 have k2:=fun b1 b3 c0=>sem18c n P b1 b3 c0 hP
 refine AWP.wp mx (T18b n P H) (g18b n P H) (n18b n P H) .e rfl (s18b n P H) (post:=fun r=>(n18b n P H r).1=.exit 0∧(n18b n P H r).2.h=[.gone,.cells [.row 2 n],.rows 95 2 n (rowsOf tPair P)]) ?_ (fun r hr=>hr)
 refine WP.step ?_
 simp only[T18b,Go,Ends',Tr.sure,SS,Int.toNat_natCast,zP0]
 repeat' with_reducible first|intro _|apply And.intro
 all_goals first|exact(k1 _ _)|exact(k2 _ _ _)|exact(by with_reducible exact tel_repP (by assumption))|skip
 all_goals exact rfl
abbrev t18(b:Book):List V:=[uU,uU,.ref 1 0 0,uU,uU,uU,uU,uU,uU,uU,uU,uU,uU,uU,uU,trF b 0,uU,uU,uU,uU,uU,uU,uU,uU,uU,uU]
theorem truthsR_in{b:Book}(h:OkBook b){t:Truth}{but:List Int}(ht:t∈truthsR b but):OkT b.bodies.length b.lines.length t:=truthsTo_ok b but b.lines.length t ht
theorem range18(b:Book)(h:OkBook b)(t:Truth)(h0:(truthsR b [])[0]? =some t):
  AWP Tryz.prog ⟨none,0⟩ (rangeOf Tryz.f18) ⟨t18 b,[.cells (tBook.cells b),.cells [.nils]],[]⟩ (fun e T=>e=.exit 0∧T=⟨t18 b,[.cells (tBook.cells b),.cells [.row 2 t.pairs.length],.rows 95 2 t.pairs.length (rowsOf tPair t.pairs),.obj (.deferred (some []))],[3]⟩):=by
 have e:rangeOf Tryz.f18=.rangeFunc (.tmp 15) #[16] (asgOf (rangeOf Tryz.f18)) (bdyOf (rangeOf Tryz.f18)):=by kernel_rfl
 have ht:=truthsR_in h (List.mem_of_getElem? h0)
 have hpl:t.pairs.length=b.lines.length:=ht.np
 have hnl:=h.nl
 have hy0:(ysB b 0)[0]? =some (yT b t):=by unfold ysB;rw[List.getElem?_map,butL_zero,h0];rfl
 have hne:ysB b 0≠ []:=fun q=>by rw[q]at hy0;cases hy0
 rw[hpl]
 refine AWP.reserve 1 ?_
 rw[e]
 refine(AWP.rangeV1 (fs:=[true]) (T:=t18 b) (H1:=[.gone,.cells [.row 2 b.lines.length],.rows 95 2 b.lines.length (rowsOf tPair t.pairs)]) (jx:=.exit 0) (jc:=.exit 0) (f:=110) (caps:=[rR (lk (lookOf b)),rR (iI 0)])
  rfl rfl (fun i hi hv=> ?_) rfl (fun j=>.inl rfl) rfl rfl (PCalls.enters Tryz.func110 (c:=Tryz.f110.body.getD .skip) (by kernel_rfl) (by kernel_rfl)) (c110 b h 0) rfl rfl rfl rfl (fun l us hu=> ?_) (fun i k hi=> ?_) (fun i k hi=> ?_)).mono fun e T q=>q.2 hne
 ·match i,hi,hv with
  |0,_,hv=>cases hv
  |i+1,hi,_=>simp at hi
 ·rw[hy0]at hu
  obtain rfl:us=[.agg [.list 2 b.lines.length (rowsOf tPair t.pairs),.list 5 (b.lines.length+1) (rowsOf tHave (t.haves.map fnH))]]:=by unfold yT yV at hu;cases hu;rfl
  refine⟨rfl,?_⟩
  refine AWP.forget (t:=(setPs [16] [.agg [.list 2 b.lines.length (rowsOf tPair t.pairs),.list 5 (b.lines.length+1) (rowsOf tHave (t.haves.map fnH))]] (t18 b)).set 15 uU) (by simp) (forget_set _ 15) ?_
  refine AWP.wp mx (T18a b.lines.length t.pairs (t.haves.map fnH)) (g18a b.lines.length t.pairs (t.haves.map fnH)) (n18a b.lines.length t.pairs (t.haves.map fnH)) .e rfl (s18a b.lines.length t.pairs (t.haves.map fnH))
   (post:=fun r=>(n18a b.lines.length t.pairs (t.haves.map fnH) r).1=.normal∧(n18a b.lines.length t.pairs (t.haves.map fnH) r).2=(g18b b.lines.length t.pairs (t.haves.map fnH) .e).2) ?_ (fun r hr=> ?_)
  ·refine WP.step ?_
   simp only[T18a,Go,Ends',Tr.sure,SS]
   repeat' with_reducible first|intro _|apply And.intro
   all_goals exact rfl
  ·rw[hr.2]
   exact⟨hr.1,rfl,body18 l b.lines.length hnl t.pairs (t.haves.map fnH) hpl⟩
 ·exact freeAll (fun b hb=>by
   rcases List.mem_cons.1 hb with rfl|hb
   ·trivial
   rcases List.mem_cons.1 hb with rfl|hb
   ·rfl
   rcases List.mem_cons.1 hb with rfl|hb
   ·trivial
   cases hb) i k hi
 ·exact freeAll (fun b hb=>by
   rcases List.mem_cons.1 hb with rfl|hb
   ·trivial
   rcases List.mem_cons.1 hb with rfl|hb
   ·rfl
   rcases List.mem_cons.1 hb with rfl|hb
   ·intro r j hr hj
    rcases show j=0∨j=1 by omega with rfl|rfl<;>rfl
   cases hb) i k hi
theorem toldR_ok{b:Book}{ns:List Int}{day:Int}(h:(toldR b ns day).2=0):OkBook b∧(truthsR b []).length≠0∧(toldR b ns day).1=truthsR b []:=by
 have:=told_ok h
 exact⟨this.1,by omega,this.2.2.2.2⟩
theorem c18(b:Book):PC 18 [.agg (tBook.cells b)] (·=.tuple [tPair.lst (firstP b).1,iI (firstP b).2]):=by
 have k74:=PCalls.arg (pre:=[.agg (tBook.cells b),iI 0]) (c74 b 0 []) VLe.nils
 by_cases h0:(toldR b [] 0).2=0
 ·obtain⟨hok,hne,htl⟩:=toldR_ok h0
  obtain⟨t,ht⟩:∃t,(truthsR b [])[0]? =some t:=⟨_,List.getElem?_eq_getElem (by omega)⟩
  have hP:(firstP b).1=t.pairs:=by
   unfold firstP
   rw[if_neg (fun q=>q h0),htl,List.getD_eq_getElem?_getD,ht];rfl
  have hE:(firstP b).2=0:=by unfold firstP;rw[if_neg (fun q=>q h0)]
  rw[if_pos h0,h0]at k74
  have k75:=c75 (lookOf b) 0
  have hr:=range18 b hok t ht
  rw[←hP]at hr
  rw[hE]
  refine w18y b (WP.step ?_)
  simp only[T18y,Go,Ends',v18y,Tr.sure,SS]
  repeat' with_reducible first|intro _|apply And.intro
  all_goals first|exact k74|exact k75|exact hr|exact(VLe.refl _)|(simp[Go,Ends',v18y,-List.getD_eq_getElem?_getD, *];done)
 ·have hP:firstP b=([],(toldR b [] 0).2):=by unfold firstP;rw[if_pos h0]
  rw[if_neg h0]at k74
  rw[hP]
  refine w18n b (WP.step ?_)
  simp only[T18n,Go,Ends',v18n,Tr.sure,SS,h0]
  repeat' with_reducible first|intro _|apply And.intro
  all_goals exact k74
end
noncomputable section
inductive P78
 |e
 |l0 (x0_8:Int)
inductive R78
 |r0 (r0:Int)
noncomputable def T78(s:List Int)(v:Int):P78→Tr P78 R78
 |.e=>(.go (.l0 0))
 |.l0 x0_8=>(.br (decide (x0_8<(s.length:Int))) (.need (decide (0≤x0_8)&&decide (x0_8<(s.length:Int))) (.br (v==(s.getD (x0_8).toNat tint.zero)) (.out (.r0 x0_8)) (.need (inR .i64 (x0_8+(1:Int))) (.go (.l0 (x0_8+(1:Int))))))) (.out (.r0 (-1))))
noncomputable def g78(s:List Int)(v:Int):P78→List Item × St
 |.e=>bd Tryz.f78 [tint.lst s,iI v] 17
 |.l0 x0_8=>(cutOf Tryz.f78 0,⟨mk 19 [(0,tint.lst s),(1,iI v),(7,iI (s.length:Int)),(8,iI x0_8)],[],[]⟩)
noncomputable def n78:R78→Exit × St
 |.r0 r0=>(.ret,⟨mk 19 [(4,iI r0)],[],[]⟩)
noncomputable def v78:R78→V
 |.r0 r0=>iI r0
theorem s78(s:List Int)(v:Int):Sm 0 (g78 s v) (T78 s v) (n78)
 |.e=>⟨400,by kernel_rfl⟩
 |.l0 _=>⟨400,by kernel_rfl⟩
theorem q78:∀r,bodyQ Tryz.prog Tryz.f78 (·=v78 r) (n78 r).1 (n78 r).2
 |.r0 r0=>bq (iI r0) (by kernel_rfl)
theorem w78(s:List Int)(v:Int){post:V→Prop}(h:WQ (T78 s v) v78 post .e):PC 78 [tint.lst s,iI v] post:=
 PCalls.wq Tryz.func78 (s78 s v) q78 h
inductive P79
 |e
 |l0 (x0_4:Int) (a0_0:List Int)
inductive R79
 |r0 (r0:List Int)
noncomputable def T79(set:Int):P79→Tr P79 R79
 |.e=>(.wait 2 (.own 2 3 1 (.go (.l0 0 ([])))))
 |.l0 x0_4 a0_0=>let c1:=x0_4+(1:Int);(.br (decide (x0_4<(5:Int))) (.need (decide (0≤x0_4)) (.br ((bitsOf .and .i64 (set.fdiv (2^(min (x0_4).toNat 64))) (1:Int))==(1:Int)) (.need ((decide (a0_0.length=a0_0.length)&&decide (a0_0.length+1≤4294967296))&&decide (1≤1)) (.scal (fun _=>true) (.need (inR .i64 c1) (.go (.l0 c1 (x0_4::a0_0)))))) (.need (inR .i64 c1) (.go (.l0 c1 a0_0))))) (.out (.r0 a0_0)))
noncomputable def g79(set:Int):P79→List Item × St
 |.e=>bd Tryz.f79 [iI set] 17
 |.l0 x0_4 a0_0=>(cutOf Tryz.f79 0,⟨mk 18 [(0,iI set),(2,.row 0 a0_0.length),(4,iI x0_4)],[.rows 3 1 a0_0.length (rowsRev tint a0_0)],[]⟩)
noncomputable def n79:R79→Exit × St
 |.r0 r0=>(.ret,⟨mk 18 [(2,.row 0 r0.length)],[.rows 3 1 r0.length (rowsRev tint r0)],[]⟩)
noncomputable def v79:R79→V
 |.r0 r0=>tint.lst r0.reverse
theorem s79(set:Int):Sm 0 (g79 set) (T79 set) (n79)
 |.e=>⟨400,by kernel_rfl⟩
 |.l0 _ _=>⟨400,by kernel_rfl⟩
theorem q79:∀r,bodyQ Tryz.prog Tryz.f79 (·=v79 r) (n79 r).1 (n79 r).2
 |.r0 r0=>⟨.inr rfl,by simp[n79],(.row 0 r0.length),(tint.lst r0.reverse),by kernel_rfl,(.weak (.row rfl (Nat.le_refl _)) (VLe.rev tint r0)),rfl⟩
theorem w79(set:Int){post:V→Prop}(h:WQ (T79 set) v79 post .e):PC 79 [iI set] post:=
 PCalls.wq Tryz.func79 (s79 set) q79 h
theorem c78(s:List Int)(v:Int)(ix:Nat)(hl:s.length≤1000)(hi:ix<s.length)(hv:s.getD ix 0=v)(hn:∀j,j<ix→s.getD j 0≠v):PC 78 [tint.lst s,iI v] (·=iI (ix:Int)):=by
 have hmain:WP Tryz.prog ⟨none,0⟩ (T78 s v) (Ends' fun r=>v78 r=iI (ix:Int)) (.l0 0):=by
  refine WP.run (fun i=>.l0 (i:Int)) rfl ix (fun i hi2=> ?_) ?_
  ·have hr:inR .i64 ((i:Int)+1)=true:=inR64 (by omega) (by omega)
   have hi':(i:Int)<s.length:=by omega
   have hne:(v==s.getD i 0)=false:=by rw[beq_eq_false_iff_ne];exact fun q=>hn i hi2 q.symm
   refine WP.once ?_
   simp only[T78,Tr.sure,SS,hi',hne,z1,Int.toNat_natCast]
   repeat' with_reducible first|intro _|apply And.intro
   all_goals simp[hr,Go,Ends',v78,-List.getD_eq_getElem?_getD, *]
  ·have hi':(ix:Int)<s.length:=by omega
   have he:(v==s.getD ix 0)=true:=by rw[beq_iff_eq];exact hv.symm
   refine WP.step ?_
   simp only[T78,Go,Ends',v78,Tr.sure,SS,hi',he,z1,Int.toNat_natCast]
   repeat' with_reducible first|intro _|apply And.intro
 refine w78 s v (WP.step ?_)
 simp only[T78,Go,Ends',v78,Tr.sure,SS]
 repeat' with_reducible first|intro _|apply And.intro
 all_goals exact hmain
def listR(set:Int):List Int:=((List.range 5).filter (bitB set)).map fun(i:Nat)=>(i:Int)
def listTo(set:Int)(i:Nat):List Int:=((List.range i).filter (bitB set)).map fun(i:Nat)=>(i:Int)
theorem listTo_y{set:Int}{i:Nat}(h:bitB set i=true):(listTo set (i+1)).reverse=(i:Int)::(listTo set i).reverse:=by
 unfold listTo;rw[List.range_succ,List.filter_append];simp[h]
theorem listTo_n{set:Int}{i:Nat}(h:bitB set i=false):listTo set (i+1)=listTo set i:=by
 unfold listTo;rw[List.range_succ,List.filter_append];simp[h]
theorem listTo_len(set:Int)(i:Nat):(listTo set i).length≤i:=by
 unfold listTo;rw[List.length_map];exact Nat.le_trans (List.length_filter_le _ _) (by simp)
theorem c79(set:Int):PC 79 [iI set] (·=tint.lst (listR set)):=by
 have hmain:WP Tryz.prog ⟨none,0⟩ (T79 set) (Ends' fun r=>v79 r=tint.lst (listR set)) (.l0 0 []):=by
  refine WP.run (fun i=>.l0 (i:Int) (listTo set i).reverse) rfl 5 (fun i hi=> ?_) ?_
  ·have hr:inR .i64 ((i:Int)+1)=true:=inR64 (by omega) (by omega)
   have hi':(i:Int)<5:=by omega
   have hlen:=listTo_len set i
   have hal:(listTo set i).reverse.length+1≤4294967296:=by rw[List.length_reverse];omega
   have hbe:((bitsOf .and .i64 (set.fdiv (2^(min i 64))) (1:Int))==(1:Int))=bitB set i:=rfl
   cases hb:bitB set i with
   |true=>
    rw[listTo_y hb]
    generalize(listTo set i).reverse=A at*
    rw[hb]at hbe
    refine WP.once ?_
    simp only[T79,Tr.sure,SS,hi',hbe,Int.toNat_natCast]
    repeat' with_reducible first|intro _|apply And.intro
    all_goals simp[hr,hal,Go,Ends',v79,-List.getD_eq_getElem?_getD, *]
   |false=>
    rw[listTo_n hb]
    generalize(listTo set i).reverse=A at*
    rw[hb]at hbe
    refine WP.once ?_
    simp only[T79,Tr.sure,SS,hi',hbe,Int.toNat_natCast]
    repeat' with_reducible first|intro _|apply And.intro
    all_goals simp[hr,Go,Ends',v79,-List.getD_eq_getElem?_getD, *]
  ·have e:(listTo set 5).reverse.reverse=listR set:=by rw[List.reverse_reverse];rfl
   generalize(listTo set 5).reverse=A at*
   refine WP.step ?_
   simp only[T79,Go,Ends',v79,Tr.sure,SS]
   repeat' with_reducible first|intro _|apply And.intro
   all_goals first|(simp[e,Go,Ends',v79,-List.getD_eq_getElem?_getD, *];done)|(simp_all [e,Go,Ends',v79,-List.getD_eq_getElem?_getD];done)
 refine w79 set (WP.step ?_)
 simp only[T79,Go,Ends',v79,Tr.sure,SS]
 repeat' with_reducible first|intro _|apply And.intro
 all_goals exact hmain
def setI(p:Nat→Bool):Int:=(bif p 0 then 1 else 0)+(bif p 1 then 2 else 0)+(bif p 2 then 4 else 0)+(bif p 3 then 8 else 0)+(bif p 4 then 16 else 0)
def setB(a b c d e:Bool):Int:=(bif a then 1 else 0)+(bif b then 2 else 0)+(bif c then 4 else 0)+(bif d then 8 else 0)+(bif e then 16 else 0)
theorem setB_or:∀j:Fin 5,∀a b c d e:Bool,bitsOf .or .i64 (setB a b c d e) ((1:Int)*2^(min j.val 64))=setB (a||j.val==0) (b||j.val==1) (c||j.val==2) (d||j.val==3) (e||j.val==4):=by decide+kernel
theorem setB_bit:∀j:Fin 5,∀a b c d e:Bool,bitB (setB a b c d e) j.val=[a,b,c,d,e].getD j.val false:=by decide+kernel
theorem setI_or(p:Nat→Bool){j:Nat}(hj:j<5):bitsOf .or .i64 (setI p) ((1:Int)*2^(min j 64))=setI (fun i=>p i||j==i):=setB_or ⟨j,hj⟩ (p 0) (p 1) (p 2) (p 3) (p 4)
theorem setI_bit(p:Nat→Bool){j:Nat}(hj:j<5):bitB (setI p) j=p j:=by
 have:=setB_bit ⟨j,hj⟩ (p 0) (p 1) (p 2) (p 3) (p 4)
 rw[show setB (p 0) (p 1) (p 2) (p 3) (p 4)=setI p from rfl]at this
 rw[this]
 rcases show j=0∨j=1∨j=2∨j=3∨j=4 by omega with rfl|rfl|rfl|rfl|rfl<;>rfl
theorem setI_congr{p q:Nat→Bool}(h:∀i,i<5→p i=q i):setI p=setI q:=by
 unfold setI;rw[h 0 (by omega),h 1 (by omega),h 2 (by omega),h 3 (by omega),h 4 (by omega)]
theorem listR_set(p:Nat→Bool){n:Nat}(hn:n≤5)(hp:∀i,n≤i→i<5→p i=false):listR (setI p)=((List.range n).filter p).map fun(i:Nat)=>(i:Int):=by
 unfold listR
 congr 1
 have e:(List.range 5).filter (bitB (setI p))=(List.range 5).filter p:=List.filter_congr fun i hi=>setI_bit p (List.mem_range.1 hi)
 rw[e]
 have e2:List.range 5=List.range n++(List.range 5).drop n:=by
  conv=>lhs;rw[←List.take_append_drop n (List.range 5)]
  rw[List.take_range,Nat.min_eq_left hn]
 have e3:((List.range 5).drop n).filter p=[]:=by
  refine List.filter_eq_nil_iff.2 fun i hi=> ?_
  obtain⟨k,hk,rfl⟩:=List.getElem_of_mem hi
  rw[List.getElem_drop,List.getElem_range]
  rw[List.length_drop,List.length_range]at hk
  rw[hp _ (by omega) (by omega)];decide
 rw[e2,List.filter_append,e3,List.append_nil]
theorem shl_in{j:Nat}(hj:j<5):(decide (0≤(j:Int))&&inR .i64 ((1:Int)*2^(min j 64)))=true:=by
 rcases show j=0∨j=1∨j=2∨j=3∨j=4 by omega with rfl|rfl|rfl|rfl|rfl<;>decide
theorem have_in{b:Book}(h:OkBook b){t:Truth}{but:List Int}(ht:t∈truthsR b but){k:Nat}(hk:k≤b.lines.length):(t.haves.getD k []).Perm (firstH b):=
 truthsTo_perm h but b.lines.length (Nat.le_refl _) t ht _ (getD_mem [] _ k (by rw[(truthsR_in h ht).nh];omega))
theorem perm_get{n:Nat}{l:List Int}(hp:l.Perm ((List.range n).map fun(i:Nat)=>(i:Int))):l.length=n∧l.Nodup∧(∀i,i<n→0≤l.getD i 0∧l.getD i 0<n)∧∀v:Int,0≤v→v<n→∃i,i<n∧l.getD i 0=v:=by
 have hl:l.length=n:=by rw[hp.length_eq];simp
 refine⟨hl,?_,fun i hi=> ?_,fun v h0 h1=> ?_⟩
 ·refine hp.nodup_iff.2 (List.pairwise_map.2 (List.nodup_range.imp fun hne e=>hne (by exact_mod_cast e)))
 ·have:=hp.mem_iff.1 (getD_mem 0 l i (by omega))
  simp only[List.mem_map,List.mem_range]at this
  obtain⟨j,hj,e⟩:=this
  omega
 ·have:v∈l:=hp.mem_iff.2 (by simp only[List.mem_map,List.mem_range];exact⟨v.toNat,by omega,by omega⟩)
  obtain⟨i,hi,e⟩:=List.getElem_of_mem this
  exact⟨i,by omega,by rw[List.getD_eq_getElem?_getD,List.getElem?_eq_getElem hi,e];rfl⟩
theorem nodup_get{l:List Int}(h:l.Nodup){i j:Nat}(hi:i<l.length)(hj:j<l.length)(e:l.getD i 0=l.getD j 0):i=j:=by
 rw[List.getD_eq_getElem?_getD,List.getD_eq_getElem?_getD,List.getElem?_eq_getElem hi,List.getElem?_eq_getElem hj]at e
 have hp:=List.pairwise_iff_getElem.1 h
 rcases Nat.lt_trichotomy i j with q|q|q
 ·exact absurd (Option.some.inj (by simpa using e)) (hp i j hi hj q)
 ·exact q
 ·exact absurd (Option.some.inj (by simpa using e)).symm (hp j i hj hi q)
end
noncomputable section
theorem ysB_get{b:Book}{but:Int}{k:Nat}{us:List V}(h:(ysB b but)[k]? =some (.tuple us)):∃t,(truthsR b (butL b but))[k]? =some t∧us=[.agg [.list 2 b.lines.length (rowsOf tPair t.pairs),.list 5 (b.lines.length+1) (rowsOf tHave (t.haves.map fnH))]]:=by
 unfold ysB at h
 rw[List.getElem?_map]at h
 cases hf:(truthsR b (butL b but))[k]? with
 |none=>rw[hf]at h;cases h
 |some t=>
  rw[hf]at h
  have hy:yT b t=.tuple us:=Option.some.inj h
  exact⟨t,rfl,by unfold yT yV at hy;cases hy;rfl⟩
theorem have_fn{b:Book}(h:OkBook b){t:Truth}{but:List Int}(ht:t∈truthsR b but){k:Nat}(hk:k≤b.lines.length):(t.haves.map fnH).getD k tHave.zero=fnH (t.haves.getD k []):=by
 have hl:=(truthsR_in h ht).nh
 rw[List.getD_eq_getElem?_getD,List.getElem?_map,List.getD_eq_getElem?_getD,List.getElem?_eq_getElem (by omega)];rfl
theorem five(G:Nat→Int):VLe (.list 1 5 (litC 1 5 [iI (G 0),iI (G 1),iI (G 2),iI (G 3),iI (G 4)])) (tint.lst [G 0,G 1,G 2,G 3,G 4]):=VLe.lit tint [G 0,G 1,G 2,G 3,G 4] rfl rfl (fun _=>rfl)
theorem anyT_snoc(b:Book)(day:Int)(l:List Truth)(t:Truth)(i:Nat)(h:Int):anyT b day (l++ [t]) i h=(anyT b day l i h||(atR b t day).getD i 0==h):=by unfold anyT;rw[List.any_append];simp
theorem take_get{τ:Type}{l:List τ}{k:Nat}{t:τ}(h:l[k]? =some t):l.take (k+1)=l.take k++ [t]:=by rw[List.take_add_one,h];rfl
theorem freeI(l:List Blk)(h:∀b∈l,b=.gone∨∃n,b=.cells [iI n])(i:Nat)(k:Blk)(hk:l[i]? =some k):BlkFree k:=by
 rcases h k (List.mem_of_getElem? hk)with rfl|⟨n,rfl⟩
 ·trivial
 ·rfl
inductive P22a
 |e
inductive R22a
 |r0 (r0:Int) (r1:Int) (r2:Int)
noncomputable def T22a(n:Nat)(P:List Pair)(H:List (Nat→Int))(hd:Int)(p:Nat→Bool)(ln:Nat):P22a→Tr P22a R22a
 |.e=>(.out (.r0 hd (setI p) (ln:Int)))
noncomputable def g22a(n:Nat)(P:List Pair)(H:List (Nat→Int))(hd:Int)(p:Nat→Bool)(ln:Nat):P22a→List Item × St
 |.e=>([.code (asgOf (rangeOf Tryz.f22))],⟨[uU,uU,uU,uU,.ref 1 0 0,uU,uU,uU,uU,uU,.ref 3 0 0,.ref 4 0 0,uU,uU,uU,uU,uU,uU,uU,uU,uU,uU,uU,uU,uU,uU,uU,uU,uU,.agg [.list 2 n (rowsOf tPair P),.list 5 (n+1) (rowsOf tHave H)],uU,uU,uU,uU,uU,uU,uU,uU,uU,uU,uU,uU],[.gone,.cells [iI hd],.gone,.cells [iI (setI p)],.cells [iI (ln:Int)]],[]⟩)
noncomputable def n22a(n:Nat)(P:List Pair)(H:List (Nat→Int))(hd:Int)(p:Nat→Bool)(ln:Nat):R22a→Exit × St
 |.r0 r0 r1 r2=>(.normal,⟨mk 42 [(4,.ref 1 0 0),(10,.ref 3 0 0),(11,.ref 4 0 0),(12,.ref 5 0 0)],[.gone,.cells [iI r0],.gone,.cells [iI r1],.cells [iI r2],.cells [.list 2 n (rowsOf tPair P),.list 5 (n+1) (rowsOf tHave H)]],[]⟩)
theorem s22a(n:Nat)(P:List Pair)(H:List (Nat→Int))(hd:Int)(p:Nat→Bool)(ln:Nat):Sm 5 (g22a n P H hd p ln) (T22a n P H hd p ln) (n22a n P H hd p ln)
 |.e=>⟨400,by kernel_rfl⟩
inductive P22b
 |e
inductive R22b
 |r0 (r0:Int) (r1:Int) (r2:Int)
noncomputable def T22b(n:Nat)(P:List Pair)(H:List (Nat→Int))(hd:Int)(p:Nat→Bool)(ln:Nat)(ix:Nat):P22b→Tr P22b R22b
 |.e=>let c1:=H.getD ((ln:Int)).toNat tHave.zero;let c2:=(1:Int)*2^(min ((ix:Int)).toNat 64);(.front [(7,78,[.list 1 5 (litC 1 5 [iI (c1 0),iI (c1 1),iI (c1 2),iI (c1 3),iI (c1 4)]),iI hd],iI (ix:Int))] [] ((true&&(true&&(true&&(true&&((decide (0≤(ln:Int))&&decide ((ln:Int)<((n+1):Int)))&&(true&&(true&&(true&&((decide (0≤(ix:Int))&&inR .i64 c2)&&(true&&true))))))))))&&true) true (.out (.r0 hd (bitsOf .or .i64 (setI p) c2) (ln:Int))))
noncomputable def g22b(n:Nat)(P:List Pair)(H:List (Nat→Int))(hd:Int)(p:Nat→Bool)(ln:Nat)(ix:Nat):P22b→List Item × St
 |.e=>([.code (bdyOf (rangeOf Tryz.f22))],⟨[uU,uU,uU,uU,.ref 1 0 0,uU,uU,uU,uU,uU,.ref 3 0 0,.ref 4 0 0,.ref 5 0 0,uU,uU,uU,uU,uU,uU,uU,uU,uU,uU,uU,uU,uU,uU,uU,uU,uU,uU,uU,uU,uU,uU,uU,uU,uU,uU,uU,uU,uU],[.gone,.cells [iI hd],.gone,.cells [iI (setI p)],.cells [iI (ln:Int)],.cells [.list 2 n (rowsOf tPair P),.list 5 (n+1) (rowsOf tHave H)]],[]⟩)
noncomputable def n22b(n:Nat)(P:List Pair)(H:List (Nat→Int))(hd:Int)(p:Nat→Bool)(ln:Nat)(ix:Nat):R22b→Exit × St
 |.r0 r0 r1 r2=>(.normal,⟨mk 42 [],[.gone,.cells [iI r0],.gone,.cells [iI r1],.cells [iI r2]],[]⟩)
theorem s22b(n:Nat)(P:List Pair)(H:List (Nat→Int))(hd:Int)(p:Nat→Bool)(ln:Nat)(ix:Nat):Sm 5 (g22b n P H hd p ln ix) (T22b n P H hd p ln ix) (n22b n P H hd p ln ix)
 |.e=>⟨400,by kernel_rfl⟩
def pWhere(b:Book)(head day:Int)(l:List Truth):Nat→Bool:=fun i=>decide (i<b.bodies.length)&&anyT b day l i head
theorem pWhere_step(b:Book)(head day:Int){l l':List Truth}{t:Truth}{hv:List Int}(ha:atR b t day=hv)(hl:l'=l++ [t])(i:Nat):pWhere b head day l' i=(pWhere b head day l i||(decide (i<b.bodies.length)&&hv.getD i 0==head)):=by
 unfold pWhere;rw[hl,anyT_snoc,ha];cases decide (i<b.bodies.length)<;>rfl
theorem body22(l:Nat)(n:Nat)(P:List Pair)(H:List (Nat→Int))(hd:Int)(p:Nat→Bool)(ln ix:Nat)(hln:ln≤n)(hix:ix<5)(hv:(H.getD ln tHave.zero) ix=hd)(hn:∀j,j<ix→(H.getD ln tHave.zero) j≠hd):
  AWP Tryz.prog ⟨some l,5⟩ (bdyOf (rangeOf Tryz.f22)) (g22b n P H hd p ln ix .e).2 fun e S2=>e=.normal∧S2.h=[.gone,.cells [iI hd],.gone,.cells [iI (setI fun i=>p i||ix==i)],.cells [iI (ln:Int)]]:=by
 have hln':(ln:Int)<((n+1:Nat):Int):=by omega
 have hln2:(ln:Int)<(n:Int)+1:=by omega
 have hor:=setI_or p hix
 have hsh:=shl_in hix
 generalize hG:H.getD ln tHave.zero=G at*
 have hget:∀j,j<5→([G 0,G 1,G 2,G 3,G 4]:List Int).getD j 0=G j:=fun j hj=>by
  rcases show j=0∨j=1∨j=2∨j=3∨j=4 by omega with rfl|rfl|rfl|rfl|rfl<;>rfl
 have k78:=PCalls.arg (pre:=[]) (suf:=[iI hd]) (c78 [G 0,G 1,G 2,G 3,G 4] hd ix (by simp) (by simpa using hix) (by rw[hget ix hix];exact hv) (fun j hj=>by rw[hget j (by omega)];exact hn j hj)) (five G)
 refine AWP.wp mx (T22b n P H hd p ln ix) (g22b n P H hd p ln ix) (n22b n P H hd p ln ix) .e rfl (s22b n P H hd p ln ix) (post:=fun r=>(n22b n P H hd p ln ix r).1=.normal∧(n22b n P H hd p ln ix r).2.h=[.gone,.cells [iI hd],.gone,.cells [iI (setI fun i=>p i||ix==i)],.cells [iI (ln:Int)]]) ?_ (fun r hr=>hr)
 rw[←hor]
 refine WP.step ?_
 simp only[T22b,Go,Ends',Tr.sure,SS,hG,Int.toNat_natCast]
 repeat' with_reducible first|intro _|apply And.intro
 all_goals first|exact k78|(simp[hsh,Go,Ends',-List.getD_eq_getElem?_getD, *];done)|(simp_all [hsh,Go,Ends',-List.getD_eq_getElem?_getD];done)|skip
 all_goals exact rfl
abbrev t22(b:Book):List V:=[uU,uU,uU,uU,.ref 1 0 0,uU,uU,uU,uU,uU,.ref 3 0 0,.ref 4 0 0]++List.replicate 16 uU++ [trF b 0]++List.replicate 13 uU
theorem range22(b:Book)(h:OkBook b)(head day:Int)(ln:Nat)(hln:lineN b day=(ln:Int))(hv:0≤head∧head<b.bodies.length):
  AWP Tryz.prog ⟨none,0⟩ (rangeOf Tryz.f22) ⟨t22 b,[.cells (tBook.cells b),.cells [iI head],.gone,.cells [iI 0],.cells [iI (ln:Int)]],[]⟩ (fun e T=>e=.normal∧T=⟨t22 b,[.cells (tBook.cells b),.cells [iI head],.gone,.cells [iI (setI (pWhere b head day (truthsR b [])))],.cells [iI (ln:Int)],.obj (.deferred (some []))],[5]⟩):=by
 have e:rangeOf Tryz.f22=.rangeFunc (.tmp 28) #[29] (asgOf (rangeOf Tryz.f22)) (bdyOf (rangeOf Tryz.f22)):=by kernel_rfl
 have hb5:=h.nb
 have hln2:=lineN_in b day
 rw[hln]at hln2
 have hlen:(ysB b 0).length=(truthsR b []).length:=by unfold ysB;rw[List.length_map,butL_zero]
 have hfull:(truthsR b []).take (ysB b 0).length=truthsR b []:=by rw[hlen,List.take_length]
 have h00:setI (pWhere b head day ((truthsR b []).take 0))=0:=(setI_congr (q:=fun _=>false) fun i _=>by simp[pWhere,anyT]).trans rfl
 rw[e]
 refine(AWP.rangeVT (fs:=[true]) (T:=t22 b) (H:=fun k=>[.gone,.cells [iI head],.gone,.cells [iI (setI (pWhere b head day ((truthsR b []).take k)))],.cells [iI (ln:Int)]]) (f:=110) (ys:=ysB b 0) (caps:=[rR (lk (lookOf b)),rR (iI 0)])
  rfl rfl (fun i hi hv=> ?_) rfl (fun j=>.inl rfl) rfl rfl (PCalls.enters Tryz.func110 (c:=Tryz.f110.body.getD .skip) (by kernel_rfl) (by kernel_rfl)) (c110 b h 0) (by show[_,_,_,Blk.cells [iI (setI _)],_]=_;rw[h00];rfl) (fun _=>rfl) (fun _=>rfl) (fun l k us hu=> ?_) (fun q i k hk=>freeI _ (fun b hb=> ?_) i k hk)).mono fun e T q=>⟨q.1,by rw[q.2,hfull];rfl⟩
 ·match i,hi,hv with
  |0,_,hv=>cases hv
  |i+1,hi,_=>simp at hi
 ·obtain⟨t,ht,rfl⟩:=ysB_get hu
  rw[butL_zero]at ht
  refine⟨rfl,?_⟩
  refine AWP.forget (t:=(setPs [29] [.agg [.list 2 b.lines.length (rowsOf tPair t.pairs),.list 5 (b.lines.length+1) (rowsOf tHave (t.haves.map fnH))]] (t22 b)).set 28 uU) (by simp) (forget_set _ 28) ?_
  refine AWP.wp mx (T22a b.lines.length t.pairs (t.haves.map fnH) head (pWhere b head day ((truthsR b []).take k)) ln) (g22a b.lines.length t.pairs (t.haves.map fnH) head (pWhere b head day ((truthsR b []).take k)) ln) (n22a b.lines.length t.pairs (t.haves.map fnH) head (pWhere b head day ((truthsR b []).take k)) ln) .e rfl (s22a b.lines.length t.pairs (t.haves.map fnH) head (pWhere b head day ((truthsR b []).take k)) ln)
   (post:=fun r=>(n22a b.lines.length t.pairs (t.haves.map fnH) head (pWhere b head day ((truthsR b []).take k)) ln r).1=.normal∧(n22a b.lines.length t.pairs (t.haves.map fnH) head (pWhere b head day ((truthsR b []).take k)) ln r).2=(g22b b.lines.length t.pairs (t.haves.map fnH) head (pWhere b head day ((truthsR b []).take k)) ln 0 .e).2) ?_ (fun r hr=> ?_)
  ·refine WP.step ?_
   simp only[T22a,Go,Ends',Tr.sure,SS]
   repeat' with_reducible first|intro _|apply And.intro
   all_goals exact rfl
  ·rw[hr.2]
   refine⟨hr.1,rfl,?_⟩
   have hmem:=List.mem_of_getElem? ht
   obtain⟨g1,g2,g3,g4⟩:=perm_get (have_in h hmem (k:=ln) (by omega))
   have hfn:=have_fn h hmem (k:=ln) (by omega)
   have hat:atR b t day=t.haves.getD ln []:=by unfold atR;rw[hln,Int.toNat_natCast]
   have hpk:=pWhere_step b head day hat (take_get ht)
   obtain⟨ix,i1,i2⟩:=g4 head hv.1 hv.2
   have hnx:setI (pWhere b head day ((truthsR b []).take (k+1)))=setI fun i=>pWhere b head day ((truthsR b []).take k) i||ix==i:=by
    refine setI_congr fun i hi=> ?_
    rw[hpk]
    congr 1
    rw[Bool.eq_iff_iff,Bool.and_eq_true,decide_eq_true_eq,beq_iff_eq,beq_iff_eq]
    constructor
    ·rintro⟨q1,q2⟩
     exact nodup_get g2 (by omega) (by omega) (i2.trans q2.symm)
    ·rintro rfl;exact⟨i1,i2⟩
   rw[hnx]
   refine body22 l b.lines.length t.pairs (t.haves.map fnH) head _ ln ix (by omega) (by omega) ?_ (fun j hj=> ?_)
   ·rw[hfn,fnH_get (by omega) (by omega)];exact i2
   ·rw[hfn,fnH_get (by omega) (by omega)]
    intro q
    have:=nodup_get g2 (by omega) (by omega) (q.trans i2.symm)
    omega
 ·simp only[List.mem_cons,List.not_mem_nil,or_false]at hb
  rcases hb with rfl|rfl|rfl|rfl|rfl
  ·exact .inl rfl
  ·exact .inr ⟨_,rfl⟩
  ·exact .inl rfl
  ·exact .inr ⟨_,rfl⟩
  ·exact .inr ⟨_,rfl⟩
inductive P22y
 |e
inductive R22y
 |r0 (r1:Int)
 |r1 (r0:List Int) (r1:Int)
noncomputable def T22y(b:Book)(head:Int)(day:Int):P22y→Tr P22y R22y
 |.e=>let c1:List V:=[uU,uU,uU,uU,.ref 1 0 0,uU,uU,uU,uU,uU,.ref 3 0 0,.ref 4 0 0,uU,uU,uU,uU,uU,uU,uU,uU,uU,uU,uU,uU,uU,uU,uU,uU,fG 110 [rR (lk (lookOf b)),rR (iI 0)],uU,uU,uU,uU,uU,uU,uU,uU,uU,uU,uU,uU,uU];let c2:=setI (pWhere b head day (truthsR b []));(.wait 4 (.frz 2 ((decide (1≤1))&&true) (.wait 0 (.vle 17 (.list 1 1 (litC 1 1 [iI head])) (tint.lst ([head]:List Int)) (.call 74 [.agg (cC b),iI day,tint.lst ([head]:List Int)] (.tuple [lk (lookOf b),iI 0]) true true (.br ((0:Int) !=(0:Int)) (.out (.r0 0)) (.call 77 [lk (lookOf b),iI day] (iI (lineN b day)) true true (.call 75 [lk (lookOf b),iI 0] (fG 110 [rR (lk (lookOf b)),rR (iI 0)]) true true (.wait 1 (.drop ⟨[uU,uU,uU,uU,.nil,uU,uU,uU,uU,uU,.nil,.nil,uU,uU,uU,uU,uU,uU,uU,uU,uU,uU,uU,uU,uU,uU,uU,uU,.nil,uU,uU,uU,uU,uU,uU,uU,uU,uU,uU,uU,uU,uU],[.void,.void,.void,.void,.void],[]⟩ (.over (rangeOf Tryz.f22) ⟨c1,[.cells (cC b),.cells [iI head],.gone,.cells [iI 0],.cells [iI (lineN b day)]],[]⟩ .normal ⟨c1,[.cells (cC b),.cells [iI head],.gone,.cells [iI c2],.cells [iI (lineN b day)],.obj (.deferred (some []))],[5]⟩ true (.call 79 [iI c2] (tint.lst (listR c2)) true true (.out (.r1 (listR c2) 0))))))))))))))
noncomputable def g22y(b:Book)(head:Int)(day:Int):P22y→List Item × St
 |.e=>bd Tryz.f22 [.agg (cC b),iI head,iI day] 39
noncomputable def n22y(b:Book)(head:Int)(day:Int):R22y→Exit × St
 |.r0 r1=>(.ret,⟨mk 42 [(6,.nils),(7,iI r1)],[],[]⟩)
 |.r1 r0 r1=>(.ret,⟨mk 42 [(6,tint.lst r0),(7,iI r1)],[.gone,.gone,.gone,.gone,.gone,.obj (.deferred (some []))],[5]⟩)
noncomputable def v22y(b:Book)(head:Int)(day:Int):R22y→V
 |.r0 r1=>.tuple [tint.lst ([]:List Int),iI r1]
 |.r1 r0 r1=>.tuple [tint.lst r0,iI r1]
theorem s22y(b:Book)(head:Int)(day:Int):Sm 0 (g22y b head day) (T22y b head day) (n22y b head day)
 |.e=>⟨400,by kernel_rfl⟩
theorem q22y(b:Book)(head:Int)(day:Int):∀r,bodyQ Tryz.prog Tryz.f22 (·=v22y b head day r) (n22y b head day r).1 (n22y b head day r).2
 |.r0 r1=>⟨.inr rfl,by simp[n22y],(.tuple [.nils,iI r1]),(.tuple [tint.lst ([]:List Int),iI r1]),by kernel_rfl,(.tuple rfl fun j hj=>match j,hj with|0,_=>.weak (.imm rfl) VLe.nils|1,_=>.imm rfl),rfl⟩
 |.r1 r0 r1=>⟨.inr rfl,by simp[n22y],(.tuple [tint.lst r0,iI r1]),(.tuple [tint.lst r0,iI r1]),by kernel_rfl,(.imm rfl),rfl⟩
theorem w22y(b:Book)(head:Int)(day:Int){post:V→Prop}(h:WP Tryz.prog ⟨none,0⟩ (T22y b head day) (Ends' fun r=>post (v22y b head day r)) .e):PC 22 [.agg (cC b),iI head,iI day] post:=
 PCalls.wq Tryz.func22 (s22y b head day) (q22y b head day) h
inductive P22n
 |e
inductive R22n
 |r0 (r1:Int)
noncomputable def T22n(b:Book)(head:Int)(day:Int):P22n→Tr P22n R22n
 |.e=>let c1:=toldR b [head] day;(.call 74 [.agg (cC b),iI day,.list 1 1 (litC 1 1 [iI head])] (.tuple [.nil,iI (c1.2)]) ((decide (1≤1))&&true) true (.br (c1.2 !=(0:Int)) (.out (.r0 (c1.2))) (.wait 2 .never)))
noncomputable def g22n(b:Book)(head:Int)(day:Int):P22n→List Item × St
 |.e=>bd Tryz.f22 [.agg (cC b),iI head,iI day] 39
noncomputable def n22n(b:Book)(head:Int)(day:Int):R22n→Exit × St
 |.r0 r1=>(.ret,⟨mk 42 [(6,.nils),(7,iI r1)],[],[]⟩)
noncomputable def v22n(b:Book)(head:Int)(day:Int):R22n→V
 |.r0 r1=>.tuple [tint.lst ([]:List Int),iI r1]
theorem s22n(b:Book)(head:Int)(day:Int):Sm 0 (g22n b head day) (T22n b head day) (n22n b head day)
 |.e=>⟨400,by kernel_rfl⟩
theorem q22n(b:Book)(head:Int)(day:Int):∀r,bodyQ Tryz.prog Tryz.f22 (·=v22n b head day r) (n22n b head day r).1 (n22n b head day r).2
 |.r0 r1=>⟨.inr rfl,by simp[n22n],(.tuple [.nils,iI r1]),(.tuple [tint.lst ([]:List Int),iI r1]),by kernel_rfl,(.tuple rfl fun j hj=>match j,hj with|0,_=>.weak (.imm rfl) VLe.nils|1,_=>.imm rfl),rfl⟩
theorem w22n(b:Book)(head:Int)(day:Int){post:V→Prop}(h:WP Tryz.prog ⟨none,0⟩ (T22n b head day) (Ends' fun r=>post (v22n b head day r)) .e):PC 22 [.agg (cC b),iI head,iI day] post:=
 PCalls.wq Tryz.func22 (s22n b head day) (q22n b head day) h
theorem c22(b:Book)(head day:Int):PC 22 [.agg (tBook.cells b),iI head,iI day] (·=.tuple [tint.lst (whereR b head day).1,iI (whereR b head day).2]):=by
 have k74:=c74 b day [head]
 have hlit:VLe (.list 1 1 (litC 1 1 [iI head])) (tint.lst [head]):=VLe.lit tint [head] rfl rfl (fun _=>rfl)
 by_cases h0:(toldR b [head] day).2=0
 ·obtain⟨hok,hns,hday,hne,htl⟩:=told_ok h0
  have hv:=hns head (by simp)
  have hP:whereR b head day=(listR (setI (pWhere b head day (truthsR b []))),0):=by
   unfold whereR
   rw[if_neg (fun q=>q h0),listR_set _ hok.nb (fun i hi _=>by unfold pWhere;rw[decide_eq_false (by omega)];rfl)]
   congr 2
   refine List.filter_congr fun i hi=> ?_
   unfold pWhere
   rw[decide_eq_true (List.mem_range.1 hi)];rfl
  rw[if_pos h0,h0]at k74
  obtain⟨ln,hln⟩:∃ln:Nat,lineN b day=(ln:Int):=⟨_,(Int.toNat_of_nonneg (lineN_in b day).1).symm⟩
  have k77:=c77 b hok day
  have k75:=c75 (lookOf b) 0
  have k79:=c79 (setI (pWhere b head day (truthsR b [])))
  have hr:=range22 b hok head day ln hln hv
  rw[←hln]at hr
  rw[hP]
  refine w22y b head day (WP.step ?_)
  simp only[T22y,Go,Ends',v22y,Tr.sure,SS]
  repeat' with_reducible first|intro _|apply And.intro
  all_goals first|exact k74|exact k75|exact k77|exact k79|exact(by with_reducible exact hlit)|exact hr|(simp[Go,Ends',v22y,-List.getD_eq_getElem?_getD, *];done)
 ·have hP:whereR b head day=([],(toldR b [head] day).2):=by unfold whereR;rw[if_pos h0]
  rw[if_neg h0]at k74
  rw[hP]
  refine w22n b head day (WP.step ?_)
  simp only[T22n,Go,Ends',v22n,Tr.sure,SS,h0]
  repeat' with_reducible first|intro _|apply And.intro
  all_goals first|exact(PCalls.arg (pre:=[.agg (tBook.cells b),iI day]) k74 hlit)|(simp[h0,Go,Ends',v22n,-List.getD_eq_getElem?_getD, *];done)
inductive P25a
 |e
inductive R25a
 |r0 (r0:Int) (r1:Int) (r2:Int)
noncomputable def T25a(n:Nat)(P:List Pair)(H:List (Nat→Int))(hd:Int)(p:Nat→Bool)(ln:Nat):P25a→Tr P25a R25a
 |.e=>(.out (.r0 hd (setI p) (ln:Int)))
noncomputable def g25a(n:Nat)(P:List Pair)(H:List (Nat→Int))(hd:Int)(p:Nat→Bool)(ln:Nat):P25a→List Item × St
 |.e=>([.code (asgOf (rangeOf Tryz.f25))],⟨[uU,uU,uU,uU,.ref 1 0 0,uU,uU,uU,uU,uU,.ref 3 0 0,.ref 4 0 0,uU,uU,uU,uU,uU,uU,uU,uU,uU,uU,uU,uU,uU,uU,uU,uU,uU,.agg [.list 2 n (rowsOf tPair P),.list 5 (n+1) (rowsOf tHave H)],uU,uU,uU,uU,uU,uU,uU,uU,uU,uU,uU,uU],[.gone,.cells [iI hd],.gone,.cells [iI (setI p)],.cells [iI (ln:Int)]],[]⟩)
noncomputable def n25a(n:Nat)(P:List Pair)(H:List (Nat→Int))(hd:Int)(p:Nat→Bool)(ln:Nat):R25a→Exit × St
 |.r0 r0 r1 r2=>(.normal,⟨mk 42 [(4,.ref 1 0 0),(10,.ref 3 0 0),(11,.ref 4 0 0),(12,.ref 5 0 0)],[.gone,.cells [iI r0],.gone,.cells [iI r1],.cells [iI r2],.cells [.list 2 n (rowsOf tPair P),.list 5 (n+1) (rowsOf tHave H)]],[]⟩)
theorem s25a(n:Nat)(P:List Pair)(H:List (Nat→Int))(hd:Int)(p:Nat→Bool)(ln:Nat):Sm 5 (g25a n P H hd p ln) (T25a n P H hd p ln) (n25a n P H hd p ln)
 |.e=>⟨400,by kernel_rfl⟩
inductive P25b
 |e
inductive R25b
 |r0 (r0:Int) (r1:Int) (r2:Int)
noncomputable def T25b(n:Nat)(P:List Pair)(H:List (Nat→Int))(hd:Int)(p:Nat→Bool)(ln:Nat):P25b→Tr P25b R25b
 |.e=>let c1:=H.getD ((ln:Int)).toNat tHave.zero;let c2:=decide (0≤(ln:Int))&&decide ((ln:Int)<((n+1):Int));let c3:=true&&true;let c4:=(1:Int)*2^(min ((c1 4)).toNat 64);let c5:=(1:Int)*2^(min ((c1 3)).toNat 64);let c6:=(1:Int)*2^(min ((c1 2)).toNat 64);let c7:=(1:Int)*2^(min ((c1 1)).toNat 64);let c8:=(1:Int)*2^(min ((c1 0)).toNat 64);(.wait 1 (.cas (decide (hd=0)) (.telc 1 [iI hd] [iI 0] (.front [] [] ((true&&(true&&(true&&(true&&(true&&(c2&&(((decide (0≤(0:Int))&&decide ((0:Int)<(5:Int)))&&true)&&(true&&((decide (0≤(c1 0))&&inR .i64 c8)&&c3)))))))))&&true) true (.out (.r0 0 (bitsOf .or .i64 (setI p) c8) (ln:Int))))) (.cas (decide (hd=1)) (.telc 1 [iI hd] [iI 1] (.front [] [] ((true&&(true&&(true&&(true&&(true&&(c2&&(((decide (0≤(1:Int))&&decide ((1:Int)<(5:Int)))&&true)&&(true&&((decide (0≤(c1 1))&&inR .i64 c7)&&c3)))))))))&&true) true (.out (.r0 1 (bitsOf .or .i64 (setI p) c7) (ln:Int))))) (.cas (decide (hd=2)) (.telc 1 [iI hd] [iI 2] (.front [] [] ((true&&(true&&(true&&(true&&(true&&(c2&&(((decide (0≤(2:Int))&&decide ((2:Int)<(5:Int)))&&true)&&(true&&((decide (0≤(c1 2))&&inR .i64 c6)&&c3)))))))))&&true) true (.out (.r0 2 (bitsOf .or .i64 (setI p) c6) (ln:Int))))) (.cas (decide (hd=3)) (.telc 1 [iI hd] [iI 3] (.front [] [] ((true&&(true&&(true&&(true&&(true&&(c2&&(((decide (0≤(3:Int))&&decide ((3:Int)<(5:Int)))&&true)&&(true&&((decide (0≤(c1 3))&&inR .i64 c5)&&c3)))))))))&&true) true (.out (.r0 3 (bitsOf .or .i64 (setI p) c5) (ln:Int))))) (.cas (decide (hd=4)) (.telc 1 [iI hd] [iI 4] (.front [] [] ((true&&(true&&(true&&(true&&(true&&(c2&&(((decide (0≤(4:Int))&&decide ((4:Int)<(5:Int)))&&true)&&(true&&((decide (0≤(c1 4))&&inR .i64 c4)&&c3)))))))))&&true) true (.out (.r0 4 (bitsOf .or .i64 (setI p) c4) (ln:Int))))) .never))))))
noncomputable def g25b(n:Nat)(P:List Pair)(H:List (Nat→Int))(hd:Int)(p:Nat→Bool)(ln:Nat):P25b→List Item × St
 |.e=>([.code (bdyOf (rangeOf Tryz.f25))],⟨[uU,uU,uU,uU,.ref 1 0 0,uU,uU,uU,uU,uU,.ref 3 0 0,.ref 4 0 0,.ref 5 0 0,uU,uU,uU,uU,uU,uU,uU,uU,uU,uU,uU,uU,uU,uU,uU,uU,uU,uU,uU,uU,uU,uU,uU,uU,uU,uU,uU,uU,uU],[.gone,.cells [iI hd],.gone,.cells [iI (setI p)],.cells [iI (ln:Int)],.cells [.list 2 n (rowsOf tPair P),.list 5 (n+1) (rowsOf tHave H)]],[]⟩)
noncomputable def n25b(n:Nat)(P:List Pair)(H:List (Nat→Int))(hd:Int)(p:Nat→Bool)(ln:Nat):R25b→Exit × St
 |.r0 r0 r1 r2=>(.normal,⟨mk 42 [],[.gone,.cells [iI r0],.gone,.cells [iI r1],.cells [iI r2]],[]⟩)
theorem s25b(n:Nat)(P:List Pair)(H:List (Nat→Int))(hd:Int)(p:Nat→Bool)(ln:Nat):Sm 5 (g25b n P H hd p ln) (T25b n P H hd p ln) (n25b n P H hd p ln)
 |.e=>⟨400,by kernel_rfl⟩
def pOn(b:Book)(body day:Int)(l:List Truth):Nat→Bool:=fun h=>anyT b day l body.toNat (h:Int)
theorem pOn_step(b:Book)(body day:Int){l l':List Truth}{t:Truth}{hv:List Int}(ha:atR b t day=hv)(hl:l'=l++ [t])(i:Nat):pOn b body day l' i=(pOn b body day l i||hv.getD body.toNat 0==(i:Int)):=by
 unfold pOn;rw[hl,anyT_snoc,ha]
theorem pOn_off{b:Book}(h:OkBook b){body day:Int}(hns:∀n∈ [body],0≤n∧n<b.bodies.length)(hday:0≤day∧day≤364)(i:Nat)(hi:b.heads.length≤i)(_:i<5):pOn b body day (truthsR b []) i=false:=by
 have hv:=hns body (by simp)
 unfold pOn anyT
 rw[List.any_eq_false]
 intro t ht
 have hin:=lineN_in b day
 obtain⟨_,_,g3,_⟩:=perm_get (have_in h ht (k:=(lineN b day).toNat) (by omega))
 have:=g3 body.toNat (by omega)
 rw[h.nh]at hi
 unfold atR
 rw[Bool.not_eq_true,beq_eq_false_iff_ne]
 omega
theorem body25(l:Nat)(n:Nat)(P:List Pair)(H:List (Nat→Int))(hd:Int)(p:Nat→Bool)(ln ix:Nat)(hln:ln≤n)(hix:ix<5)(h0:0≤hd∧hd<5)(hv:(H.getD ln tHave.zero) hd.toNat=(ix:Int)):
  AWP Tryz.prog ⟨some l,5⟩ (bdyOf (rangeOf Tryz.f25)) (g25b n P H hd p ln .e).2 fun e S2=>e=.normal∧S2.h=[.gone,.cells [iI hd],.gone,.cells [iI (setI fun i=>p i||ix==i)],.cells [iI (ln:Int)]]:=by
 have hln':(ln:Int)<((n+1:Nat):Int):=by omega
 have hln2:(ln:Int)<(n:Int)+1:=by omega
 have hor:=setI_or p hix
 have hsh:=shl_in hix
 generalize hG:H.getD ln tHave.zero=G at*
 refine AWP.wp mx (T25b n P H hd p ln) (g25b n P H hd p ln) (n25b n P H hd p ln) .e rfl (s25b n P H hd p ln) (post:=fun r=>(n25b n P H hd p ln r).1=.normal∧(n25b n P H hd p ln r).2.h=[.gone,.cells [iI hd],.gone,.cells [iI (setI fun i=>p i||ix==i)],.cells [iI (ln:Int)]]) ?_ (fun r hr=>hr)
 rw[←hor]
 rcases show hd=0∨hd=1∨hd=2∨hd=3∨hd=4 by omega with rfl|rfl|rfl|rfl|rfl
 all_goals simp only[Int.toNat_zero,Int.toNat_one,Int.reduceToNat]at hv
 ·refine WP.step ?_
  simp only[T25b,Go,Ends',Tr.sure,SS,hG,hv,Int.toNat_natCast,Int.reduceEq]
  repeat' with_reducible first|intro _|apply And.intro
  all_goals first|exact(VLe.refl _)|(simp[hsh,Go,Ends',-List.getD_eq_getElem?_getD, *];done)|(simp_all [hsh,Go,Ends',-List.getD_eq_getElem?_getD];done)|skip
  all_goals exact rfl
 ·refine WP.step ?_
  simp only[T25b,Go,Ends',Tr.sure,SS,hG,hv,Int.toNat_natCast,Int.reduceEq]
  repeat' with_reducible first|intro _|apply And.intro
  all_goals first|exact(VLe.refl _)|(simp[hsh,Go,Ends',-List.getD_eq_getElem?_getD, *];done)|(simp_all [hsh,Go,Ends',-List.getD_eq_getElem?_getD];done)|skip
  all_goals exact rfl
 ·refine WP.step ?_
  simp only[T25b,Go,Ends',Tr.sure,SS,hG,hv,Int.toNat_natCast,Int.reduceEq]
  repeat' with_reducible first|intro _|apply And.intro
  all_goals first|exact(VLe.refl _)|(simp[hsh,Go,Ends',-List.getD_eq_getElem?_getD, *];done)|(simp_all [hsh,Go,Ends',-List.getD_eq_getElem?_getD];done)|skip
  all_goals exact rfl
 ·refine WP.step ?_
  simp only[T25b,Go,Ends',Tr.sure,SS,hG,hv,Int.toNat_natCast,Int.reduceEq]
  repeat' with_reducible first|intro _|apply And.intro
  all_goals first|exact(VLe.refl _)|(simp[hsh,Go,Ends',-List.getD_eq_getElem?_getD, *];done)|(simp_all [hsh,Go,Ends',-List.getD_eq_getElem?_getD];done)|skip
  all_goals exact rfl
 ·refine WP.step ?_
  simp only[T25b,Go,Ends',Tr.sure,SS,hG,hv,Int.toNat_natCast,Int.reduceEq]
  repeat' with_reducible first|intro _|apply And.intro
  all_goals first|exact(VLe.refl _)|(simp[hsh,Go,Ends',-List.getD_eq_getElem?_getD, *];done)|(simp_all [hsh,Go,Ends',-List.getD_eq_getElem?_getD];done)|skip
  all_goals exact rfl
abbrev t25(b:Book):List V:=[uU,uU,uU,uU,.ref 1 0 0,uU,uU,uU,uU,uU,.ref 3 0 0,.ref 4 0 0]++List.replicate 16 uU++ [trF b 0]++List.replicate 13 uU
theorem range25(b:Book)(h:OkBook b)(body day:Int)(ln:Nat)(hln:lineN b day=(ln:Int))(hv:0≤body∧body<b.bodies.length):
  AWP Tryz.prog ⟨none,0⟩ (rangeOf Tryz.f25) ⟨t25 b,[.cells (tBook.cells b),.cells [iI body],.gone,.cells [iI 0],.cells [iI (ln:Int)]],[]⟩ (fun e T=>e=.normal∧T=⟨t25 b,[.cells (tBook.cells b),.cells [iI body],.gone,.cells [iI (setI (pOn b body day (truthsR b [])))],.cells [iI (ln:Int)],.obj (.deferred (some []))],[5]⟩):=by
 have e:rangeOf Tryz.f25=.rangeFunc (.tmp 28) #[29] (asgOf (rangeOf Tryz.f25)) (bdyOf (rangeOf Tryz.f25)):=by kernel_rfl
 have hb5:=h.nb
 have hln2:=lineN_in b day
 rw[hln]at hln2
 have hlen:(ysB b 0).length=(truthsR b []).length:=by unfold ysB;rw[List.length_map,butL_zero]
 have hfull:(truthsR b []).take (ysB b 0).length=truthsR b []:=by rw[hlen,List.take_length]
 have h00:setI (pOn b body day ((truthsR b []).take 0))=0:=(setI_congr (q:=fun _=>false) fun i _=>by simp[pOn,anyT]).trans rfl
 rw[e]
 refine(AWP.rangeVT (fs:=[true]) (T:=t25 b) (H:=fun k=>[.gone,.cells [iI body],.gone,.cells [iI (setI (pOn b body day ((truthsR b []).take k)))],.cells [iI (ln:Int)]]) (f:=110) (ys:=ysB b 0) (caps:=[rR (lk (lookOf b)),rR (iI 0)])
  rfl rfl (fun i hi hv=> ?_) rfl (fun j=>.inl rfl) rfl rfl (PCalls.enters Tryz.func110 (c:=Tryz.f110.body.getD .skip) (by kernel_rfl) (by kernel_rfl)) (c110 b h 0) (by show[_,_,_,Blk.cells [iI (setI _)],_]=_;rw[h00];rfl) (fun _=>rfl) (fun _=>rfl) (fun l k us hu=> ?_) (fun q i k hk=>freeI _ (fun b hb=> ?_) i k hk)).mono fun e T q=>⟨q.1,by rw[q.2,hfull];rfl⟩
 ·match i,hi,hv with
  |0,_,hv=>cases hv
  |i+1,hi,_=>simp at hi
 ·obtain⟨t,ht,rfl⟩:=ysB_get hu
  rw[butL_zero]at ht
  refine⟨rfl,?_⟩
  refine AWP.forget (t:=(setPs [29] [.agg [.list 2 b.lines.length (rowsOf tPair t.pairs),.list 5 (b.lines.length+1) (rowsOf tHave (t.haves.map fnH))]] (t25 b)).set 28 uU) (by simp) (forget_set _ 28) ?_
  refine AWP.wp mx (T25a b.lines.length t.pairs (t.haves.map fnH) body (pOn b body day ((truthsR b []).take k)) ln) (g25a b.lines.length t.pairs (t.haves.map fnH) body (pOn b body day ((truthsR b []).take k)) ln) (n25a b.lines.length t.pairs (t.haves.map fnH) body (pOn b body day ((truthsR b []).take k)) ln) .e rfl (s25a b.lines.length t.pairs (t.haves.map fnH) body (pOn b body day ((truthsR b []).take k)) ln)
   (post:=fun r=>(n25a b.lines.length t.pairs (t.haves.map fnH) body (pOn b body day ((truthsR b []).take k)) ln r).1=.normal∧(n25a b.lines.length t.pairs (t.haves.map fnH) body (pOn b body day ((truthsR b []).take k)) ln r).2=(g25b b.lines.length t.pairs (t.haves.map fnH) body (pOn b body day ((truthsR b []).take k)) ln .e).2) ?_ (fun r hr=> ?_)
  ·refine WP.step ?_
   simp only[T25a,Go,Ends',Tr.sure,SS]
   repeat' with_reducible first|intro _|apply And.intro
   all_goals exact rfl
  ·rw[hr.2]
   refine⟨hr.1,rfl,?_⟩
   have hmem:=List.mem_of_getElem? ht
   obtain⟨g1,g2,g3,g4⟩:=perm_get (have_in h hmem (k:=ln) (by omega))
   have hfn:=have_fn h hmem (k:=ln) (by omega)
   have hat:atR b t day=t.haves.getD ln []:=by unfold atR;rw[hln,Int.toNat_natCast]
   have hpk:=pOn_step b body day hat (take_get ht)
   obtain⟨w1,w2⟩:=g3 body.toNat (by omega)
   obtain⟨ix,hix⟩:∃ix:Nat,(t.haves.getD ln []).getD body.toNat 0=(ix:Int):=⟨_,(Int.toNat_of_nonneg w1).symm⟩
   have hnx:setI (pOn b body day ((truthsR b []).take (k+1)))=setI fun i=>pOn b body day ((truthsR b []).take k) i||ix==i:=by
    refine setI_congr fun i hi=> ?_
    rw[hpk,hix]
    congr 1
    rw[Bool.eq_iff_iff,beq_iff_eq,beq_iff_eq];omega
   rw[hnx]
   refine body25 l b.lines.length t.pairs (t.haves.map fnH) body _ ln ix (by omega) (by omega) ⟨hv.1,by omega⟩ ?_
   rw[hfn,fnH_get (by omega) (by omega)];exact hix
 ·simp only[List.mem_cons,List.not_mem_nil,or_false]at hb
  rcases hb with rfl|rfl|rfl|rfl|rfl
  ·exact .inl rfl
  ·exact .inr ⟨_,rfl⟩
  ·exact .inl rfl
  ·exact .inr ⟨_,rfl⟩
  ·exact .inr ⟨_,rfl⟩
inductive P25y
 |e
inductive R25y
 |r0 (r1:Int)
 |r1 (r0:List Int) (r1:Int)
noncomputable def T25y(b:Book)(body:Int)(day:Int):P25y→Tr P25y R25y
 |.e=>let c1:List V:=[uU,uU,uU,uU,.ref 1 0 0,uU,uU,uU,uU,uU,.ref 3 0 0,.ref 4 0 0,uU,uU,uU,uU,uU,uU,uU,uU,uU,uU,uU,uU,uU,uU,uU,uU,fG 110 [rR (lk (lookOf b)),rR (iI 0)],uU,uU,uU,uU,uU,uU,uU,uU,uU,uU,uU,uU,uU];let c2:=setI (pOn b body day (truthsR b []));(.wait 4 (.frz 2 ((decide (1≤1))&&true) (.wait 0 (.vle 17 (.list 1 1 (litC 1 1 [iI body])) (tint.lst ([body]:List Int)) (.call 74 [.agg (cC b),iI day,tint.lst ([body]:List Int)] (.tuple [lk (lookOf b),iI 0]) true true (.br ((0:Int) !=(0:Int)) (.out (.r0 0)) (.call 77 [lk (lookOf b),iI day] (iI (lineN b day)) true true (.call 75 [lk (lookOf b),iI 0] (fG 110 [rR (lk (lookOf b)),rR (iI 0)]) true true (.wait 1 (.drop ⟨[uU,uU,uU,uU,.nil,uU,uU,uU,uU,uU,.nil,.nil,uU,uU,uU,uU,uU,uU,uU,uU,uU,uU,uU,uU,uU,uU,uU,uU,.nil,uU,uU,uU,uU,uU,uU,uU,uU,uU,uU,uU,uU,uU],[.void,.void,.void,.void,.void],[]⟩ (.over (rangeOf Tryz.f25) ⟨c1,[.cells (cC b),.cells [iI body],.gone,.cells [iI 0],.cells [iI (lineN b day)]],[]⟩ .normal ⟨c1,[.cells (cC b),.cells [iI body],.gone,.cells [iI c2],.cells [iI (lineN b day)],.obj (.deferred (some []))],[5]⟩ true (.call 79 [iI c2] (tint.lst (listR c2)) true true (.out (.r1 (listR c2) 0))))))))))))))
noncomputable def g25y(b:Book)(body:Int)(day:Int):P25y→List Item × St
 |.e=>bd Tryz.f25 [.agg (cC b),iI body,iI day] 39
noncomputable def n25y(b:Book)(body:Int)(day:Int):R25y→Exit × St
 |.r0 r1=>(.ret,⟨mk 42 [(6,.nils),(7,iI r1)],[],[]⟩)
 |.r1 r0 r1=>(.ret,⟨mk 42 [(6,tint.lst r0),(7,iI r1)],[.gone,.gone,.gone,.gone,.gone,.obj (.deferred (some []))],[5]⟩)
noncomputable def v25y(b:Book)(body:Int)(day:Int):R25y→V
 |.r0 r1=>.tuple [tint.lst ([]:List Int),iI r1]
 |.r1 r0 r1=>.tuple [tint.lst r0,iI r1]
theorem s25y(b:Book)(body:Int)(day:Int):Sm 0 (g25y b body day) (T25y b body day) (n25y b body day)
 |.e=>⟨400,by kernel_rfl⟩
theorem q25y(b:Book)(body:Int)(day:Int):∀r,bodyQ Tryz.prog Tryz.f25 (·=v25y b body day r) (n25y b body day r).1 (n25y b body day r).2
 |.r0 r1=>⟨.inr rfl,by simp[n25y],(.tuple [.nils,iI r1]),(.tuple [tint.lst ([]:List Int),iI r1]),by kernel_rfl,(.tuple rfl fun j hj=>match j,hj with|0,_=>.weak (.imm rfl) VLe.nils|1,_=>.imm rfl),rfl⟩
 |.r1 r0 r1=>⟨.inr rfl,by simp[n25y],(.tuple [tint.lst r0,iI r1]),(.tuple [tint.lst r0,iI r1]),by kernel_rfl,(.imm rfl),rfl⟩
theorem w25y(b:Book)(body:Int)(day:Int){post:V→Prop}(h:WP Tryz.prog ⟨none,0⟩ (T25y b body day) (Ends' fun r=>post (v25y b body day r)) .e):PC 25 [.agg (cC b),iI body,iI day] post:=
 PCalls.wq Tryz.func25 (s25y b body day) (q25y b body day) h
inductive P25n
 |e
inductive R25n
 |r0 (r1:Int)
noncomputable def T25n(b:Book)(body:Int)(day:Int):P25n→Tr P25n R25n
 |.e=>let c1:=toldR b [body] day;(.call 74 [.agg (cC b),iI day,.list 1 1 (litC 1 1 [iI body])] (.tuple [.nil,iI (c1.2)]) ((decide (1≤1))&&true) true (.br (c1.2 !=(0:Int)) (.out (.r0 (c1.2))) (.wait 2 .never)))
noncomputable def g25n(b:Book)(body:Int)(day:Int):P25n→List Item × St
 |.e=>bd Tryz.f25 [.agg (cC b),iI body,iI day] 39
noncomputable def n25n(b:Book)(body:Int)(day:Int):R25n→Exit × St
 |.r0 r1=>(.ret,⟨mk 42 [(6,.nils),(7,iI r1)],[],[]⟩)
noncomputable def v25n(b:Book)(body:Int)(day:Int):R25n→V
 |.r0 r1=>.tuple [tint.lst ([]:List Int),iI r1]
theorem s25n(b:Book)(body:Int)(day:Int):Sm 0 (g25n b body day) (T25n b body day) (n25n b body day)
 |.e=>⟨400,by kernel_rfl⟩
theorem q25n(b:Book)(body:Int)(day:Int):∀r,bodyQ Tryz.prog Tryz.f25 (·=v25n b body day r) (n25n b body day r).1 (n25n b body day r).2
 |.r0 r1=>⟨.inr rfl,by simp[n25n],(.tuple [.nils,iI r1]),(.tuple [tint.lst ([]:List Int),iI r1]),by kernel_rfl,(.tuple rfl fun j hj=>match j,hj with|0,_=>.weak (.imm rfl) VLe.nils|1,_=>.imm rfl),rfl⟩
theorem w25n(b:Book)(body:Int)(day:Int){post:V→Prop}(h:WP Tryz.prog ⟨none,0⟩ (T25n b body day) (Ends' fun r=>post (v25n b body day r)) .e):PC 25 [.agg (cC b),iI body,iI day] post:=
 PCalls.wq Tryz.func25 (s25n b body day) (q25n b body day) h
theorem c25(b:Book)(body day:Int):PC 25 [.agg (tBook.cells b),iI body,iI day] (·=.tuple [tint.lst (onR b body day).1,iI (onR b body day).2]):=by
 have k74:=c74 b day [body]
 have hlit:VLe (.list 1 1 (litC 1 1 [iI body])) (tint.lst [body]):=VLe.lit tint [body] rfl rfl (fun _=>rfl)
 by_cases h0:(toldR b [body] day).2=0
 ·obtain⟨hok,hns,hday,hne,htl⟩:=told_ok h0
  have hv:=hns body (by simp)
  have hP:onR b body day=(listR (setI (pOn b body day (truthsR b []))),0):=by
   unfold onR
   rw[if_neg (fun q=>q h0),listR_set _ (n:=b.heads.length) (by rw[hok.nh];exact hok.nb) (pOn_off hok hns hday)]
   rfl
  rw[if_pos h0,h0]at k74
  obtain⟨ln,hln⟩:∃ln:Nat,lineN b day=(ln:Int):=⟨_,(Int.toNat_of_nonneg (lineN_in b day).1).symm⟩
  have k77:=c77 b hok day
  have k75:=c75 (lookOf b) 0
  have k79:=c79 (setI (pOn b body day (truthsR b [])))
  have hr:=range25 b hok body day ln hln hv
  rw[←hln]at hr
  rw[hP]
  refine w25y b body day (WP.step ?_)
  simp only[T25y,Go,Ends',v25y,Tr.sure,SS]
  repeat' with_reducible first|intro _|apply And.intro
  all_goals first|exact k74|exact k75|exact k77|exact k79|exact(by with_reducible exact hlit)|exact hr|(simp[Go,Ends',v25y,-List.getD_eq_getElem?_getD, *];done)
 ·have hP:onR b body day=([],(toldR b [body] day).2):=by unfold onR;rw[if_pos h0]
  rw[if_neg h0]at k74
  rw[hP]
  refine w25n b body day (WP.step ?_)
  simp only[T25n,Go,Ends',v25n,Tr.sure,SS,h0]
  repeat' with_reducible first|intro _|apply And.intro
  all_goals first|exact(PCalls.arg (pre:=[.agg (tBook.cells b),iI day]) k74 hlit)|(simp[h0,Go,Ends',v25n,-List.getD_eq_getElem?_getD, *];done)
end
end Go.Proofs.YtemgodefhcbleaaGreat
