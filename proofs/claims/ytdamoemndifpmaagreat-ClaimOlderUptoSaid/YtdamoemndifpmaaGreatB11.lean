/-
  Part of the proof of the Claim laws. Conditions: those that stand in each theorem.
-/
import Derived.Test.YtdamoemndifpmaaGreatB10
set_option linter.unusedSimpArgs false
set_option linter.unusedVariables false
set_option maxRecDepth 100000
namespace Go.Proofs.YtdamoemndifpmaaGreat
open Ab Go
noncomputable section
theorem VLe.app0{c0 c:Nat->Nat->V}(r j:Nat):VLe (appC 0 c0 c r j) (c r j):=by
 have:appC 0 c0 c r j=c r j:=by unfold appC;rw[if_neg (Nat.not_lt_zero r),Nat.sub_zero]
 rw[this];exact VLe.refl _
inductive P146
 |e
inductive R146
 |r0 (r0:List Head)
 |r1 (r0:List Head)
def T146(p0:List Head):P146->Tr P146 R146
 |.e=>let c1:=rowsOf tHead p0;(.wait 2 (.own 2 78 2 (.telb 0 2 0 (rowsRev tHead ([])) c1 (.semn (opAt Tryz.f146 1 1) [(.tmp 3,tHead.lst p0)] [.rows 78 2 0 c1] (if p0.length=0 then 2 else 1) (fun j=>.bool (decide (j=1))) (fun j=>[.rows 78 2 0 c1]) true (fun j=>(.br (decide (j=1)) (.wait 2 (.own 2 78 2 (.telb 1 2 0 (rowsRev tHead ([])) c1 (.out (.r0 p0))))) (.need ((decide (0=0)&&decide (0+p0.length<=4294967296))&&true) (.scal (fun r=>(List.range 2).all fun j=>(c1 r j).scalar) (.telb 1 2 (0+p0.length) (appC 0 (litC 2 0 []) c1) c1 (.out (.r1 p0)))))))))))
noncomputable def g146(p0:List Head):P146->List Item × St
 |.e=>bd Tryz.f146 [tHead.lst p0] 7
def n146(p0:List Head):R146->Exit × St
 |.r0 r0=>(.ret,⟨mk 8 [(2,.row 1 0)],[.gone,.rows 78 2 0 (rowsOf tHead r0)],[]⟩)
 |.r1 r0=>(.ret,⟨mk 8 [(2,.row 1 (0+p0.length))],[.gone,.rows 78 2 (0+p0.length) (rowsOf tHead r0)],[]⟩)
theorem s146(p0:List Head):Sm 0 (g146 p0) (T146 p0) (n146 p0)
 |.e=>⟨400,by kernel_rfl⟩
def hh146(p0:List Head):R146->List Blk
 |.r0 r0=>[.gone,.rows 78 2 0 (rowsOf tHead r0)]
 |.r1 r0=>[.gone,.rows 78 2 (0+p0.length) (rowsOf tHead r0)]
def v146(p0:List Head):R146->V
 |.r0 r0=>.row 1 0
 |.r1 r0=>.row 1 (0+p0.length)
theorem q146(p0:List Head):∀r,((n146 p0 r).1=.normal\/(n146 p0 r).1=.ret)/\(n146 p0 r).2.d=[]/\(n146 p0 r).2.h=hh146 p0 r/\resultV Tryz.prog Tryz.f146 (n146 p0 r).2=some (v146 p0 r)
 |.r0 r0=>⟨.inr rfl,rfl,rfl,by kernel_rfl⟩
 |.r1 r0=>⟨.inr rfl,rfl,rfl,by kernel_rfl⟩
theorem w146(p0:List Head){V0:V}{h':List Blk}(h:WP Tryz.prog ⟨none,0⟩ (T146 p0) (Ends' fun r=>v146 p0 r=V0/\hh146 p0 r=h') .e):HCalls Tryz.prog 146 [tHead.lst p0] V0 [] h':=
 HCalls.wp mx Tryz.func146 (by kernel_rfl) (by kernel_rfl) (T146 p0) (g146 p0) (n146 p0) .e rfl (s146 p0) h fun r hr=>by rw[<-hr.1,<-hr.2];exact q146 p0 r
theorem c146'(l:List Head)(hl:l.length<=4294967296):HCalls Tryz.prog 146 [tHead.lst l] (.row 1 l.length) [] [.gone,.rows 78 2 l.length (rowsOf tHead l)]:=by
 have hsem:SemAny Tryz.prog (opAt Tryz.f146 1 1) [(.tmp 3,tHead.lst l)] [.rows 78 2 0 (rowsOf tHead l)] (if l.length=0 then 2 else 1) (fun j=>.bool (decide (j=1))) (fun _=>[.rows 78 2 0 (rowsOf tHead l)]):=sem_eqNil (P:=Tryz.prog) (x:=.tmp 3) (e:=78) (b:=23) (by kernel_rfl);have hn:0+l.length=l.length:=Nat.zero_add _;refine w146 _ (WP.step ?_);simp only[T146,Go,Ends',v146,Tr.sure,SS];repeat' with_reducible first|intro _|apply aI
 all_goals first|exact hsem|exact(VLe.app0 _ _)|exact rfl|(simp[hh146,hn,Go,Ends',v146,-List.getD_eq_getElem?_getD, *];done)|(simp_all [hh146,hn,Go,Ends',v146,-List.getD_eq_getElem?_getD];done)|skip
 all_goals(rename_i j hj h1;subst h1;split at hj<;>first|omega|skip;obtain rfl:l=[]:=List.eq_nil_of_length_eq_zero (by assumption);rfl)
theorem c146(h:List Blk)(l:List Head)(hl:l.length<=4294967296):HCalls Tryz.prog 146 [tHead.lst l] (.row (h.length+1) l.length) h (h++ [.gone,.rows 78 2 l.length (rowsOf tHead l)]):=by
 have:=(c146' l hl).frame rfl rfl h;rw[Nat.add_comm h.length 1];exact this
inductive P77
 |e
inductive R77
 |r0 (r0:List Int)
 |r1 (r0:List Int)
def T77(p0:List Int):P77->Tr P77 R77
 |.e=>let c1:=rowsOf tint p0;(.wait 2 (.own 2 3 1 (.telb 0 1 0 (rowsRev tint ([])) c1 (.semn (opAt Tryz.f77 1 1) [(.tmp 3,tint.lst p0)] [.rows 3 1 0 c1] (if p0.length=0 then 2 else 1) (fun j=>.bool (decide (j=1))) (fun j=>[.rows 3 1 0 c1]) true (fun j=>(.br (decide (j=1)) (.wait 2 (.own 2 3 1 (.telb 1 1 0 (rowsRev tint ([])) c1 (.out (.r0 p0))))) (.need ((decide (0=0)&&decide (0+p0.length<=4294967296))&&true) (.scal (fun r=>(List.range 1).all fun j=>(c1 r j).scalar) (.telb 1 1 (0+p0.length) (appC 0 (litC 1 0 []) c1) c1 (.out (.r1 p0)))))))))))
noncomputable def g77(p0:List Int):P77->List Item × St
 |.e=>bd Tryz.f77 [tint.lst p0] 7
def n77(p0:List Int):R77->Exit × St
 |.r0 r0=>(.ret,⟨mk 8 [(2,.row 1 0)],[.gone,.rows 3 1 0 (rowsOf tint r0)],[]⟩)
 |.r1 r0=>(.ret,⟨mk 8 [(2,.row 1 (0+p0.length))],[.gone,.rows 3 1 (0+p0.length) (rowsOf tint r0)],[]⟩)
theorem s77(p0:List Int):Sm 0 (g77 p0) (T77 p0) (n77 p0)
 |.e=>⟨400,by kernel_rfl⟩
def hh77(p0:List Int):R77->List Blk
 |.r0 r0=>[.gone,.rows 3 1 0 (rowsOf tint r0)]
 |.r1 r0=>[.gone,.rows 3 1 (0+p0.length) (rowsOf tint r0)]
def v77(p0:List Int):R77->V
 |.r0 r0=>.row 1 0
 |.r1 r0=>.row 1 (0+p0.length)
theorem q77(p0:List Int):∀r,((n77 p0 r).1=.normal\/(n77 p0 r).1=.ret)/\(n77 p0 r).2.d=[]/\(n77 p0 r).2.h=hh77 p0 r/\resultV Tryz.prog Tryz.f77 (n77 p0 r).2=some (v77 p0 r)
 |.r0 r0=>⟨.inr rfl,rfl,rfl,by kernel_rfl⟩
 |.r1 r0=>⟨.inr rfl,rfl,rfl,by kernel_rfl⟩
theorem w77(p0:List Int){V0:V}{h':List Blk}(h:WP Tryz.prog ⟨none,0⟩ (T77 p0) (Ends' fun r=>v77 p0 r=V0/\hh77 p0 r=h') .e):HCalls Tryz.prog 77 [tint.lst p0] V0 [] h':=
 HCalls.wp mx Tryz.func77 (by kernel_rfl) (by kernel_rfl) (T77 p0) (g77 p0) (n77 p0) .e rfl (s77 p0) h fun r hr=>by rw[<-hr.1,<-hr.2];exact q77 p0 r
theorem c77'(l:List Int)(hl:l.length<=4294967296):HCalls Tryz.prog 77 [tint.lst l] (.row 1 l.length) [] [.gone,.rows 3 1 l.length (rowsOf tint l)]:=by
 have hsem:SemAny Tryz.prog (opAt Tryz.f77 1 1) [(.tmp 3,tint.lst l)] [.rows 3 1 0 (rowsOf tint l)] (if l.length=0 then 2 else 1) (fun j=>.bool (decide (j=1))) (fun _=>[.rows 3 1 0 (rowsOf tint l)]):=sem_eqNil (P:=Tryz.prog) (x:=.tmp 3) (e:=3) (b:=26) (by kernel_rfl);have hn:0+l.length=l.length:=Nat.zero_add _;refine w77 _ (WP.step ?_);simp only[T77,Go,Ends',v77,Tr.sure,SS];repeat' with_reducible first|intro _|apply aI
 all_goals first|exact hsem|exact(VLe.app0 _ _)|exact rfl|(simp[hh77,hn,Go,Ends',v77,-List.getD_eq_getElem?_getD, *];done)|(simp_all [hh77,hn,Go,Ends',v77,-List.getD_eq_getElem?_getD];done)|skip
 all_goals(rename_i j hj h1;subst h1;split at hj<;>first|omega|skip;obtain rfl:l=[]:=List.eq_nil_of_length_eq_zero (by assumption);rfl)
theorem c77(h:List Blk)(l:List Int)(hl:l.length<=4294967296):HCalls Tryz.prog 77 [tint.lst l] (.row (h.length+1) l.length) h (h++ [.gone,.rows 3 1 l.length (rowsOf tint l)]):=by
 have:=(c77' l hl).frame rfl rfl h;rw[Nat.add_comm h.length 1];exact this
theorem VLe.same{τ:Type}(E:Ty τ)(l:List τ){n:Nat}(h:n=l.length):VLe (.list E.w n (rowsOf E l)) (E.lst l):=by subst h;exact VLe.refl _
theorem VLe.cons{a b:V}{cs bs:List V}(h:VLe a b)(t:∀j,VLe (cs.getD j uU) (bs.getD j uU)):∀j,VLe ((a::cs).getD j uU) ((b::bs).getD j uU)
 |0=>h
 |j+1=>t j
theorem tel_rowL{τ:Type}(E:Ty τ)(l:List τ)(r0 j0:Nat)(x:τ){v:V}(hv:VLe v ((E.cells x).getD j0 uU))(ho:∀j,j≠j0->(E.cells x).getD j uU=(E.cells (l.getD r0 E.zero)).getD j uU){r j:Nat}(hr:r<l.length):
  VLe (if r=r0/\j=j0 then v else rowsOf E l r j) (rowsOf E (l.set r0 x) r j):=by
 by_cases h:r=r0
 ·subst h;have e:(l.set r x).getD r E.zero=x:=by rw[gE,List.getElem?_set_self hr];rfl
  by_cases hj:j=j0
  ·subst hj;simp only[and_self,if_true,rowsOf,e];exact hv
  ·simp only[hj,and_false,if_false,rowsOf,e,ho j hj];exact VLe.refl _
 ·have e:(l.set r0 x).getD r E.zero=l.getD r E.zero:=by rw[gE,sN (Ne.symm h),<-List.getD_eq_getElem?_getD]
  simp only[h,false_and,if_false,rowsOf,e];exact VLe.refl _
theorem heads_other(l:List Head)(r0:Nat)(s:List Int):∀j,j≠1->(tHead.cells ⟨(l.getD r0 zHead).name,s⟩).getD j uU=(tHead.cells (l.getD r0 tHead.zero)).getD j uU
 |0,_=>rfl
 |1,h=>absurd rfl h
 |_+2,_=>rfl
inductive P98
 |e
inductive R98
 |r0 (r0_0:Int) (r0_1:List Mould) (r0_2:List Head) (r0_3:List Int) (r0_4:List Claim)
def T98(x:Case)(hd:Int)(ft:Int)(n:Int):P98->Tr P98 R98
 |.e=>let c1:=x.shop.heads.getD (hd).toNat tHead.zero;let c5:=x.shop.heads.length<=x.shop.heads.length;let c6:=(c1.shows).set ((ft).toNat) n;let c2:=x.shop.heads.set ((hd).toNat) (⟨c1.name,c6⟩:Head);let c7:List V:=[iI x.shop.features,tMould.lst x.shop.moulds,.list 2 x.shop.heads.length (rowsOf tHead c2),tint.lst x.owners,tClaim.lst x.claims];let c8:=(c1.shows).length;let c9:=(c1.shows).length<=(c1.shows).length;let c10:List V:=[iI x.shop.features,tMould.lst x.shop.moulds,tHead.lst c2,tint.lst x.owners,tClaim.lst x.claims];let c11:List V:=[iI 0,.nils,.nils,.nils,.nils];let c12:=rowsOf tHead x.shop.heads;let c3:List Blk:=[.cells [iI x.shop.features,tMould.lst x.shop.moulds,.row 3 x.shop.heads.length,tint.lst x.owners,tClaim.lst x.claims],.cells c11,.gone,.rowsL 78 2 x.shop.heads.length c12 ((hd).toNat) 1 (.row 5 c8),.gone,.rows 3 1 c8 (rowsOf tint (c1.shows))];let c4:List Blk:=[.cells [iI x.shop.features,tMould.lst x.shop.moulds,.row 3 x.shop.heads.length,tint.lst x.owners,tClaim.lst x.claims],.cells c11,.gone,.rows 78 2 x.shop.heads.length c12,.gone,.rows 3 1 c8 (rowsOf tint (c1.shows))];let c13:V:=.list 2 x.shop.heads.length (rowsOf tHead c2);let c14:=([iI n]:List V);let c15:=rowsOf tint c6;let c16:=(decide c5)&&true;(.hcall 146 [tHead.lst x.shop.heads] (.row 3 x.shop.heads.length) [.cells (cC x),.cells c11] [.cells (cC x),.cells c11,.gone,.rows 78 2 x.shop.heads.length c12] true (.need ((decide (0<=hd)&&decide (hd<(x.shop.heads.length:Int)))&&decide c5) (.need (decide ((hd).toNat<x.shop.heads.length)&&decide (1<2)) (.hcall 77 [tint.lst (c1.shows)] (.row 5 c8) [.cells [iI x.shop.features,tMould.lst x.shop.moulds,.row 3 x.shop.heads.length,tint.lst x.owners,tClaim.lst x.claims],.cells c11,.gone,.rows 78 2 x.shop.heads.length c12] c4 true (.sem (opAt Tryz.f98 3 8) [(.tmp 28,.ref 3 ((hd).toNat) 1),(.tmp 26,.row 5 c8)] c4 (uU) c3 true (.sem (opAt Tryz.f98 4 3) [(.tmp 31,.ref 3 ((hd).toNat) 1)] c3 (.row 5 c8) c3 true (.need ((decide (0<=ft)&&decide (ft<(c8:Int)))&&decide c9) (.need ((decide ((ft).toNat<(c1.shows).length)&&decide (0+c14.length<=1))&&underL 0 c14) (.telb 5 1 c8 (fun r' j=>if r'=(ft).toNat/\0<=j/\j<0+c14.length then c14.getD (j-0) uU else(rowsOf tint (c1.shows)) r' j) c15 (.wait 2 (.frz 5 (((decide c9)&&((decide c9)&&true))&&((decide c9)&&true)) (.vle 26 (.list 1 c8 c15) (tint.lst c6) (.vle 32 (.list 1 c8 c15) (tint.lst c6) (.telb 3 2 x.shop.heads.length (fun r' j'=>if r'=(hd).toNat/\j'=1 then(.list 1 c8 c15:V)else c12 r' j') (rowsOf tHead c2) (.frz 3 (((decide c5)&&c16)&&(c16&&(c16&&true))) (.vle 13 c13 (tHead.lst c2) (.vle 18 c13 (tHead.lst c2) (.telc 0 c7 c10 (.telc 1 c7 c10 (.out (.r0 x.shop.features x.shop.moulds c2 x.owners x.claims)))))))))))))))))))))
noncomputable def g98(x:Case)(hd:Int)(ft:Int)(n:Int):P98->List Item × St
 |.e=>bd Tryz.f98 [.agg (cC x),iI hd,iI ft,iI n] 33
def n98:R98->Exit × St
 |.r0 r0_0 r0_1 r0_2 r0_3 r0_4=>(.ret,⟨mk 37 [(8,.ref 1 0 0)],[.gone,.cells [iI r0_0,tMould.lst r0_1,tHead.lst r0_2,tint.lst r0_3,tClaim.lst r0_4]],[]⟩)
def v98:R98->V
 |.r0 r0_0 r0_1 r0_2 r0_3 r0_4=>.agg [iI r0_0,tMould.lst r0_1,tHead.lst r0_2,tint.lst r0_3,tClaim.lst r0_4]
theorem s98(x:Case)(hd:Int)(ft:Int)(n:Int):Sm 0 (g98 x hd ft n) (T98 x hd ft n) (n98)
 |.e=>⟨400,by kernel_rfl⟩
theorem q98:∀r,bodyQ Tryz.prog Tryz.f98 (·=v98 r) (n98 r).1 (n98 r).2
 |.r0 r0_0 r0_1 r0_2 r0_3 r0_4=>bq (.agg [iI r0_0,tMould.lst r0_1,tHead.lst r0_2,tint.lst r0_3,tClaim.lst r0_4]) (by kernel_rfl)
theorem w98(x:Case)(hd:Int)(ft:Int)(n:Int){post:V->Prop}(h:WQ (T98 x hd ft n) v98 post .e):PC 98 [.agg (cC x),iI hd,iI ft,iI n] post:=
 PCalls.wq Tryz.func98 (s98 x hd ft n) q98 h
theorem c98(x:Case)(hd ft n:Int)(h1:0<=hd/\hd<x.shop.heads.length)(h2:0<=ft/\ft<(x.shop.heads.getD hd.toNat zHead).shows.length)(h3:x.shop.heads.length<=4294967296)(h4:(x.shop.heads.getD hd.toNat zHead).shows.length<=4294967296):
  PC 98 [.agg (tCase.cells x),iI hd,iI ft,iI n] (·=.agg (tCase.cells (readC x hd ft n))):=by
 have hr:hd.toNat<x.shop.heads.length:=by omega
 have hf:ft.toNat<(x.shop.heads.getD hd.toNat zHead).shows.length:=by omega
 refine w98 _ _ _ _ (WP.step ?_);simp only[T98,Go,Ends',v98,Tr.sure,SS,h1.1,h1.2,h2.1,h2.2,hr,hf,z1,z3];repeat' with_reducible first|intro _|apply aI
 all_goals first|exact c146 _ _ h3|exact c77 _ _ h4|exact tel_set tint _ _ _ _ rfl rfl rfl _ _ (by assumption) (by assumption)|(simp[Go,Ends',v98,-List.getD_eq_getElem?_getD, *];done)|skip
 all_goals
  have hs:(x.shop.heads.getD hd.toNat zHead).shows.length=((x.shop.heads.getD hd.toNat zHead).shows.set ft.toNat n).length:=by simp
  have hh:x.shop.heads.length=(x.shop.heads.set hd.toNat ⟨(x.shop.heads.getD hd.toNat zHead).name,(x.shop.heads.getD hd.toNat zHead).shows.set ft.toNat n⟩).length:=by simp
  first
  |rfl
  |exact VLe.same tint _ hs
  |exact VLe.same tHead _ hh
  |exact tel_rowL tHead _ _ _ _ (VLe.same tint _ hs) (heads_other _ _ _) (by assumption)
  |exact VLe.cons (VLe.refl _) (VLe.cons (VLe.refl _) (VLe.cons (VLe.same tHead _ hh) fun _=>VLe.refl _)) _
  |exact sem_storeL (by kernel_rfl) rfl rfl hr (by decide)
  |exact sem_loadL (by kernel_rfl) (by kernel_rfl) rfl
end
noncomputable section
def lastI(l:List Int):Int:=if l.length=0 then-1 else l.getD (l.length-1) 0
def pickF(b:Int)(l:List Int):List (List Int):=(List.range (b-(lastI l+1)).toNat).map fun(k:Nat)=>l++ [lastI l+1+(k:Int)]
theorem picks_succ(b:Int)(n:Nat):picks b (n+1)=(picks b n).flatMap (pickF b):=rfl
theorem lastI_mem{l:List Int}(h:l≠ []):lastI l∈l:=by
 have:l.length≠0:=by simpa using h
 rw[lastI,if_neg this,gE,List.getElem?_eq_getElem (by omega)];exact List.getElem_mem _
structure Pick(b:Int)(n:Nat)(l:List Int):Prop where
 len:l.length=n
 asc:l.Pairwise (·<·)
 lo:∀x∈l,0<=x
 hi:∀x∈l,x<b
theorem Pick.last{b:Int}{n:Nat}{l:List Int}(h:Pick b n l): -1<=lastI l:=by
 by_cases e:l=[]
 ·subst e;decide
 ·have:=h.lo _ (lastI_mem e);omega
theorem le_last{l:List Int}(h:l.Pairwise (·<·)):∀x∈l,x<=lastI l:=by
 intro x hx;obtain⟨i,hi,rfl⟩:=List.getElem_of_mem hx;have hn:l.length≠0:=by omega
 rw[lastI,if_neg hn,gE,List.getElem?_eq_getElem (show l.length-1<l.length by omega),Option.getD_some];rcases Nat.lt_or_ge i (l.length-1)with q|q
 ·exact Int.le_of_lt (List.pairwise_iff_getElem.1 h i (l.length-1) hi (by omega) q)
 ·have:i=l.length-1:=by omega
  subst this;exact Int.le_refl _
theorem mem_pickF{b:Int}{l m:List Int}:m∈pickF b l↔∃x,lastI l<x/\x<b/\m=l++ [x]:=by
 simp only[pickF,List.mem_map,List.mem_range];constructor
 ·rintro⟨k,hk,rfl⟩;exact⟨_,by omega,by omega,rfl⟩
 ·rintro⟨x,h1,h2,rfl⟩;exact⟨(x-(lastI l+1)).toNat,by omega,by congr 2;omega⟩
theorem picks_ok(b:Int):∀(n:Nat) (l:List Int),l∈picks b n↔Pick b n l
 |0,l=>by
  simp only[picks,List.mem_singleton];exact⟨fun h=>by subst h;exact⟨rfl,.nil,by simp,by simp⟩,fun h=>List.eq_nil_of_length_eq_zero h.len⟩
 |n+1,l=>by
  rw[picks_succ,List.mem_flatMap];constructor
  ·rintro⟨m,hm,hl⟩
   obtain⟨x,h1,h2,rfl⟩:=mem_pickF.1 hl;have hp:=(picks_ok b n m).1 hm;refine⟨by simp[hp.len],?_,fun y hy=> ?_,fun y hy=> ?_⟩
   ·rw[List.pairwise_append];exact⟨hp.asc,by simp,fun a ha c hc=>by simp only[List.mem_singleton]at hc;subst hc;have:=le_last hp.asc a ha;omega⟩
   ·rcases List.mem_append.1 hy with q|q
    ·exact hp.lo y q
    ·simp only[List.mem_singleton]at q;subst q;have:=hp.last;omega
   ·rcases List.mem_append.1 hy with q|q
    ·exact hp.hi y q
    ·simp only[List.mem_singleton]at q;subst q;exact h2
  ·intro h;have hne:l≠ []:=by intro e;subst e;have:=h.len;simp at this
   obtain⟨m,x,rfl⟩:∃m x,l=m++ [x]:=⟨l.dropLast,l.getLast hne,(List.dropLast_concat_getLast hne).symm⟩
   have hp:=List.pairwise_append.1 h.asc
   have hm:Pick b n m:=⟨by have:=h.len;simp at this;exact this,hp.1,fun y hy=>h.lo y (List.mem_append_left _ hy),fun y hy=>h.hi y (List.mem_append_left _ hy)⟩
   refine⟨m,(picks_ok b n m).2 hm,mem_pickF.2 ⟨x,?_,h.hi x (by simp),rfl⟩⟩;by_cases e:m=[]
   ·subst e;have:=h.lo x (by simp);simp[lastI];omega
   ·exact hp.2.2 _ (lastI_mem e) x (by simp)
end
noncomputable section
theorem countP_take{τ:Type}(p:τ->Bool)(l:List τ)(d:τ){i:Nat}(hi:i<l.length):(l.take (i+1)).countP p=(l.take i).countP p+(if p (l.getD i d)=true then 1 else 0):=by
 rw[show l.take (i+1)=l.take i++ [l.getD i d]from by rw[List.take_add_one,gE,List.getElem?_eq_getElem hi];rfl,List.countP_append];simp[List.countP_cons]
def falls(l:List Int)(i:Nat):Bool:=decide (1<=i)&&decide (l.getD i 0<=l.getD (i-1) 0)
theorem asc_falls(l:List Int):asc l= !(List.range l.length).any (falls l):=rfl
end
noncomputable section
theorem truths_ok{c:Case}{o:Int}(h:(truthsE c o).2=0):OkCase c/\o=0/\(truthsE c o).1=caseSets c:=by
 unfold truthsE at h⊢;split at h
 ·rename_i h1;exact absurd h h1
 ·rename_i h1;split at h
  ·rename_i h2;exact absurd h h2
  ·rename_i h2;split at h
   ·cases h
   ·rename_i h3;rw[if_neg h1,if_neg h2,if_neg h3];exact⟨okCase (Decidable.not_not.1 h1),Decidable.not_not.1 h2,rfl⟩
def filtI(p:Nat->Bool)(n:Nat):List Int:=((List.range n).filter p).map fun(i:Nat)=>(i:Int)
theorem filtI_succ(p:Nat->Bool)(n:Nat):filtI p (n+1)=if p n=true then filtI p n++ [(n:Int)]else filtI p n:=by
 unfold filtI;rw[List.range_succ,List.filter_append];cases h:p n<;>simp[h]
theorem filtI_rev(p:Nat->Bool)(n:Nat):(filtI p (n+1)).reverse=if p n=true then(n:Int)::(filtI p n).reverse else(filtI p n).reverse:=by
 rw[filtI_succ];split<;>simp
theorem filtI_len(p:Nat->Bool)(n:Nat):(filtI p n).length<=n:=by
 unfold filtI;rw[List.length_map];exact Nat.le_trans (List.length_filter_le _ _) (by simp)
theorem worth_take(c:Case)(l:List Int){i:Nat}(hi:i<l.length):worth c (l.take (i+1))=worth c (l.take i)+(cl c (l.getD i 0).toNat).worth:=by
 unfold worth;rw[take_snoc 0 l i hi,List.foldl_append];rfl
end
noncomputable section
def less:List Int->List Int->Bool
 |[],[]=>false
 |[],_::_=>true
 |_::_,[]=>false
 |x::a,y::b=>if x=y then less a b else decide (x<y)
theorem VLe.rr{τ:Type}(E:Ty τ)(X:List τ):VLe (.list E.w X.reverse.length (rowsRev E X.reverse)) (E.lst X):=by
 have:=VLe.rev E X.reverse;rwa[List.reverse_reverse]at this
theorem truths_cases(c:Case)(o:Int):(truthsE c o=(caseSets c,0)/\OkCase c/\o=0)\/∃e,truthsE c o=([],e)/\e≠0:=by
 by_cases h:(truthsE c o).2=0
 ·obtain⟨h1,h2,h3⟩:=truths_ok h;exact .inl ⟨Prod.ext h3 h,h1,h2⟩
 ·refine .inr ⟨(truthsE c o).2,?_,h⟩;revert h
  unfold truthsE;split
  ·intro _;rfl
  ·split
   ·intro _;rfl
   ·split
    ·intro _;rfl
    ·intro h;exact absurd rfl h
end
noncomputable section
def maxZ(f:Int->Int)(l:List Int):Int:=l.foldl (fun n s=>max n (f s)) 0
def grantR(c:Case):List Int × List Int × Int:=
 if(truthsE c 0).2≠0 then([],[],(truthsE c 0).2)
 else(each c.claims.length ((caseSets c).filter fun s=>manyZ s==maxZ manyZ (caseSets c)) 1,each c.claims.length ((caseSets c).filter fun s=>manyZ s==maxZ manyZ (caseSets c)) 2,0)
def allP(k:Int)(n:Nat):List (List Int):=(List.range n).flatMap fun m=>picks k m
theorem find_firstI{τ:Type}(p:τ->Bool)(d:τ):∀(l:List τ) (i j:Nat),firstI p i l=some j->∃q,j=i+q/\l.find? p=some (l.getD q d)
 |[],_,_,h=>by cases h
 |x::l,i,j,h=>by
  simp only[firstI]at h;by_cases hx:p x=true
  ·rw[if_pos hx]at h;cases h;exact⟨0,rfl,by rw[List.find?_cons_of_pos hx];rfl⟩
  ·rw[if_neg hx]at h;obtain⟨q,h1,h2⟩:=find_firstI p d l (i+1) j h;exact⟨q+1,by omega,by rw[List.find?_cons_of_neg hx,h2];rfl⟩
theorem find_none{τ:Type}(p:τ->Bool)(l:List τ)(h:firstI p 0 l=none):l.find? p=none:=by
 rw[List.find?_eq_none];intro x hx hp;have:=any_of_none h;rw[List.any_eq_false]at this;exact this x hx hp
def fallR(c:Case):List Int × Int:=
 if(truthsE c 0).2≠0 then([],(truthsE c 0).2)
 else((match(allP c.claims.length c.claims.length).find? (fun l=>can (caseSets c) (others c.claims.length l))with|some l=>l|none=>others c.claims.length []),0)
def better(c:Case)(sets b l:List Int):List Int:=if can sets l=true/\(worth c l-worth c b>0\/(worth c l-worth c b=0/\less l b=true))then l else b
def allQ(k:Int)(n:Nat):List (List Int):=(List.range n).flatMap fun m=>picks k (m+1)
def bestR(c:Case)(sets:List Int)(n:Nat):List Int:=(allQ c.claims.length n).foldl (better c sets) []
def mostR(c:Case):List Int × Int × Int:=
 if(truthsE c 0).2≠0 then([],0,(truthsE c 0).2)else(bestR c (caseSets c) c.claims.length,worth c (bestR c (caseSets c) c.claims.length),0)
structure OkL(c:Case)(l:List Int):Prop where
 mem:∀n∈l,0<=n/\n<c.claims.length
 len:l.length<=8
theorem worth_bd(c:Case)(l:List Int)(h:OkCase c)(hl:OkL c l):0<=worth c l/\worth c l<=800:=by
 have hw:∀m:Nat,m<=l.length->0<=worth c (l.take m)/\worth c (l.take m)<=m*100:=by
  intro m
  induction m with
  |zero=>intro _;simp[worth]
  |succ m ih=>
   intro hm;have h1:=ih (by omega);have h2:=hl.mem _ (getD_mem 0 l m (by omega));have h3:=(h.cl (show(l.getD m 0).toNat<c.claims.length by omega)).worth;rw[worth_take c l (by omega)];omega
 have:=hw l.length (Nat.le_refl _);rw[List.take_length]at this;have:=hl.len;omega
theorem okL_foldl{c:Case}{sets:List Int}:∀(L:List (List Int)) (b:List Int),OkL c b->(∀l∈L,OkL c l)->OkL c (L.foldl (better c sets) b)
 |[],_,hb,_=>hb
 |l::L,b,hb,hL=>by
  rw[List.foldl_cons];refine okL_foldl L _ ?_ fun m hm=>hL m (by simp[hm]);unfold better;split
  ·exact hL l (by simp)
  ·exact hb
theorem okL_picks{c:Case}{n:Nat}(h:n<=8):∀l∈picks c.claims.length n,OkL c l:=fun l hl=>by
 have:=(picks_ok _ _ l).1 hl;exact⟨fun x hx=>⟨this.lo x hx,this.hi x hx⟩,by have:=this.len;omega⟩
theorem okL_best{c:Case}{sets:List Int}{n:Nat}(h:n<=7):OkL c (bestR c sets n):=by
 refine okL_foldl _ _ ⟨by simp,by simp⟩ fun l hl=> ?_;simp only[allQ,List.mem_flatMap,List.mem_range]at hl;obtain⟨m,h1,h2⟩:=hl;exact okL_picks (by omega) l h2
theorem foldl_take{σ τ:Type}(f:σ->τ->σ)(s:σ)(l:List τ)(d:τ){i:Nat}(hi:i<l.length):(l.take (i+1)).foldl f s=f ((l.take i).foldl f s) (l.getD i d):=by
 rw[take_snoc d l i hi,List.foldl_append];rfl
def fewer(a b:List Int):Bool:=if a.length≠b.length then decide (a.length<b.length)else less a b
end
noncomputable section
def sameI(a b:List Int):Bool:=decide (a=b)
def sameL(a b:List (List Int)):Bool:=decide (a=b)
theorem take_eq_snoc{τ:Type}(d:τ){a b:List τ}{i:Nat}(ha:i<a.length)(hb:i<b.length)(h:a.take i=b.take i)(e:a.getD i d=b.getD i d):a.take (i+1)=b.take (i+1):=by
 rw[take_snoc d a i ha,take_snoc d b i hb,h,e]
inductive P20
 |e
 |l0 (x0_5:Bool) (x0_6:Int)
inductive R20
 |r0 (r0:Bool)
def T20(p0:List Int)(p1:List Int):P20->Tr P20 R20
 |.e=>(.go (.l0 ((p0.length:Int)==(p1.length:Int)) 0))
 |.l0 x0_5 x0_6=>let c1:=x0_6<(p0.length:Int);(.br x0_5 (.br (decide c1) (.front [] [] (((decide (0<=x0_6)&&decide c1)&&((decide (0<=x0_6)&&decide (x0_6<(p1.length:Int)))&&true))&&true) true (.need (inR .i64 (x0_6+(1:Int))) (.go (.l0 ((p0.getD (x0_6).toNat tint.zero)==(p1.getD (x0_6).toNat tint.zero)) (x0_6+(1:Int)))))) (.out (.r0 x0_5))) (.lit false (.out (.r0 x0_5))))
noncomputable def g20(p0:List Int)(p1:List Int):P20->List Item × St
 |.e=>bd Tryz.f20 [tint.lst p0,tint.lst p1] 29
 |.l0 x0_5 x0_6=>(cutOf Tryz.f20 0,⟨mk 31 [(0,tint.lst p0),(1,tint.lst p1),(5,.bool x0_5),(6,iI x0_6)],[],[]⟩)
def n20:R20->Exit × St
 |.r0 r0=>(.ret,⟨mk 31 [(4,.bool r0)],[],[]⟩)
def v20:R20->V
 |.r0 r0=>.bool r0
theorem s20(p0:List Int)(p1:List Int):Sm 0 (g20 p0 p1) (T20 p0 p1) (n20)
 |.e=>⟨400,by kernel_rfl⟩
 |.l0 _ _=>⟨400,by kernel_rfl⟩
theorem q20:∀r,bodyQ Tryz.prog Tryz.f20 (·=v20 r) (n20 r).1 (n20 r).2
 |.r0 r0=>bq (.bool r0) (by kernel_rfl)
theorem w20(p0:List Int)(p1:List Int){post:V->Prop}(h:WQ (T20 p0 p1) v20 post .e):PC 20 [tint.lst p0,tint.lst p1] post:=
 PCalls.wq Tryz.func20 (s20 p0 p1) q20 h
theorem e20:∀xs w,(callFunc 20 xs).run Tryz.prog w=.ok (.enter 20 xs) w:=PCalls.enters Tryz.func20 (c:=Tryz.f20.body.getD .skip) (by kernel_rfl) (by kernel_rfl)
theorem c20(a b:List Int):PC 20 [tint.lst a,tint.lst b] (·=.bool (sameI a b)):=by
 refine PCalls.assume e20 0 (by simp) .list fun hl=> ?_
 have hfalse:a≠b->∀i,WP Tryz.prog ⟨none,0⟩ (T20 a b) (Ends' fun r=>v20 r=.bool (sameI a b)) (.l0 false i):=fun h i=>by
  have hs:sameI a b=false:=by simpa[sameI]using h
  refine WP.step ?_;simp only[T20,Go,Ends',v20,Tr.sure,SS];repeat' with_reducible first|intro _|apply aI
  all_goals simp[hs,Go,Ends',v20,-List.getD_eq_getElem?_getD, *]
 refine w20 _ _ (WP.step ?_);simp only[T20,Tr.sure,Go];by_cases he:a.length=b.length
 ·have e1:((a.length:Int)==(b.length:Int))=true:=by simp[he]
  rw[e1];refine WP.count (fun i=>.l0 true (i:Int)) rfl a.length (fun i=>a.take i=b.take i) rfl (fun i hi hI=> ?_) fun hI=> ?_
  ·have hb:i<b.length:=by omega
   have hr:=inRi hi hl;have hi':(i:Int)<a.length:=by omega
   have hb':(i:Int)<b.length:=by omega
   by_cases hx:a.getD i 0=b.getD i 0
   ·have hn:=take_eq_snoc 0 hi hb hI hx;refine WP.once ?_;simp only[T20,Tr.sure,SS,hi',hb',hx,z1,beq_self_eq_true];repeat' with_reducible first|intro _|apply aI
    all_goals simp[hr,hn,Go,Ends',v20,-List.getD_eq_getElem?_getD, *]
   ·have hne:a≠b:=fun h=>hx (by rw[h]);have hx2:(a.getD i 0==b.getD i 0)=false:=by simpa using hx
    have hgo:=hfalse hne ((i:Int)+1);refine WP.once ?_;simp only[T20,Tr.sure,SS,hi',hb',hx2,z1];repeat' with_reducible first|intro _|apply aI
    all_goals first|exact(Or.inr hgo)|(simp[hr,Go,Ends',v20,-List.getD_eq_getElem?_getD, *];done)
  ·have heq:a=b:=by rw[List.take_length,he,List.take_length]at hI;exact hI
   have hs:sameI a b=true:=by simpa[sameI]using heq
   refine WP.step ?_;simp only[T20,Go,Ends',v20,Tr.sure,SS,Int.lt_irrefl];repeat' with_reducible first|intro _|apply aI
   all_goals simp_all [hs,Go,Ends',v20,-List.getD_eq_getElem?_getD]
 ·have e1:((a.length:Int)==(b.length:Int))=false:=by simp;omega
  rw[e1];exact hfalse (fun h=>he (by rw[h])) 0
inductive P28
 |e
 |l0 (x0_5:Bool) (x0_6:Int)
inductive R28
 |r0 (r0:Bool)
def T28(p0:List (List Int))(p1:List (List Int)):P28->Tr P28 R28
 |.e=>(.go (.l0 ((p0.length:Int)==(p1.length:Int)) 0))
 |.l0 x0_5 x0_6=>let c1:=sameI (p0.getD (x0_6).toNat (tlist tint).zero) (p1.getD (x0_6).toNat (tlist tint).zero);let c2:=x0_6<(p0.length:Int);(.br x0_5 (.br (decide c2) (.front [] [] (((decide (0<=x0_6)&&decide c2)&&((decide (0<=x0_6)&&decide (x0_6<(p1.length:Int)))&&true))&&true) true (.call 20 [tint.lst (p0.getD (x0_6).toNat (tlist tint).zero),tint.lst (p1.getD (x0_6).toNat (tlist tint).zero)] (.bool c1) true true (.need (inR .i64 (x0_6+(1:Int))) (.go (.l0 c1 (x0_6+(1:Int))))))) (.out (.r0 x0_5))) (.lit false (.out (.r0 x0_5))))
noncomputable def g28(p0:List (List Int))(p1:List (List Int)):P28->List Item × St
 |.e=>bd Tryz.f28 [(tlist tint).lst p0,(tlist tint).lst p1] 29
 |.l0 x0_5 x0_6=>(cutOf Tryz.f28 0,⟨mk 31 [(0,(tlist tint).lst p0),(1,(tlist tint).lst p1),(5,.bool x0_5),(6,iI x0_6)],[],[]⟩)
def n28:R28->Exit × St
 |.r0 r0=>(.ret,⟨mk 31 [(4,.bool r0)],[],[]⟩)
def v28:R28->V
 |.r0 r0=>.bool r0
theorem s28(p0:List (List Int))(p1:List (List Int)):Sm 0 (g28 p0 p1) (T28 p0 p1) (n28)
 |.e=>⟨400,by kernel_rfl⟩
 |.l0 _ _=>⟨400,by kernel_rfl⟩
theorem q28:∀r,bodyQ Tryz.prog Tryz.f28 (·=v28 r) (n28 r).1 (n28 r).2
 |.r0 r0=>bq (.bool r0) (by kernel_rfl)
theorem w28(p0:List (List Int))(p1:List (List Int)){post:V->Prop}(h:WQ (T28 p0 p1) v28 post .e):PC 28 [(tlist tint).lst p0,(tlist tint).lst p1] post:=
 PCalls.wq Tryz.func28 (s28 p0 p1) q28 h
theorem e28:∀xs w,(callFunc 28 xs).run Tryz.prog w=.ok (.enter 28 xs) w:=PCalls.enters Tryz.func28 (c:=Tryz.f28.body.getD .skip) (by kernel_rfl) (by kernel_rfl)
theorem c28(a b:List (List Int)):PC 28 [(tlist tint).lst a,(tlist tint).lst b] (·=.bool (sameL a b)):=by
 refine PCalls.assume e28 0 (by simp) .list fun hl=> ?_
 have hfalse:a≠b->∀i,WP Tryz.prog ⟨none,0⟩ (T28 a b) (Ends' fun r=>v28 r=.bool (sameL a b)) (.l0 false i):=fun h i=>by
  have hs:sameL a b=false:=by simpa[sameL]using h
  refine WP.step ?_;simp only[T28,Go,Ends',v28,Tr.sure,SS];repeat' with_reducible first|intro _|apply aI
  all_goals simp[hs,Go,Ends',v28,-List.getD_eq_getElem?_getD, *]
 refine w28 _ _ (WP.step ?_);simp only[T28,Tr.sure,Go];by_cases he:a.length=b.length
 ·have e1:((a.length:Int)==(b.length:Int))=true:=by simp[he]
  rw[e1];refine WP.count (fun i=>.l0 true (i:Int)) rfl a.length (fun i=>a.take i=b.take i) rfl (fun i hi hI=> ?_) fun hI=> ?_
  ·have hb:i<b.length:=by omega
   have hr:=inRi hi hl;have hi':(i:Int)<a.length:=by omega
   have hb':(i:Int)<b.length:=by omega
   have hz:(tlist tint).zero=([]:List Int):=rfl;have hc:=c20 (a.getD i []) (b.getD i []);by_cases hx:a.getD i []=b.getD i []
   ·have hn:=take_eq_snoc [] hi hb hI hx;have hx2:sameI (a.getD i []) (b.getD i [])=true:=by simpa[sameI]using hx
    rw[hx2]at hc;refine WP.once ?_;simp only[T28,Tr.sure,SS,hi',hb',hx2,hz];repeat' with_reducible first|intro _|apply aI
    all_goals first|exact hc|(simp[hr,hn,Go,Ends',v28,-List.getD_eq_getElem?_getD, *];done)
   ·have hne:a≠b:=fun h=>hx (by rw[h]);have hx2:sameI (a.getD i []) (b.getD i [])=false:=by simpa[sameI]using hx
    have hgo:=hfalse hne ((i:Int)+1);rw[hx2]at hc;refine WP.once ?_;simp only[T28,Tr.sure,SS,hi',hb',hx2,hz];repeat' with_reducible first|intro _|apply aI
    all_goals first|exact hc|exact(Or.inr hgo)|(simp[hr,Go,Ends',v28,-List.getD_eq_getElem?_getD, *];done)
  ·have heq:a=b:=by rw[List.take_length,he,List.take_length]at hI;exact hI
   have hs:sameL a b=true:=by simpa[sameL]using heq
   refine WP.step ?_;simp only[T28,Go,Ends',v28,Tr.sure,SS,Int.lt_irrefl];repeat' with_reducible first|intro _|apply aI
   all_goals simp_all [hs,Go,Ends',v28,-List.getD_eq_getElem?_getD]
 ·have e1:((a.length:Int)==(b.length:Int))=false:=by simp;omega
  rw[e1];exact hfalse (fun h=>he (by rw[h])) 0
def leastStep(c:Case)(l:List Cast)(m own:Int)(i:Nat)(n:Int):Int:=
 if((l.getD i zCast).mould==m&&(c.owners.getD i 0==own&&(n==0||decide ((l.getD i zCast).number<n))))=true then(l.getD i zCast).number else n
def least(c:Case)(l:List Cast)(m own:Int):Int:=natF (leastStep c l m own) 0 l.length
def oldP(c:Case)(m:Int)(l:List Cast):Bool:=(least c l m 0 !=0&&least c l m 1 !=0)&&decide (least c l m 0<least c l m 1)
def newP(c:Case)(m:Int)(l:List Cast):Bool:=(least c l m 0 !=0&&least c l m 1 !=0)&& !decide (least c l m 0<least c l m 1)
def olderR(c:Case)(m:Int):Int × Int:=
 if(truthsE c (indexErr m c.shop.moulds.length)).2≠0 then(0,(truthsE c (indexErr m c.shop.moulds.length)).2)
 else if(truths c.shop).countP (oldP c m)=0/\(truths c.shop).countP (newP c m)=0 then(0,9)
 else if(truths c.shop).countP (newP c m)=0 then(0,0)
 else if(truths c.shop).countP (oldP c m)=0 then(1,0)else(2,0)
theorem countP_takeG{τ:Type}(p:τ->Bool)(l:List τ)(d:τ){i:Nat}(hi:i<l.length):(((l.take (i+1)).countP p:Nat):Int)=if p (l.getD i d)=true then((l.take i).countP p:Int)+1 else((l.take i).countP p:Int):=by
 rw[countP_take p l d hi];split<;>simp
theorem okCase_read{c:Case}(h:OkCase c){hd ft n:Int}(h1:0<=hd/\hd<c.shop.heads.length)(hn:0<=n/\n<=2):OkCase (readC c hd ft n):=by
 have hm:c.shop.heads.getD hd.toNat zHead∈c.shop.heads:=getD_mem zHead _ _ (by omega);have hh:=h.shop.head _ hm;refine⟨⟨h.shop.feat,h.shop.nm,?_,h.shop.mould,fun x hx=> ?_⟩,?_,h.own,h.five,fun x hx=> ?_⟩
 ·simp only[readC,List.length_set];exact h.shop.nh
 ·simp only[readC]at hx⊢;rcases List.mem_or_eq_of_mem_set hx with q|q
  ·exact h.shop.head x q
  ·subst q;refine⟨by simp only[List.length_set];exact hh.1,fun y hy=> ?_⟩;rcases List.mem_or_eq_of_mem_set hy with q|q
   ·exact hh.2 y q
   ·omega
 ·simp only[readC,List.length_set];exact h.many
 ·have k:=h.claim x hx;refine⟨k.own,k.worth,k.kind,fun e=> ?_,fun e=> ?_,fun e=> ?_⟩
  ·simpa[readC]using k.cast e
  ·simpa[readC]using k.pair e
  ·simpa[readC]using k.last e
def lookedP(c:Case)(i:Int)(e:Entry)(n:Int):Bool:=decide (((caseSets (readC c e.head e.feature n)).length:Int)>0)&&settled (caseSets (readC c e.head e.feature n)) i==0
def looked(c:Case)(i:Int)(e:Entry):Bool:= !(lookedP c i e 1)&& !(lookedP c i e 2)
theorem flat_find{τ:Type}{f:Nat->List τ}{p:τ->Bool}{i n:Nat}{l:τ}(hn:i<n)(h0:((List.range i).flatMap f).find? p=none)(h1:(f i).find? p=some l):((List.range n).flatMap f).find? p=some l:=by
 obtain⟨m,rfl⟩:=Nat.exists_eq_add_of_lt hn
 have:∀m,((List.range (i+m+1)).flatMap f).find? p=some l:=by
  intro m
  induction m with
  |zero=>rw[Nat.add_zero,List.range_succ,List.flatMap_append,List.find?_append,h0];simp[h1]
  |succ m ih=>rw[show i+(m+1)+1=(i+m+1)+1 by omega,List.range_succ,List.flatMap_append,List.find?_append,ih];rfl
 exact this m
theorem flat_none{τ:Type}{f:Nat->List τ}{p:τ->Bool}{i:Nat}(h0:((List.range i).flatMap f).find? p=none)(h1:(f i).find? p=none):((List.range (i+1)).flatMap f).find? p=none:=by
 rw[List.range_succ,List.flatMap_append,List.find?_append,h0];simp[h1]
def entriesOf(F:Int)(h:Nat):List Entry:=(List.range F.toNat).map fun(f:Nat)=>(⟨(h:Int),(f:Int)⟩:Entry)
def unreadP(c:Case)(e:Entry):Bool:=(c.shop.heads.getD e.head.toNat zHead).shows.getD e.feature.toNat 0==0
def lookP(c:Case)(i:Int)(e:Entry):Bool:=unreadP c e&&looked c i e
def lookR(c:Case)(i:Int):Entry × Int:=
 if(holdsR c i).2≠0 then(⟨0,0⟩,(holdsR c i).2)else if(holdsR c i).1≠0 then(⟨0,0⟩,2)
 else match((List.range c.shop.heads.length).flatMap (entriesOf c.shop.features)).find? (lookP c i)with|some e=>(e,0)|none=>(⟨0,0⟩,9)
end
noncomputable section
inductive P64
 |e
inductive R64
 |r0 (r0:Int)
def T64:P64->Tr P64 R64
 |.e=>(.out (.r0 0))
noncomputable def g64:P64->List Item × St
 |.e=>bd Tryz.f64 [] 1
def n64:R64->Exit × St
 |.r0 r0=>(.ret,⟨mk 1 [(0,iI r0)],[],[]⟩)
def v64:R64->V
 |.r0 r0=>iI r0
theorem s64:Sm 0 (g64) (T64) (n64)
 |.e=>⟨400,by kernel_rfl⟩
theorem q64:∀r,bodyQ Tryz.prog Tryz.f64 (·=v64 r) (n64 r).1 (n64 r).2
 |.r0 r0=>bq (iI r0) (by kernel_rfl)
theorem w64{post:V->Prop}(h:WQ (T64) v64 post .e):PC 64 [] post:=
 PCalls.wq Tryz.func64 (s64) q64 h
theorem c64:PC 64 [] (·=iI 0):=by
 refine w64 (WP.step ?_);simp only[T64,Go,Ends',v64,Tr.sure,SS];repeat' with_reducible first|intro _|apply aI
inductive P132
 |e
inductive R132
 |r0 (r0:Int)
def T132(m:Int)(n:Int):P132->Tr P132 R132
 |.e=>let c1:=outside 0 (m-(1:Int)) ([n]:List Int);(.need (inR .i64 (m-(1:Int))) (.call 58 [iI 0,iI (m-(1:Int)),.list 1 1 (litC 1 1 [iI n])] (.bool c1) ((decide (1<=1))&&true) true (.br c1 (.out (.r0 4)) (.out (.r0 0)))))
noncomputable def g132(m:Int)(n:Int):P132->List Item × St
 |.e=>bd Tryz.f132 [rR (iI m),rR (iI n)] 6
def n132:R132->Exit × St
 |.r0 r0=>(.ret,⟨mk 8 [(2,iI r0)],[],[]⟩)
def v132:R132->V
 |.r0 r0=>iI r0
theorem s132(m:Int)(n:Int):Sm 0 (g132 m n) (T132 m n) (n132)
 |.e=>⟨400,by kernel_rfl⟩
theorem q132:∀r,bodyQ Tryz.prog Tryz.f132 (·=v132 r) (n132 r).1 (n132 r).2
 |.r0 r0=>bq (iI r0) (by kernel_rfl)
theorem w132(m:Int)(n:Int){post:V->Prop}(h:WQ (T132 m n) v132 post .e):PC 132 [rR (iI m),rR (iI n)] post:=
 PCalls.wq Tryz.func132 (s132 m n) q132 h
theorem c132(many:Nat)(n:Int)(hm:many<=maxn):PC 132 [rR (iI (many:Int)),rR (iI n)] (·=iI (indexErr n many)):=by
 have hr:inR .i64 ((many:Int)-1)=true:=by unfold maxn at hm;exact inR64 (by omega) (by omega)
 refine w132 _ _ (WP.step ?_);simp only[T132,Go,Ends',v132,Tr.sure,SS,outside1];repeat' with_reducible first|intro _|apply aI
 all_goals first|exact(c58w _ _ _)|(simp[indexErr,hr,Go,Ends',v132,-List.getD_eq_getElem?_getD, *];done)
theorem bit_and:∀s:Nat,s<32->∀n:Nat,n<6->bitsOf .and .i64 ((s:Int).fdiv (2^(min n 64))) 1=if hasZ s n=true then 1 else 0:=by decide
theorem bit_andI{s n:Int}(hs:0<=s/\s<32)(hn:0<=n/\n<=5):bitsOf .and .i64 (s.fdiv (2^(min n.toNat 64))) 1=if hasZ s n=true then 1 else 0:=by
 obtain⟨a,rfl⟩:=Int.eq_ofNat_of_zero_le hs.1;obtain⟨b,rfl⟩:=Int.eq_ofNat_of_zero_le hn.1;exact bit_and a (by omega) b (by omega)
inductive P67
 |e
 |l0 (x0_5:Int) (x0_10:Int)
inductive R67
 |r0 (r0:Int)
def T67(l:List Int)(n:Int):P67->Tr P67 R67
 |.e=>(.go (.l0 0 0))
 |.l0 x0_5 x0_10=>let c1:=x0_5+(bitsOf .and .i64 ((l.getD (x0_10).toNat tint.zero).fdiv (2^(min (n).toNat 64))) (1:Int));let c2:=(l.length:Int);(.br (decide (x0_10<c2)) (.need (decide (0<=x0_10)&&decide (x0_10<c2)) (.need (decide (0<=n)) (.need (inR .i64 c1) (.need (inR .i64 (x0_10+(1:Int))) (.go (.l0 c1 (x0_10+(1:Int)))))))) (.br (x0_5==c2) (.out (.r0 1)) (.br (x0_5==(0:Int)) (.out (.r0 2)) (.out (.r0 0)))))
noncomputable def g67(l:List Int)(n:Int):P67->List Item × St
 |.e=>bd Tryz.f67 [tint.lst l,iI n] 26
 |.l0 x0_5 x0_10=>(cutOf Tryz.f67 0,⟨mk 28 [(0,tint.lst l),(1,iI n),(5,iI x0_5),(8,tint.lst l),(9,iI (l.length:Int)),(10,iI x0_10)],[],[]⟩)
def n67:R67->Exit × St
 |.r0 r0=>(.ret,⟨mk 28 [(4,iI r0)],[],[]⟩)
def v67:R67->V
 |.r0 r0=>iI r0
theorem s67(l:List Int)(n:Int):Sm 0 (g67 l n) (T67 l n) (n67)
 |.e=>⟨400,by kernel_rfl⟩
 |.l0 _ _=>⟨400,by kernel_rfl⟩
theorem q67:∀r,bodyQ Tryz.prog Tryz.f67 (·=v67 r) (n67 r).1 (n67 r).2
 |.r0 r0=>bq (iI r0) (by kernel_rfl)
theorem w67(l:List Int)(n:Int){post:V->Prop}(h:WQ (T67 l n) v67 post .e):PC 67 [tint.lst l,iI n] post:=
 PCalls.wq Tryz.func67 (s67 l n) q67 h
theorem e67:∀xs w,(callFunc 67 xs).run Tryz.prog w=.ok (.enter 67 xs) w:=PCalls.enters Tryz.func67 (c:=Tryz.f67.body.getD .skip) (by kernel_rfl) (by kernel_rfl)
theorem c67(l:List Int)(n:Int)(hs:∀s∈l,0<=s/\s<32)(hn:0<=n/\n<=5):PC 67 [tint.lst l,iI n] (·=iI (settled l n)):=by
 refine PCalls.assume e67 0 (by simp) .list fun hl=> ?_;refine w67 _ _ (WP.step ?_);simp only[T67,Go,Ends',v67,Tr.sure,SS];repeat' with_reducible first|intro _|apply aI
 refine WP.run (fun i=>.l0 (((l.take i).countP fun s=>hasZ s n:Nat):Int) i) rfl l.length (fun i hi=> ?_) ?_
 ·have hr:=inRi hi hl;have hb:=bit_andI (hs _ (getD_mem 0 l i hi)) hn;have ht:=countP_take (fun s=>hasZ s n) l 0 hi;have hle:(l.take i).countP (fun s=>hasZ s n)<=i:=Nat.le_trans List.countP_le_length (by simp;omega);have hc:(((l.take i).countP fun s=>hasZ s n:Nat):Int)+(if hasZ (l.getD i 0) n=true then 1 else 0)=(((l.take (i+1)).countP fun s=>hasZ s n:Nat):Int):=by rw[ht];split<;>simp
  have hr2:inR .i64 (((l.take (i+1)).countP fun s=>hasZ s n:Nat):Int)=true:=by unfold maxn at hl;rw[ht];exact inR64 (by omega) (by split<;>omega)
  have hi':(i:Int)<l.length:=by omega
  refine WP.once ?_;simp only[T67,Tr.sure,SS,hi',hi,z1,hb,hc,hn.1];repeat' with_reducible first|intro _|apply aI
  all_goals first|(simp[hr,hr2,Go,Ends',v67,-List.getD_eq_getElem?_getD, *];done)|(simp_all [hr,hr2,Go,Ends',v67,-List.getD_eq_getElem?_getD];done)
 ·rw[List.take_length];generalize hk:(l.countP fun s=>hasZ s n)=k
  have hset:settled l n=if(k:Int)=(l.length:Int)then 1 else if(k:Int)=0 then 2 else 0:=by
   subst hk;unfold settled;simp only[Int.natCast_inj,Int.natCast_eq_zero]
  refine WP.step ?_;simp only[T67,Go,Ends',v67,Tr.sure,SS,Int.lt_irrefl];repeat' with_reducible first|intro _|apply aI
  all_goals first|(simp[hset,Go,Ends',v67,-List.getD_eq_getElem?_getD, *];done)|(simp_all [hset,Go,Ends',v67,-List.getD_eq_getElem?_getD];done)
def cell(v:V):V:=rR (v)
inductive P66
 |e
inductive R66
 |r0 (r0_c0_0:Int) (r0_c1_0:Int)
def T66(n:Int)(m:Int):P66->Tr P66 R66
 |.e=>(.out (.r0 m n))
noncomputable def g66(n:Int)(m:Int):P66->List Item × St
 |.e=>bd Tryz.f66 [iI n,iI m] 4
def n66:R66->Exit × St
 |.r0 r0_c0_0 r0_c1_0=>(.ret,⟨mk 6 [(4,fG 132 [.ref 1 0 0,.ref 0 0 0])],[.cells [iI r0_c1_0],.cells [iI r0_c0_0]],[]⟩)
def v66:R66->V
 |.r0 r0_c0_0 r0_c1_0=>fG 132 [rR (iI r0_c0_0),rR (iI r0_c1_0)]
theorem s66(n:Int)(m:Int):Sm 0 (g66 n m) (T66 n m) (n66)
 |.e=>⟨400,by kernel_rfl⟩
theorem q66:∀r,bodyQ Tryz.prog Tryz.f66 (·=v66 r) (n66 r).1 (n66 r).2
 |.r0 r0_c0_0 r0_c1_0=>⟨.inr rfl,by simp[n66],(fG 132 [.ref 1 0 0,.ref 0 0 0]),(fG 132 [rR (iI r0_c0_0),rR (iI r0_c1_0)]),by kernel_rfl,(.func rfl rfl (by intro j hj;exact absurd hj (by simp)) (by intro j hj;match j,hj with|0,_=>exact .weak (.ref (n:=1) rfl (Nat.le_refl _) (by intro j hj;match j,hj with|0,_=>exact .imm rfl)) (VLe.refl _)|1,_=>exact .weak (.ref (n:=1) rfl (Nat.le_refl _) (by intro j hj;match j,hj with|0,_=>exact .imm rfl)) (VLe.refl _))),rfl⟩
theorem w66(n:Int)(m:Int){post:V->Prop}(h:WQ (T66 n m) v66 post .e):PC 66 [iI n,iI m] post:=
 PCalls.wq Tryz.func66 (s66 n m) q66 h
theorem c66(n m:Int):PC 66 [iI n,iI m] (·=fG 132 [rR (iI m),rR (iI n)]):=by
 refine w66 _ _ (WP.step ?_);simp only[T66,Go,Ends',v66,Tr.sure,SS];repeat' with_reducible first|intro _|apply aI
inductive P70
 |e
inductive R70
 |r0 (r0_c0_0:Int) (r0_c1_0:List Int)
def T70(l:List Int)(m:Int):P70->Tr P70 R70
 |.e=>(.out (.r0 m l))
noncomputable def g70(l:List Int)(m:Int):P70->List Item × St
 |.e=>bd Tryz.f70 [tint.lst l,iI m] 4
def n70:R70->Exit × St
 |.r0 r0_c0_0 r0_c1_0=>(.ret,⟨mk 6 [(4,fG 134 [.ref 1 0 0,.ref 0 0 0])],[.cells [tint.lst r0_c1_0],.cells [iI r0_c0_0]],[]⟩)
def v70:R70->V
 |.r0 r0_c0_0 r0_c1_0=>fG 134 [rR (iI r0_c0_0),rR (tint.lst r0_c1_0)]
theorem s70(l:List Int)(m:Int):Sm 0 (g70 l m) (T70 l m) (n70)
 |.e=>⟨400,by kernel_rfl⟩
theorem q70:∀r,bodyQ Tryz.prog Tryz.f70 (·=v70 r) (n70 r).1 (n70 r).2
 |.r0 r0_c0_0 r0_c1_0=>⟨.inr rfl,by simp[n70],(fG 134 [.ref 1 0 0,.ref 0 0 0]),(fG 134 [rR (iI r0_c0_0),rR (tint.lst r0_c1_0)]),by kernel_rfl,(.func rfl rfl (by intro j hj;exact absurd hj (by simp)) (by intro j hj;match j,hj with|0,_=>exact .weak (.ref (n:=1) rfl (Nat.le_refl _) (by intro j hj;match j,hj with|0,_=>exact .imm rfl)) (VLe.refl _)|1,_=>exact .weak (.ref (n:=1) rfl (Nat.le_refl _) (by intro j hj;match j,hj with|0,_=>exact .imm rfl)) (VLe.refl _))),rfl⟩
theorem w70(l:List Int)(m:Int){post:V->Prop}(h:WQ (T70 l m) v70 post .e):PC 70 [tint.lst l,iI m] post:=
 PCalls.wq Tryz.func70 (s70 l m) q70 h
theorem c70(l:List Int)(m:Int):PC 70 [tint.lst l,iI m] (·=fG 134 [rR (iI m),rR (tint.lst l)]):=by
 refine w70 _ _ (WP.step ?_);simp only[T70,Go,Ends',v70,Tr.sure,SS];repeat' with_reducible first|intro _|apply aI
inductive P134
 |e
 |l0 (x0_3:Int)
inductive R134
 |r0 (r0:Int)
def T134(m:Int)(l:List Int):P134->Tr P134 R134
 |.e=>let c1:=m-(1:Int);(.need (inR .i64 c1) (.call 58 [iI 0,iI c1,tint.lst l] (.bool (outside 0 c1 l)) true true (.br (outside 0 c1 l) (.out (.r0 4)) (.go (.l0 1)))))
 |.l0 x0_3=>let c1:=x0_3-(1:Int);let c2:=(l.length:Int);(.br (decide (x0_3<c2)) (.front [] [] (((decide (0<=x0_3)&&decide (x0_3<c2))&&((inR .i64 c1)&&((decide (0<=c1)&&decide (c1<c2))&&true)))&&true) true (.br (decide ((l.getD (x0_3).toNat tint.zero)<=(l.getD (c1).toNat tint.zero))) (.out (.r0 2)) (.need (inR .i64 (x0_3+(1:Int))) (.go (.l0 (x0_3+(1:Int))))))) (.out (.r0 0)))
noncomputable def g134(m:Int)(l:List Int):P134->List Item × St
 |.e=>bd Tryz.f134 [rR (iI m),rR (tint.lst l)] 22
 |.l0 x0_3=>(cutOf Tryz.f134 0,⟨mk 24 [(1,rR (tint.lst l)),(3,iI x0_3)],[],[]⟩)
def n134:R134->Exit × St
 |.r0 r0=>(.ret,⟨mk 24 [(2,iI r0)],[],[]⟩)
def v134:R134->V
 |.r0 r0=>iI r0
theorem s134(m:Int)(l:List Int):Sm 0 (g134 m l) (T134 m l) (n134)
 |.e=>⟨400,by kernel_rfl⟩
 |.l0 _=>⟨400,by kernel_rfl⟩
theorem q134:∀r,bodyQ Tryz.prog Tryz.f134 (·=v134 r) (n134 r).1 (n134 r).2
 |.r0 r0=>bq (iI r0) (by kernel_rfl)
theorem w134(m:Int)(l:List Int){post:V->Prop}(h:WQ (T134 m l) v134 post .e):PC 134 [rR (iI m),rR (tint.lst l)] post:=
 PCalls.wq Tryz.func134 (s134 m l) q134 h
theorem e134:∀xs w,(callFunc 134 xs).run Tryz.prog w=.ok (.enter 134 xs) w:=PCalls.enters Tryz.func134 (c:=Tryz.f134.body.getD .skip) (by kernel_rfl) (by kernel_rfl)
theorem c134(many:Nat)(l:List Int)(hm:many<=maxn):PC 134 [rR (iI (many:Int)),rR (tint.lst l)] (·=iI (listErr many l)):=by
 refine PCalls.assume e134 1 (by simp) (.cref 0 (by decide) .list) fun hl=> ?_;have hr0:inR .i64 ((many:Int)-1)=true:=by unfold maxn at hm;exact inR64 (by omega) (by omega)
 by_cases ho:outside 0 ((many:Int)-1) l=true
 ·have he:listErr many l=4:=by unfold listErr;rw[if_pos];exact ho
  have k58:=c58 0 ((many:Int)-1) l;rw[ho]at k58;refine w134 _ _ (WP.step ?_);simp only[T134,Go,Ends',v134,Tr.sure,SS,ho];repeat' with_reducible first|intro _|apply aI
  all_goals first|exact k58|(simp[hr0,he,Go,Ends',v134,-List.getD_eq_getElem?_getD, *];done)
 ·rw[Bool.not_eq_true]at ho;have ha:(l.any fun n=> !within n 0 ((many:Int)-1))=false:=ho;have k58:=c58 0 ((many:Int)-1) l;rw[ho]at k58;refine w134 _ _ (WP.step ?_);simp only[T134,Go,Ends',v134,Tr.sure,SS,ho];repeat' with_reducible first|intro _|apply aI
  all_goals first|exact k58|(simp[hr0,Go,Ends',v134,-List.getD_eq_getElem?_getD, *];done)|skip
  refine WP.count (fun j=>.l0 ((j:Int)+1)) (by simp) (l.length-1) (fun j=>∀i,i<=j->falls l i=false) (fun i hi=>by rw[Nat.le_zero.1 hi];rfl) (fun j hj hI=> ?_) fun hI=> ?_
  ·have hj1:(j:Int)+1<l.length:=by omega
   have hr:inR .i64 ((j:Int)+1+1)=true:=by unfold maxn at hl;exact inR64 (by omega) (by omega)
   have hr2:inR .i64 ((j:Int)+1-1)=true:=by unfold maxn at hl;exact inR64 (by omega) (by omega)
   have e1:((j:Int)+1).toNat=j+1:=by omega
   have e2:((j:Int)+1-1).toNat=j:=by omega
   have hf:falls l (j+1)=decide (l.getD (j+1) 0<=l.getD j 0):=by simp[falls]
   have hl2:falls l (j+1)=true->listErr many l=2:=fun h=>by
    have:asc l=false:=by rw[asc_falls,List.any_eq_true.2 ⟨j+1,List.mem_range.2 (by omega),h⟩];rfl
    simp only[listErr,ha,this,Bool.false_eq_true,if_false]
   have hnext:falls l (j+1)=false->∀i,i<=j+1->falls l i=false:=fun h i hi=>by
    rcases Nat.lt_or_ge i (j+1)with q|q
    ·exact hI i (by omega)
    ·obtain rfl:i=j+1:=by omega
     exact h
   have hn0:0<=(j:Int)+1:=by omega
   have hn1:(j:Int)+1-1<l.length:=by omega
   have hn2:0<=(j:Int)+1-1:=by omega
   refine WP.once ?_;simp only[T134,Tr.sure,SS,hj1,z1,e1,e2,hn0,hn1,hn2];repeat' with_reducible first|intro _|apply aI
   all_goals first|(simp[hr,hr2,Go,Ends',v134,-List.getD_eq_getElem?_getD, *];done)|(simp_all [hr,hr2,Go,Ends',v134,-List.getD_eq_getElem?_getD];done)
  ·have hge:¬((l.length-1:Nat):Int)+1<l.length:=by omega
   have hasc:asc l=true:=by
    rw[asc_falls,Bool.not_eq_true',Bool.eq_false_iff];intro h;rw[List.any_eq_true]at h;obtain⟨i,h1,h2⟩:=h;rw[hI i (by rw[List.mem_range]at h1;omega)]at h2;cases h2
   have he:listErr many l=0:=by simp only[listErr,ha,hasc,Bool.false_eq_true,if_false,if_true]
   refine WP.step ?_;simp only[T134,Go,Ends',v134,Tr.sure,SS,hge];repeat' with_reducible first|intro _|apply aI
   all_goals simp[he,Go,Ends',v134,-List.getD_eq_getElem?_getD, *]
def orB(s n:Int):Int:=bitsOf .or .i64 s ((1:Int)*2^(min n.toNat 64))
def setZ(l:List Int):Int:=l.foldl orB 0
theorem or_all:(allS (fun s=>allS (fun n=>decide (0<=orB s n/\orB s n<32)) 5) 32)=true:=by kernel_rfl
theorem and_or_all:(allS (fun x=>allS (fun s=>allS (fun n=>(bitsOf .and .i64 x (orB s n)==orB s n)==((bitsOf .and .i64 x s==(s:Int))&&hasZ x n)) 5) 32) 32)=true:=by kernel_rfl
theorem orB_lt{s n:Int}(hs:0<=s/\s<32)(hn:0<=n/\n<5):0<=orB s n/\orB s n<32:=by
 obtain⟨a,rfl⟩:=Int.eq_ofNat_of_zero_le hs.1;obtain⟨b,rfl⟩:=Int.eq_ofNat_of_zero_le hn.1;simpa using allS_iff (allS_iff or_all (i:=a) (by omega)) (i:=b) (by omega)
theorem and_or{x s n:Int}(hx:0<=x/\x<32)(hs:0<=s/\s<32)(hn:0<=n/\n<5):(bitsOf .and .i64 x (orB s n)==orB s n)=((bitsOf .and .i64 x s==s)&&hasZ x n):=by
 obtain⟨c,rfl⟩:=Int.eq_ofNat_of_zero_le hx.1;obtain⟨a,rfl⟩:=Int.eq_ofNat_of_zero_le hs.1;obtain⟨b,rfl⟩:=Int.eq_ofNat_of_zero_le hn.1;have:=allS_iff (allS_iff (allS_iff and_or_all (i:=c) (by omega)) (i:=a) (by omega)) (i:=b) (by omega);exact eq_of_beq this
theorem fold_and:∀(l:List Int) (s x:Int),(∀n∈l,0<=n/\n<5)->0<=s/\s<32->0<=x/\x<32->(bitsOf .and .i64 x (l.foldl orB s)==l.foldl orB s)=((bitsOf .and .i64 x s==s)&&allZ x l)
 |[],s,x,_,_,_=>by simp[allZ]
 |n::l,s,x,h,hs,hx=>by
  have hn:=h n (by simp);rw[List.foldl_cons,fold_and l _ x (fun m hm=>h m (by simp[hm])) (orB_lt hs hn) hx,and_or hx hs hn];simp[allZ,Bool.and_assoc]
theorem and_set{l:List Int}{x:Int}(h:∀n∈l,0<=n/\n<5)(hx:0<=x/\x<32):(bitsOf .and .i64 x (setZ l)==setZ l)=allZ x l:=by
 have h0:(bitsOf .and .i64 x 0==0)=true:=by
  obtain⟨c,rfl⟩:=Int.eq_ofNat_of_zero_le hx.1;exact allS_iff (p:=fun c=>bitsOf .and .i64 (c:Int) 0==0) (n:=32) (by kernel_rfl) (by omega)
 unfold setZ;rw[fold_and l 0 x h ⟨by omega,by omega⟩ hx,h0,Bool.true_and]
inductive P72
 |e
 |l0 (x0_2:Int) (x0_7:Int)
inductive R72
 |r0 (r0:Int)
def T72(l:List Int):P72->Tr P72 R72
 |.e=>(.go (.l0 0 0))
 |.l0 x0_2 x0_7=>let c1:=(1:Int)*2^(min ((l.getD (x0_7).toNat tint.zero)).toNat 64);(.br (decide (x0_7<(l.length:Int))) (.need (decide (0<=x0_7)&&decide (x0_7<(l.length:Int))) (.need (decide (0<=(l.getD (x0_7).toNat tint.zero))&&inR .i64 c1) (.need (inR .i64 (x0_7+(1:Int))) (.go (.l0 (bitsOf .or .i64 x0_2 c1) (x0_7+(1:Int))))))) (.out (.r0 x0_2)))
noncomputable def g72(l:List Int):P72->List Item × St
 |.e=>bd Tryz.f72 [tint.lst l] 16
 |.l0 x0_2 x0_7=>(cutOf Tryz.f72 0,⟨mk 17 [(2,iI x0_2),(5,tint.lst l),(6,iI (l.length:Int)),(7,iI x0_7)],[],[]⟩)
def n72:R72->Exit × St
 |.r0 r0=>(.ret,⟨mk 17 [(2,iI r0)],[],[]⟩)
def v72:R72->V
 |.r0 r0=>iI r0
theorem s72(l:List Int):Sm 0 (g72 l) (T72 l) (n72)
 |.e=>⟨400,by kernel_rfl⟩
 |.l0 _ _=>⟨400,by kernel_rfl⟩
theorem q72:∀r,bodyQ Tryz.prog Tryz.f72 (·=v72 r) (n72 r).1 (n72 r).2
 |.r0 r0=>bq (iI r0) (by kernel_rfl)
theorem w72(l:List Int){post:V->Prop}(h:WQ (T72 l) v72 post .e):PC 72 [tint.lst l] post:=
 PCalls.wq Tryz.func72 (s72 l) q72 h
theorem e72:∀xs w,(callFunc 72 xs).run Tryz.prog w=.ok (.enter 72 xs) w:=PCalls.enters Tryz.func72 (c:=Tryz.f72.body.getD .skip) (by kernel_rfl) (by kernel_rfl)
theorem c72(l:List Int)(h:∀n∈l,0<=n/\n<5):PC 72 [tint.lst l] (·=iI (setZ l)):=by
 refine PCalls.assume e72 0 (by simp) .list fun hl=> ?_;refine w72 _ (WP.step ?_);simp only[T72,Go,Ends',v72,Tr.sure,SS];repeat' with_reducible first|intro _|apply aI
 refine WP.run (fun i=>.l0 (setZ (l.take i)) i) rfl l.length (fun i hi=> ?_) ?_
 ·have hr:=inRi hi hl;have hn:=h _ (getD_mem 0 l i hi);have ht:setZ (l.take (i+1))=bitsOf .or .i64 (setZ (l.take i)) ((1:Int)*2^(min (l.getD i 0).toNat 64)):=foldl_take orB 0 l 0 hi
  have hp:inR .i64 ((1:Int)*2^(min (l.getD i 0).toNat 64))=true:=by
   rcases show l.getD i 0=0\/l.getD i 0=1\/l.getD i 0=2\/l.getD i 0=3\/l.getD i 0=4 by omega with e|e|e|e|e<;>rw[e]<;>decide
  have hi':(i:Int)<l.length:=by omega
  rw[ht];refine WP.once ?_;simp only[T72,Tr.sure,SS,hi',hi,z1,hn.1,hp];repeat' with_reducible first|intro _|apply aI
  all_goals simp[hr,Go,Ends',v72,-List.getD_eq_getElem?_getD, *]
 ·rw[List.take_length];refine WP.step ?_;simp only[T72,Go,Ends',v72,Tr.sure,SS,Int.lt_irrefl];repeat' with_reducible first|intro _|apply aI
inductive P135
 |e
inductive R135
 |r0 (r0:Bool)
def T135(x:Int)(s:Int):P135->Tr P135 R135
 |.e=>(.out (.r0 ((bitsOf .and .i64 x s)==s)))
noncomputable def g135(x:Int)(s:Int):P135->List Item × St
 |.e=>bd Tryz.f135 [iI x,rR (iI s)] 7
def n135:R135->Exit × St
 |.r0 r0=>(.ret,⟨mk 9 [(3,.bool r0)],[],[]⟩)
def v135:R135->V
 |.r0 r0=>.bool r0
theorem s135(x:Int)(s:Int):Sm 0 (g135 x s) (T135 x s) (n135)
 |.e=>⟨400,by kernel_rfl⟩
theorem q135:∀r,bodyQ Tryz.prog Tryz.f135 (·=v135 r) (n135 r).1 (n135 r).2
 |.r0 r0=>bq (.bool r0) (by kernel_rfl)
theorem w135(x:Int)(s:Int){post:V->Prop}(h:WQ (T135 x s) v135 post .e):PC 135 [iI x,rR (iI s)] post:=
 PCalls.wq Tryz.func135 (s135 x s) q135 h
theorem c135(x s:Int):PC 135 [iI x,rR (iI s)] (·=.bool (bitsOf .and .i64 x s==s)):=by
 refine w135 _ _ (WP.step ?_);simp only[T135,Go,Ends',v135,Tr.sure,SS];repeat' with_reducible first|intro _|apply aI
def listZ(s:Int):List Int:=filtI (fun(i:Nat)=>hasZ s (i:Int)) 5
inductive P83
 |e
 |l0 (x0_4:Int) (a0_0:List Int)
inductive R83
 |r0 (r0:List Int)
def T83(s:Int):P83->Tr P83 R83
 |.e=>(.wait 2 (.own 2 3 1 (.go (.l0 0 ([])))))
 |.l0 x0_4 a0_0=>let c1:=x0_4+(1:Int);(.br (decide (x0_4<(5:Int))) (.need (decide (0<=x0_4)) (.br ((bitsOf .and .i64 (s.fdiv (2^(min (x0_4).toNat 64))) (1:Int))==(1:Int)) (.need ((decide (a0_0.length=a0_0.length)&&decide (a0_0.length+1<=4294967296))&&decide (1<=1)) (.scal (fun _=>true) (.need (inR .i64 c1) (.go (.l0 c1 (x0_4::a0_0)))))) (.need (inR .i64 c1) (.go (.l0 c1 a0_0))))) (.out (.r0 a0_0)))
noncomputable def g83(s:Int):P83->List Item × St
 |.e=>bd Tryz.f83 [iI s] 17
 |.l0 x0_4 a0_0=>(cutOf Tryz.f83 0,⟨mk 18 [(0,iI s),(2,.row 0 a0_0.length),(4,iI x0_4)],[.rows 3 1 a0_0.length (rowsRev tint a0_0)],[]⟩)
def n83:R83->Exit × St
 |.r0 r0=>(.ret,⟨mk 18 [(2,.row 0 r0.length)],[.rows 3 1 r0.length (rowsRev tint r0)],[]⟩)
def v83:R83->V
 |.r0 r0=>tint.lst r0.reverse
theorem s83(s:Int):Sm 0 (g83 s) (T83 s) (n83)
 |.e=>⟨400,by kernel_rfl⟩
 |.l0 _ _=>⟨400,by kernel_rfl⟩
theorem q83:∀r,bodyQ Tryz.prog Tryz.f83 (·=v83 r) (n83 r).1 (n83 r).2
 |.r0 r0=>⟨.inr rfl,by simp[n83],(.row 0 r0.length),(tint.lst r0.reverse),by kernel_rfl,(.weak (.row rfl (Nat.le_refl _)) (VLe.rev tint r0)),rfl⟩
theorem w83(s:Int){post:V->Prop}(h:WQ (T83 s) v83 post .e):PC 83 [iI s] post:=
 PCalls.wq Tryz.func83 (s83 s) q83 h
theorem c83(s:Int)(hs:0<=s/\s<32):PC 83 [iI s] (·=tint.lst (listZ s)):=by
 refine w83 _ (WP.step ?_);simp only[T83,Go,Ends',v83,Tr.sure,SS];repeat' with_reducible first|intro _|apply aI
 refine WP.run (fun i=>.l0 i (filtI (fun(q:Nat)=>hasZ s (q:Int)) i).reverse) rfl 5 (fun i hi=> ?_) ?_
 ·have hr:inR .i64 ((i:Int)+1)=true:=inR64 (by omega) (by omega);have hb:=bit_andI hs (show 0<=(i:Int)/\(i:Int)<=5 by omega);have hle:(filtI (fun(q:Nat)=>hasZ s (q:Int)) i).reverse.length+1<=4294967296:=by rw[List.length_reverse];have:=filtI_len (fun(q:Nat)=>hasZ s (q:Int)) i;omega
  have hn:=filtI_rev (fun(q:Nat)=>hasZ s (q:Int)) i;have hi':(i:Int)<5:=by omega
  rw[Int.toNat_natCast]at hb;generalize(filtI (fun(q:Nat)=>hasZ s (q:Int)) (i+1)).reverse=B at*
  generalize(filtI (fun(q:Nat)=>hasZ s (q:Int)) i).reverse=A at*
  cases hz:hasZ s (i:Int)with
  |true=>
   rw[hz]at hb;rw[hn,hz];refine WP.once ?_;simp only[T83,Tr.sure,SS,hi',hb];repeat' with_reducible first|intro _|apply aI
   all_goals first|(simp[hr,hle,Go,Ends',v83,-List.getD_eq_getElem?_getD, *];done)|(simp_all [hr,hle,Go,Ends',v83,-List.getD_eq_getElem?_getD];done)
  |false=>
   rw[hz]at hb;rw[hn,hz];refine WP.once ?_;simp only[T83,Tr.sure,SS,hi',hb];repeat' with_reducible first|intro _|apply aI
   all_goals first|(simp[hr,hle,Go,Ends',v83,-List.getD_eq_getElem?_getD, *];done)|(simp_all [hr,hle,Go,Ends',v83,-List.getD_eq_getElem?_getD];done)
 ·refine WP.step ?_;simp only[T83,Go,Ends',v83,Tr.sure,SS,Int.lt_irrefl];repeat' with_reducible first|intro _|apply aI
  all_goals first|(simp[listZ,Go,Ends',v83,-List.getD_eq_getElem?_getD, *];done)|(simp_all [listZ,Go,Ends',v83,-List.getD_eq_getElem?_getD];done)
end
noncomputable section
def Asks1(g:Nat)(lo:Int)(p:Int->Bool)(ok:Int->Prop):Prop:=∀n,ok n->PC g [iI n,rR (iI lo)] (·=.bool (p n))
inductive P136_1
 |e
 |l0 (x0_8:Int)
inductive R136_1
 |r0 (r0:Int)
def T136_1(g:Nat)(lo:Int)(p:Int->Bool)(s:List Int):P136_1->Tr P136_1 R136_1
 |.e=>(.go (.l0 0))
 |.l0 x0_8=>let c1:=s.getD (x0_8).toNat tint.zero;(.br (decide (x0_8<(s.length:Int))) (.need (decide (0<=x0_8)&&decide (x0_8<(s.length:Int))) (.call g [iI c1,rR (iI lo)] (.bool (p c1)) true true (.br (p c1) (.out (.r0 x0_8)) (.need (inR .i64 (x0_8+(1:Int))) (.go (.l0 (x0_8+(1:Int)))))))) (.out (.r0 (-1))))
noncomputable def g136_1(g:Nat)(lo:Int)(p:Int->Bool)(s:List Int):P136_1->List Item × St
 |.e=>bd Tryz.f136 [tint.lst s,.func (.func g) [] [rR (iI lo)]] 17
 |.l0 x0_8=>(cutOf Tryz.f136 0,⟨mk 19 [(0,tint.lst s),(1,.func (.func g) [] [rR (iI lo)]),(4,iI 0),(7,iI (s.length:Int)),(8,iI x0_8)],[],[]⟩)
def n136_1:R136_1->Exit × St
 |.r0 r0=>(.ret,⟨mk 19 [(4,iI r0)],[],[]⟩)
def v136_1:R136_1->V
 |.r0 r0=>iI r0
theorem s136_1(g:Nat)(lo:Int)(p:Int->Bool)(s:List Int):Sm 0 (g136_1 g lo p s) (T136_1 g lo p s) (n136_1)
 |.e=>⟨400,by kernel_rfl⟩
 |.l0 _=>⟨400,by kernel_rfl⟩
theorem q136_1:∀r,bodyQ Tryz.prog Tryz.f136 (·=v136_1 r) (n136_1 r).1 (n136_1 r).2
 |.r0 r0=>bq (iI r0) (by kernel_rfl)
theorem w136_1(g:Nat)(lo:Int)(p:Int->Bool)(s:List Int){post:V->Prop}(h:WQ (T136_1 g lo p s) v136_1 post .e):PC 136 [tint.lst s,.func (.func g) [] [rR (iI lo)]] post:=
 PCalls.wq Tryz.func136 (s136_1 g lo p s) q136_1 h
theorem c136_1{g:Nat}{lo:Int}{p:Int->Bool}{ok:Int->Prop}(s:List Int)(hg:Asks1 g lo p ok)(hok:∀n∈s,ok n):PC 136 [tint.lst s,.func (.func g) [] [rR (iI lo)]] (·=iI (place (firstI p 0 s))):=by
 refine PCalls.assume e136 0 (by simp) .list fun hs=> ?_;refine w136_1 g lo p s (WP.step ?_);simp only[T136_1,Go,Ends',v136_1,Tr.sure,SS];repeat' with_reducible first|intro _|apply aI
 refine WP.findI (fun i=>.l0 i) rfl s 0 p (fun i hi=> ?_) fun hI=> ?_
 ·have hr:=inRi hi hs;refine WP.once ?_;simp only[T136_1,Tr.sure,SS,hi,z1];repeat' with_reducible first|intro _|apply aI
  all_goals first|exact hg _ (hok _ (getD_mem 0 s i hi))|(simp[hr,place,Go,Ends',v136_1,-List.getD_eq_getElem?_getD, *];done)|(simp_all [hr,place,Go,Ends',v136_1,-List.getD_eq_getElem?_getD];done)
 ·refine WP.step ?_;simp only[T136_1,Go,Ends',v136_1,Tr.sure,SS];repeat' with_reducible first|intro _|apply aI
  all_goals simp[hI,place,Go,Ends',v136_1,-List.getD_eq_getElem?_getD, *]
inductive P120_1
 |e
inductive R120_1
 |r0 (r0:Bool)
def T120_1(g:Nat)(lo:Int)(p:Int->Bool)(s:List Int):P120_1->Tr P120_1 R120_1
 |.e=>(.call 136 [tint.lst s,.func (.func g) [] [rR (iI lo)]] (iI (place (firstI p 0 s))) true true (.out (.r0 (decide ((place (firstI p 0 s))≥(0:Int))))))
noncomputable def g120_1(g:Nat)(lo:Int)(p:Int->Bool)(s:List Int):P120_1->List Item × St
 |.e=>bd Tryz.f120 [tint.lst s,.func (.func g) [] [rR (iI lo)]] 7
def n120_1:R120_1->Exit × St
 |.r0 r0=>(.ret,⟨mk 9 [(4,.bool r0)],[],[]⟩)
def v120_1:R120_1->V
 |.r0 r0=>.bool r0
theorem s120_1(g:Nat)(lo:Int)(p:Int->Bool)(s:List Int):Sm 0 (g120_1 g lo p s) (T120_1 g lo p s) (n120_1)
 |.e=>⟨400,by kernel_rfl⟩
theorem q120_1:∀r,bodyQ Tryz.prog Tryz.f120 (·=v120_1 r) (n120_1 r).1 (n120_1 r).2
 |.r0 r0=>bq (.bool r0) (by kernel_rfl)
theorem w120_1(g:Nat)(lo:Int)(p:Int->Bool)(s:List Int){post:V->Prop}(h:WQ (T120_1 g lo p s) v120_1 post .e):PC 120 [tint.lst s,.func (.func g) [] [rR (iI lo)]] post:=
 PCalls.wq Tryz.func120 (s120_1 g lo p s) q120_1 h
theorem c120_1{g:Nat}{lo:Int}{p:Int->Bool}{ok:Int->Prop}(s:List Int)(hg:Asks1 g lo p ok)(hok:∀n∈s,ok n):PC 120 [tint.lst s,.func (.func g) [] [rR (iI lo)]] (·=.bool (s.any p)):=by
 have h1:decide (0<=place (firstI p 0 s))=s.any p:=by rw[<-firstI_any p s 0,Bool.eq_iff_iff,decide_eq_true_iff];exact place_ge _
 refine w120_1 g lo p s (WP.step ?_);simp only[T120_1,Go,Ends',v120_1,Tr.sure,SS];repeat' with_reducible first|intro _|apply aI
 all_goals first|exact(c136_1 s hg hok)|(simp[h1,Go,Ends',v120_1,-List.getD_eq_getElem?_getD, *];done)
def courtCells(c:Case)(l:List Int):List V:=tCase.cells c++kindCells++ [tint.lst l]
def court(c:Case)(l:List Int):V:=.cref 30 fun q=>(courtCells c l).getD q uU
inductive P71
 |e
inductive R71
 |r0 (r0:Bool)
def T71(l:List Int)(c:Case)(x:Int):P71->Tr P71 R71
 |.e=>(.call 120 [tint.lst l,fG 135 [rR (iI x)]] (.bool (l.any fun s=>bitsOf .and .i64 s x==x)) true true (.out (.r0 (l.any fun s=>bitsOf .and .i64 s x==x))))
noncomputable def g71(l:List Int)(c:Case)(x:Int):P71->List Item × St
 |.e=>bd Tryz.f71 [court c l,iI x] 9
def n71:R71->Exit × St
 |.r0 r0=>(.ret,⟨mk 11 [(4,.bool r0)],[],[]⟩)
def v71:R71->V
 |.r0 r0=>.bool r0
theorem s71(l:List Int)(c:Case)(x:Int):Sm 0 (g71 l c x) (T71 l c x) (n71)
 |.e=>⟨400,by kernel_rfl⟩
theorem q71:∀r,bodyQ Tryz.prog Tryz.f71 (·=v71 r) (n71 r).1 (n71 r).2
 |.r0 r0=>bq (.bool r0) (by kernel_rfl)
theorem w71(l:List Int)(c:Case)(x:Int){post:V->Prop}(h:WQ (T71 l c x) v71 post .e):PC 71 [court c l,iI x] post:=
 PCalls.wq Tryz.func71 (s71 l c x) q71 h
theorem c71(c:Case)(l:List Int)(x:Int):PC 71 [court c l,iI x] (·=.bool (l.any fun s=>bitsOf .and .i64 s x==x)):=by
 refine w71 _ _ _ (WP.step ?_);simp only[T71,Go,Ends',v71,Tr.sure,SS];repeat' with_reducible first|intro _|apply aI
 all_goals exact(c120_1 (ok:=fun _=>True) l (fun n _=>c135 n x) fun _ _=>trivial)
inductive P79
 |e
 |l0 (x0_14:Int) (a0_0:List Int)
inductive R79
 |r0 (r0:List Int)
def T79(l:List Int)(c:Case)(s:List Int)(n:Int):P79->Tr P79 R79
 |.e=>(.wait 2 (.own 6 3 1 (.go (.l0 0 ([])))))
 |.l0 x0_14 a0_0=>let c1:=x0_14+(1:Int);(.br (decide (x0_14<(c.claims.length:Int))) (.call 67 [tint.lst s,iI x0_14] (iI (settled s x0_14)) true true (.br ((settled s x0_14)==n) (.need ((decide (a0_0.length=a0_0.length)&&decide (a0_0.length+1<=4294967296))&&decide (1<=1)) (.scal (fun _=>true) (.need (inR .i64 c1) (.go (.l0 c1 (x0_14::a0_0)))))) (.need (inR .i64 c1) (.go (.l0 c1 a0_0))))) (.out (.r0 a0_0)))
noncomputable def g79(l:List Int)(c:Case)(s:List Int)(n:Int):P79->List Item × St
 |.e=>bd Tryz.f79 [court c l,tint.lst s,iI n] 25
 |.l0 x0_14 a0_0=>(cutOf Tryz.f79 0,⟨mk 28 [(1,tint.lst s),(2,iI n),(6,.row 0 a0_0.length),(13,iI (c.claims.length:Int)),(14,iI x0_14)],[.rows 3 1 a0_0.length (rowsRev tint a0_0)],[]⟩)
def n79:R79->Exit × St
 |.r0 r0=>(.ret,⟨mk 28 [(6,.row 0 r0.length)],[.rows 3 1 r0.length (rowsRev tint r0)],[]⟩)
def v79:R79->V
 |.r0 r0=>tint.lst r0.reverse
theorem s79(l:List Int)(c:Case)(s:List Int)(n:Int):Sm 0 (g79 l c s n) (T79 l c s n) (n79)
 |.e=>⟨400,by kernel_rfl⟩
 |.l0 _ _=>⟨400,by kernel_rfl⟩
theorem q79:∀r,bodyQ Tryz.prog Tryz.f79 (·=v79 r) (n79 r).1 (n79 r).2
 |.r0 r0=>⟨.inr rfl,by simp[n79],(.row 0 r0.length),(tint.lst r0.reverse),by kernel_rfl,(.weak (.row rfl (Nat.le_refl _)) (VLe.rev tint r0)),rfl⟩
theorem w79(l:List Int)(c:Case)(s:List Int)(n:Int){post:V->Prop}(h:WQ (T79 l c s n) v79 post .e):PC 79 [court c l,tint.lst s,iI n] post:=
 PCalls.wq Tryz.func79 (s79 l c s n) q79 h
theorem c79(c:Case)(l s:List Int)(how:Int)(h5:c.claims.length<=5)(hs:∀x∈s,0<=x/\x<32):PC 79 [court c l,tint.lst s,iI how] (·=tint.lst (each c.claims.length s how)):=by
 have he:∀n,each n s how=filtI (fun(i:Nat)=>settled s i==how) n:=fun _=>rfl;refine w79 _ _ _ _ (WP.step ?_);simp only[T79,Go,Ends',v79,Tr.sure,SS];repeat' with_reducible first|intro _|apply aI
 refine WP.run (fun i=>.l0 i (each i s how).reverse) rfl c.claims.length (fun i hi=> ?_) ?_
 ·have hr:inR .i64 ((i:Int)+1)=true:=inR64 (by omega) (by omega);have hle:(each i s how).reverse.length+1<=4294967296:=by rw[List.length_reverse,he];have:=filtI_len (fun(i:Nat)=>settled s i==how) i;omega
  have hn:(each (i+1) s how).reverse=if(settled s i==how)=true then(i:Int)::(each i s how).reverse else(each i s how).reverse:=by rw[he,he];exact filtI_rev _ _
  have hi':((i:Nat):Int)<c.claims.length:=by omega
  generalize(each (i+1) s how).reverse=B at*
  generalize(each i s how).reverse=A at*
  refine WP.once ?_;simp only[T79,Tr.sure,SS,hi',hi];repeat' with_reducible first|intro _|apply aI
  all_goals first|exact(c67 _ _ hs (by omega))|(simp[hr,hle,hn,Go,Ends',v79,-List.getD_eq_getElem?_getD, *];done)
 ·refine WP.step ?_;simp only[T79,Go,Ends',v79,Tr.sure,SS,Int.lt_irrefl];repeat' with_reducible first|intro _|apply aI
  all_goals simp[Go,Ends',v79,-List.getD_eq_getElem?_getD, *]
end
noncomputable section
inductive P152
 |e
inductive R152
 |r0 (r0:Bool)
def T152(x:Int):P152->Tr P152 R152
 |.e=>(.out (.r0 (x !=x)))
noncomputable def g152(x:Int):P152->List Item × St
 |.e=>bd Tryz.f152 [iI x] 5
def n152:R152->Exit × St
 |.r0 r0=>(.ret,⟨mk 6 [(2,.bool r0)],[],[]⟩)
def v152:R152->V
 |.r0 r0=>.bool r0
theorem s152(x:Int):Sm 0 (g152 x) (T152 x) (n152)
 |.e=>⟨400,by kernel_rfl⟩
theorem q152:∀r,bodyQ Tryz.prog Tryz.f152 (·=v152 r) (n152 r).1 (n152 r).2
 |.r0 r0=>bq (.bool r0) (by kernel_rfl)
theorem w152(x:Int){post:V->Prop}(h:WQ (T152 x) v152 post .e):PC 152 [iI x] post:=
 PCalls.wq Tryz.func152 (s152 x) q152 h
theorem c152(x:Int):PC 152 [iI x] (·=.bool false):=by
 refine w152 _ (WP.step ?_);simp only[T152,Go,Ends',v152,Tr.sure,SS];repeat' with_reducible first|intro _|apply aI
 all_goals simp[Go,Ends',v152,-List.getD_eq_getElem?_getD, *]
def cmpI(x y:Int):Int:=if x<y then-1 else if x>y then 1 else 0
inductive P108
 |e
inductive R108
 |r0 (r0:Int)
def T108(x:Int)(y:Int):P108->Tr P108 R108
 |.e=>(.call 152 [iI x] (.bool false) true true (.call 152 [iI y] (.bool false) true true (.lit false (.lit false (.br (decide (x<y)) (.out (.r0 (-1))) (.br (decide (x>y)) (.out (.r0 1)) (.out (.r0 0))))))))
noncomputable def g108(x:Int)(y:Int):P108->List Item × St
 |.e=>bd Tryz.f108 [iI x,iI y] 18
def n108:R108->Exit × St
 |.r0 r0=>(.ret,⟨mk 20 [(4,iI r0)],[],[]⟩)
def v108:R108->V
 |.r0 r0=>iI r0
theorem s108(x:Int)(y:Int):Sm 0 (g108 x y) (T108 x y) (n108)
 |.e=>⟨400,by kernel_rfl⟩
theorem q108:∀r,bodyQ Tryz.prog Tryz.f108 (·=v108 r) (n108 r).1 (n108 r).2
 |.r0 r0=>bq (iI r0) (by kernel_rfl)
theorem w108(x:Int)(y:Int){post:V->Prop}(h:WQ (T108 x y) v108 post .e):PC 108 [iI x,iI y] post:=
 PCalls.wq Tryz.func108 (s108 x y) q108 h
theorem c108(x y:Int):PC 108 [iI x,iI y] (·=iI (cmpI x y)):=by
 refine w108 _ _ (WP.step ?_);simp only[T108,Go,Ends',v108,Tr.sure,SS];repeat' with_reducible first|intro _|apply aI
 all_goals first|exact(c152 _)|(simp[cmpI,Go,Ends',v108,-List.getD_eq_getElem?_getD, *];done)
def cmpL:List Int->List Int->Int
 |[],[]=>0
 |[],_::_=> -1
 |_::_,[]=>1
 |x::a,y::b=>if cmpI x y≠0 then cmpI x y else cmpL a b
theorem cmpL_less:∀a b:List Int,decide (cmpL a b<0)=less a b
 |[],[]=>rfl
 |[],_::_=>rfl
 |_::_,[]=>rfl
 |x::a,y::b=>by
  have ih:=cmpL_less a b;simp only[cmpL,less,cmpI];by_cases h:x=y
  ·subst h;simp[ih]
  ·by_cases h1:x<y
   ·simp[h,h1]
   ·have h2:x>y:=by omega
    simp[h,h1,h2]
theorem cmpL_drop(a b:List Int){i:Nat}(ha:i<a.length)(hb:i<b.length):cmpL (a.drop i) (b.drop i)=if cmpI (a.getD i 0) (b.getD i 0)≠0 then cmpI (a.getD i 0) (b.getD i 0)else cmpL (a.drop (i+1)) (b.drop (i+1)):=by
 rw[drop_cons 0 a i ha,drop_cons 0 b i hb];rfl
theorem cmpL_more(a b:List Int){i:Nat}(ha:i<a.length)(hb:b.length<=i):cmpL (a.drop i) (b.drop i)=1:=by
 rw[drop_cons 0 a i ha,List.drop_eq_nil_of_le hb];rfl
theorem cmpL_end(a b:List Int):cmpL (a.drop a.length) (b.drop a.length)=if a.length<b.length then-1 else 0:=by
 rw[List.drop_length];by_cases h:a.length<b.length
 ·rw[drop_cons 0 b _ h,if_pos h];rfl
 ·rw[List.drop_eq_nil_of_le (by omega),if_neg h];rfl
inductive P86
 |e
 |l0 (x0_11:Int)
inductive R86
 |r0 (r0:Int)
def T86(p0:List Int)(p1:List Int):P86->Tr P86 R86
 |.e=>(.go (.l0 0))
 |.l0 x0_11=>let c1:=cmpI (p0.getD (x0_11).toNat tint.zero) (p1.getD (x0_11).toNat tint.zero);let c2:=(p1.length:Int);let c3:=(p0.length:Int);(.br (decide (x0_11<c3)) (.need (decide (0<=x0_11)&&decide (x0_11<c3)) (.br (decide (x0_11≥c2)) (.out (.r0 1)) (.need (decide (0<=x0_11)&&decide (x0_11<c2)) (.call 108 [iI (p0.getD (x0_11).toNat tint.zero),iI (p1.getD (x0_11).toNat tint.zero)] (iI c1) true true (.br (c1 !=(0:Int)) (.out (.r0 c1)) (.need (inR .i64 (x0_11+(1:Int))) (.go (.l0 (x0_11+(1:Int)))))))))) (.br (decide (c3<c2)) (.out (.r0 (-1))) (.out (.r0 0))))
noncomputable def g86(p0:List Int)(p1:List Int):P86->List Item × St
 |.e=>bd Tryz.f86 [tint.lst p0,tint.lst p1] 34
 |.l0 x0_11=>(cutOf Tryz.f86 0,⟨mk 36 [(0,tint.lst p0),(1,tint.lst p1),(9,tint.lst p0),(10,iI (p0.length:Int)),(11,iI x0_11)],[],[]⟩)
def n86:R86->Exit × St
 |.r0 r0=>(.ret,⟨mk 36 [(4,iI r0)],[],[]⟩)
def v86:R86->V
 |.r0 r0=>iI r0
theorem s86(p0:List Int)(p1:List Int):Sm 0 (g86 p0 p1) (T86 p0 p1) (n86)
 |.e=>⟨400,by kernel_rfl⟩
 |.l0 _=>⟨400,by kernel_rfl⟩
theorem q86:∀r,bodyQ Tryz.prog Tryz.f86 (·=v86 r) (n86 r).1 (n86 r).2
 |.r0 r0=>bq (iI r0) (by kernel_rfl)
theorem w86(p0:List Int)(p1:List Int){post:V->Prop}(h:WQ (T86 p0 p1) v86 post .e):PC 86 [tint.lst p0,tint.lst p1] post:=
 PCalls.wq Tryz.func86 (s86 p0 p1) q86 h
theorem e86:∀xs w,(callFunc 86 xs).run Tryz.prog w=.ok (.enter 86 xs) w:=PCalls.enters Tryz.func86 (c:=Tryz.f86.body.getD .skip) (by kernel_rfl) (by kernel_rfl)
theorem c86(a b:List Int):PC 86 [tint.lst a,tint.lst b] (·=iI (cmpL a b)):=by
 refine PCalls.assume e86 0 (by simp) .list fun hl=> ?_;refine w86 _ _ (WP.step ?_);simp only[T86,Go,Ends',v86,Tr.sure,SS];repeat' with_reducible first|intro _|apply aI
 refine WP.count (fun i=>.l0 (i:Int)) rfl a.length (fun i=>cmpL a b=cmpL (a.drop i) (b.drop i)) rfl (fun i hi hI=> ?_) fun hI=> ?_
 ·have hr:=inRi hi hl;have hi':(i:Int)<a.length:=by omega
  by_cases hb:i<b.length
  ·have hb':¬(b.length:Int)<=(i:Int):=by omega
   have hb2:(i:Int)<b.length:=by omega
   have hd:=cmpL_drop a b hi hb;have hd1:cmpI (a.getD i 0) (b.getD i 0)=0->cmpL a b=cmpL (a.drop (i+1)) (b.drop (i+1)):=fun h=>by rw[hI,hd,if_neg (by simpa using h)]
   have hd2:¬cmpI (a.getD i 0) (b.getD i 0)=0->cmpL a b=cmpI (a.getD i 0) (b.getD i 0):=fun h=>by rw[hI,hd,if_pos h]
   clear hI hd
   refine WP.once ?_;simp only[T86,Tr.sure,SS,hi',hb',hb2,z1];repeat' with_reducible first|intro _|apply aI
   all_goals first|exact(c108 _ _)|(simp[hr,Go,Ends',v86,-List.getD_eq_getElem?_getD, *];done)
   all_goals(right;simp only[Go,Ends',v86];rw[hd2 (by assumption)])
  ·have hb':(b.length:Int)<=(i:Int):=by omega
   have hm:cmpL a b=1:=by rw[hI];exact cmpL_more a b hi (by omega)
   clear hI
   refine WP.once ?_;simp only[T86,Tr.sure,SS,hi',hb',z1];repeat' with_reducible first|intro _|apply aI
   all_goals simp[hr,hm,Go,Ends',v86,-List.getD_eq_getElem?_getD, *]
 ·have he:cmpL a b=if(a.length:Int)<(b.length:Int)then-1 else 0:=by rw[hI,cmpL_end];simp only[Int.ofNat_lt]
  refine WP.step ?_;simp only[T86,Go,Ends',v86,Tr.sure,SS,Int.lt_irrefl];repeat' with_reducible first|intro _|apply aI
  all_goals simp[he,Go,Ends',v86,-List.getD_eq_getElem?_getD, *]
inductive P85
 |e
inductive R85
 |r0 (r0:Bool)
def T85(p0:List Int)(p1:List Int):P85->Tr P85 R85
 |.e=>(.br (decide ((p0.length:Int)<(p1.length:Int))) (.lit true (.out (.r0 true))) (.br ((p0.length:Int)==(p1.length:Int)) (.call 86 [tint.lst p0,tint.lst p1] (iI (cmpL p0 p1)) true true (.lit false (.out (.r0 (decide ((cmpL p0 p1)<(0:Int))))))) (.lit false (.out (.r0 false)))))
noncomputable def g85(p0:List Int)(p1:List Int):P85->List Item × St
 |.e=>bd Tryz.f85 [tint.lst p0,tint.lst p1] 21
def n85:R85->Exit × St
 |.r0 r0=>(.ret,⟨mk 23 [(4,.bool r0)],[],[]⟩)
def v85:R85->V
 |.r0 r0=>.bool r0
theorem s85(p0:List Int)(p1:List Int):Sm 0 (g85 p0 p1) (T85 p0 p1) (n85)
 |.e=>⟨400,by kernel_rfl⟩
theorem q85:∀r,bodyQ Tryz.prog Tryz.f85 (·=v85 r) (n85 r).1 (n85 r).2
 |.r0 r0=>bq (.bool r0) (by kernel_rfl)
theorem w85(p0:List Int)(p1:List Int){post:V->Prop}(h:WQ (T85 p0 p1) v85 post .e):PC 85 [tint.lst p0,tint.lst p1] post:=
 PCalls.wq Tryz.func85 (s85 p0 p1) q85 h
theorem c85(a b:List Int):PC 85 [tint.lst a,tint.lst b] (·=.bool (fewer a b)):=by
 have h0:=cmpL_less a b
 have hfe:fewer a b=(decide ((a.length:Int)<b.length)||(decide ((a.length:Int)=b.length)&&decide (cmpL a b<0))):=by
  rw[h0];unfold fewer;by_cases h:a.length=b.length
  ·simp[h]
  ·have:¬(a.length:Int)=b.length:=by omega
   simp[h,this]
 refine w85 _ _ (WP.step ?_);simp only[T85,Go,Ends',v85,Tr.sure,SS];repeat' with_reducible first|intro _|apply aI
 all_goals first|exact(c86 _ _)|(simp[hfe,Go,Ends',v85,-List.getD_eq_getElem?_getD, *];done)
inductive P88
 |e
 |l0 (x0_4:Int) (x0_9:Int)
inductive R88
 |r0 (r0:Int)
def T88(l:List Int)(c:Case)(s:List Int):P88->Tr P88 R88
 |.e=>(.go (.l0 0 0))
 |.l0 x0_4 x0_9=>let c1:=s.getD (x0_9).toNat tint.zero;let c2:=x0_4+(c.claims.getD (c1).toNat tClaim.zero).worth;(.br (decide (x0_9<(s.length:Int))) (.need (decide (0<=x0_9)&&decide (x0_9<(s.length:Int))) (.need (decide (0<=c1)&&decide (c1<(c.claims.length:Int))) (.need (inR .i64 c2) (.need (inR .i64 (x0_9+(1:Int))) (.go (.l0 c2 (x0_9+(1:Int)))))))) (.out (.r0 x0_4)))
noncomputable def g88(l:List Int)(c:Case)(s:List Int):P88->List Item × St
 |.e=>bd Tryz.f88 [court c l,tint.lst s] 24
 |.l0 x0_4 x0_9=>(cutOf Tryz.f88 0,⟨mk 26 [(0,court c l),(4,iI x0_4),(7,tint.lst s),(8,iI (s.length:Int)),(9,iI x0_9)],[],[]⟩)
def n88:R88->Exit × St
 |.r0 r0=>(.ret,⟨mk 26 [(4,iI r0)],[],[]⟩)
def v88:R88->V
 |.r0 r0=>iI r0
theorem s88(l:List Int)(c:Case)(s:List Int):Sm 0 (g88 l c s) (T88 l c s) (n88)
 |.e=>⟨400,by kernel_rfl⟩
 |.l0 _ _=>⟨400,by kernel_rfl⟩
theorem q88:∀r,bodyQ Tryz.prog Tryz.f88 (·=v88 r) (n88 r).1 (n88 r).2
 |.r0 r0=>bq (iI r0) (by kernel_rfl)
theorem w88(l:List Int)(c:Case)(s:List Int){post:V->Prop}(h:WQ (T88 l c s) v88 post .e):PC 88 [court c l,tint.lst s] post:=
 PCalls.wq Tryz.func88 (s88 l c s) q88 h
theorem c88(c:Case)(l s:List Int)(h:OkCase c)(hs:OkL c s):PC 88 [court c l,tint.lst s] (·=iI (worth c s)):=by
 refine w88 _ _ _ (WP.step ?_);simp only[T88,Go,Ends',v88,Tr.sure,SS];repeat' with_reducible first|intro _|apply aI
 refine WP.run (fun i=>.l0 (worth c (s.take i)) i) rfl s.length (fun i hi=> ?_) ?_
 ·have h8:=hs.len;have hr:inR .i64 ((i:Int)+1)=true:=inR64 (by omega) (by omega);have h2:=hs.mem _ (getD_mem 0 s i hi);have h3:=worth_bd c (s.take (i+1)) h ⟨fun n hn=>hs.mem n (List.mem_of_mem_take hn),by simp;omega⟩;have h4:=worth_take c s hi;have hr2:inR .i64 (worth c (s.take i)+(cl c (s.getD i 0).toNat).worth)=true:=by rw[<-h4];exact inR64 (by omega) (by omega)
  have hi':((i:Nat):Int)<s.length:=by omega
  have hcl:c.claims.getD (s.getD i 0).toNat zClaim=cl c (s.getD i 0).toNat:=rfl;rw[h4];refine WP.once ?_;simp only[T88,Tr.sure,SS,hi',hi,z1,z8,hcl,h2.1,h2.2];repeat' with_reducible first|intro _|apply aI
  all_goals simp[hr,hr2,h2.1,h2.2,Go,Ends',v88,-List.getD_eq_getElem?_getD, *]
 ·rw[List.take_length];refine WP.step ?_;simp only[T88,Go,Ends',v88,Tr.sure,SS,Int.lt_irrefl];repeat' with_reducible first|intro _|apply aI
end
noncomputable section
inductive P138
 |e
inductive R138
 |r0 (r0:Int)
def T138(p0:Int):P138->Tr P138 R138
 |.e=>let c1:=bitsOf .and .u64 (IntKind.wrap .u64 (((IntKind.wrap .u64 ((bitsOf .and .u64 ((IntKind.wrap .u64 ((bitsOf .and .u64 (p0.fdiv (2^(min ((1:Int)).toNat 64))) (6148914691236517205:Int))+(bitsOf .and .u64 p0 (6148914691236517205:Int)))).fdiv (2^(min ((2:Int)).toNat 64))) (3689348814741910323:Int))+(bitsOf .and .u64 (IntKind.wrap .u64 ((bitsOf .and .u64 (p0.fdiv (2^(min ((1:Int)).toNat 64))) (6148914691236517205:Int))+(bitsOf .and .u64 p0 (6148914691236517205:Int)))) (3689348814741910323:Int)))).fdiv (2^(min ((4:Int)).toNat 64)))+(IntKind.wrap .u64 ((bitsOf .and .u64 ((IntKind.wrap .u64 ((bitsOf .and .u64 (p0.fdiv (2^(min ((1:Int)).toNat 64))) (6148914691236517205:Int))+(bitsOf .and .u64 p0 (6148914691236517205:Int)))).fdiv (2^(min ((2:Int)).toNat 64))) (3689348814741910323:Int))+(bitsOf .and .u64 (IntKind.wrap .u64 ((bitsOf .and .u64 (p0.fdiv (2^(min ((1:Int)).toNat 64))) (6148914691236517205:Int))+(bitsOf .and .u64 p0 (6148914691236517205:Int)))) (3689348814741910323:Int)))))) (1085102592571150095:Int);let c2:=IntKind.wrap .u64 ((IntKind.wrap .u64 (c1+(c1.fdiv (2^(min ((8:Int)).toNat 64)))))+((IntKind.wrap .u64 (c1+(c1.fdiv (2^(min ((8:Int)).toNat 64))))).fdiv (2^(min ((16:Int)).toNat 64))));let c3:=IntKind.wrap .u64 (c2+(c2.fdiv (2^(min ((32:Int)).toNat 64))));(.need (decide (0<=(1:Int))) (.need true (.need (decide (0<=(2:Int))) (.need true (.need (decide (0<=(4:Int))) (.need true (.need (decide (0<=(8:Int))) (.need true (.need (decide (0<=(16:Int))) (.need true (.need (decide (0<=(32:Int))) (.need true (.need (inR .i64 c3) (.out (.r0 (bitsOf .and .i64 c3 (127:Int)))))))))))))))))
noncomputable def g138(p0:Int):P138->List Item × St
 |.e=>bd Tryz.f138 [.int .u64 p0] 34
def n138:R138->Exit × St
 |.r0 r0=>(.ret,⟨mk 35 [(2,iI r0)],[],[]⟩)
def v138:R138->V
 |.r0 r0=>iI r0
theorem s138(p0:Int):Sm 0 (g138 p0) (T138 p0) (n138)
 |.e=>⟨400,by kernel_rfl⟩
theorem q138:∀r,bodyQ Tryz.prog Tryz.f138 (·=v138 r) (n138 r).1 (n138 r).2
 |.r0 r0=>bq (iI r0) (by kernel_rfl)
theorem w138(p0:Int){post:V->Prop}(h:WQ (T138 p0) v138 post .e):PC 138 [.int .u64 p0] post:=
 PCalls.wq Tryz.func138 (s138 p0) q138 h
def goods138(s:Int):Tr P138 R138->Bool
 |.need b t=>b&&goods138 s t
 |.out (.r0 n)=>n==manyZ s
 |_=>false
set_option maxHeartbeats 2000000 in
theorem goods138_ok(s:Int):∀t,goods138 s t=true->t.sure Tryz.prog ⟨none,0⟩ (fun x=>Ends' (α:=P138) (fun r=>v138 r=iI (manyZ s)) x)
 |.need b t,h=>by
  simp only[goods138,Bool.and_eq_true]at h;exact⟨h.1,fun _=>goods138_ok s t h.2⟩
 |.out (.r0 n),h=>by
  simp only[goods138,beq_iff_eq]at h;subst h;rfl
theorem ones_all:(allS (fun s=>goods138 s (T138 s .e)) 32)=true:=by kernel_rfl
theorem c138(s:Int)(hs:0<=s/\s<32):PC 138 [.int .u64 s] (·=iI (manyZ s)):=by
 obtain⟨n,rfl⟩:=Int.eq_ofNat_of_zero_le hs.1;have:=allS_iff ones_all (i:=n) (by omega);refine w138 _ (WP.step ?_);exact Tr.sure_mono (fun x hx=>by cases x<;>first|exact hx|exact hx.elim) (goods138_ok _ _ this)
theorem wrap_all:(allS (fun s=>IntKind.wrap .u64 (s:Int)==(s:Int)) 32)=true:=by kernel_rfl
theorem wrap32{s:Int}(hs:0<=s/\s<32):IntKind.wrap .u64 s=s:=by
 obtain⟨n,rfl⟩:=Int.eq_ofNat_of_zero_le hs.1;exact eq_of_beq (allS_iff wrap_all (i:=n) (by omega))
inductive P91
 |e
inductive R91
 |r0 (r0:Int)
def T91(p0:Int):P91->Tr P91 R91
 |.e=>(.lit false (.call 138 [.int .u64 p0] (iI (manyZ p0)) true true (.out (.r0 (manyZ p0)))))
noncomputable def g91(p0:Int):P91->List Item × St
 |.e=>bd Tryz.f91 [.int .u64 p0] 7
def n91:R91->Exit × St
 |.r0 r0=>(.ret,⟨mk 8 [(2,iI r0)],[],[]⟩)
def v91:R91->V
 |.r0 r0=>iI r0
theorem s91(p0:Int):Sm 0 (g91 p0) (T91 p0) (n91)
 |.e=>⟨400,by kernel_rfl⟩
theorem q91:∀r,bodyQ Tryz.prog Tryz.f91 (·=v91 r) (n91 r).1 (n91 r).2
 |.r0 r0=>bq (iI r0) (by kernel_rfl)
theorem w91(p0:Int){post:V->Prop}(h:WQ (T91 p0) v91 post .e):PC 91 [.int .u64 p0] post:=
 PCalls.wq Tryz.func91 (s91 p0) q91 h
theorem c91(s:Int)(hs:0<=s/\s<32):PC 91 [.int .u64 s] (·=iI (manyZ s)):=by
 refine w91 _ (WP.step ?_);simp only[T91,Go,Ends',v91,Tr.sure,SS];repeat' with_reducible first|intro _|apply aI
 all_goals exact(c138 s hs)
inductive P90
 |e
inductive R90
 |r0 (r0:Bool)
def T90(p0:Int)(p1:Int):P90->Tr P90 R90
 |.e=>let c1:=IntKind.wrap .u64 p1;let c2:=IntKind.wrap .u64 p0;(.need true (.call 91 [.int .u64 c2] (iI (manyZ c2)) true true (.need true (.call 91 [.int .u64 c1] (iI (manyZ c1)) true true (.out (.r0 (decide ((manyZ c2)>(manyZ c1)))))))))
noncomputable def g90(p0:Int)(p1:Int):P90->List Item × St
 |.e=>bd Tryz.f90 [iI p0,iI p1] 10
def n90:R90->Exit × St
 |.r0 r0=>(.ret,⟨mk 12 [(4,.bool r0)],[],[]⟩)
def v90:R90->V
 |.r0 r0=>.bool r0
theorem s90(p0:Int)(p1:Int):Sm 0 (g90 p0 p1) (T90 p0 p1) (n90)
 |.e=>⟨400,by kernel_rfl⟩
theorem q90:∀r,bodyQ Tryz.prog Tryz.f90 (·=v90 r) (n90 r).1 (n90 r).2
 |.r0 r0=>bq (.bool r0) (by kernel_rfl)
theorem w90(p0:Int)(p1:Int){post:V->Prop}(h:WQ (T90 p0 p1) v90 post .e):PC 90 [iI p0,iI p1] post:=
 PCalls.wq Tryz.func90 (s90 p0 p1) q90 h
theorem c90(x y:Int)(hx:0<=x/\x<32)(hy:0<=y/\y<32):PC 90 [iI x,iI y] (·=.bool (decide (manyZ x>manyZ y))):=by
 have w1:=wrap32 hx;have w2:=wrap32 hy;refine w90 _ _ (WP.step ?_);simp only[T90,Go,Ends',v90,Tr.sure,SS,w1,w2];repeat' with_reducible first|intro _|apply aI
 all_goals first|exact(c91 x hx)|exact(c91 y hy)
inductive P92
 |e
inductive R92
 |r0 (r0:Bool)
def T92(x:Int)(y:Int):P92->Tr P92 R92
 |.e=>let c1:=IntKind.wrap .u64 y;let c2:=IntKind.wrap .u64 x;(.front [(2,91,[.int .u64 c2],iI (manyZ c2))] [] true true (.call 91 [.int .u64 c1] (iI (manyZ c1)) true true (.out (.r0 (decide ((manyZ c2)<(manyZ c1)))))))
noncomputable def g92(x:Int)(y:Int):P92->List Item × St
 |.e=>bd Tryz.f92 [iI x,rR (iI y)] 9
def n92:R92->Exit × St
 |.r0 r0=>(.ret,⟨mk 11 [(3,.bool r0)],[],[]⟩)
def v92:R92->V
 |.r0 r0=>.bool r0
theorem s92(x:Int)(y:Int):Sm 0 (g92 x y) (T92 x y) (n92)
 |.e=>⟨400,by kernel_rfl⟩
theorem q92:∀r,bodyQ Tryz.prog Tryz.f92 (·=v92 r) (n92 r).1 (n92 r).2
 |.r0 r0=>bq (.bool r0) (by kernel_rfl)
theorem w92(x:Int)(y:Int){post:V->Prop}(h:WQ (T92 x y) v92 post .e):PC 92 [iI x,rR (iI y)] post:=
 PCalls.wq Tryz.func92 (s92 x y) q92 h
theorem c92(x y:Int)(hx:0<=x/\x<32)(hy:0<=y/\y<32):PC 92 [iI x,rR (iI y)] (·=.bool (decide (manyZ x<manyZ y))):=by
 have w1:=wrap32 hx;have w2:=wrap32 hy;refine w92 _ _ (WP.step ?_);simp only[T92,Go,Ends',v92,Tr.sure,SS,w1,w2];repeat' with_reducible first|intro _|apply aI
 all_goals first|exact(c91 x hx)|exact(c91 y hy)
end
noncomputable section
def bstOf{τ:Type}(p:τ->τ->Bool)(d:τ):List τ->τ
 |[]=>d
 |x::l=>l.foldl (fun b y=>if p y b=true then y else b) x
theorem bst_take{τ:Type}(p:τ->τ->Bool)(d:τ)(l:List τ){i:Nat}(hi:i<l.length):bstOf p d (l.take (i+1))=if i=0 then l.getD 0 d else if p (l.getD i d) (bstOf p d (l.take i))=true then l.getD i d else bstOf p d (l.take i):=by
 cases l with
 |nil=>simp at hi
 |cons x l=>
  cases i with
  |zero=>simp[bstOf]
  |succ i=>
   have hi':i<l.length:=by simpa using hi
   simp only[List.take_succ_cons,bstOf,Nat.succ_ne_zero,if_false];rw[foldl_take (fun b y=>if p y b=true then y else b) x l d hi'];rfl
theorem bst_in{τ:Type}{p:τ->τ->Bool}{d:τ}{ok:τ->Prop}:∀(l:List τ),(∀x∈l,ok x)->ok d->ok (bstOf p d l)
 |[],_,hd=>hd
 |x::l,h,_=>by
  have key:∀(l:List τ) (b:τ),ok b->(∀x∈l,ok x)->ok (l.foldl (fun b y=>if p y b=true then y else b) b):=by
   intro l
   induction l with
   |nil=>intro b hb _;exact hb
   |cons y l ih=>
    intro b hb hl;rw[List.foldl_cons];refine ih _ ?_ fun z hz=>hl z (by simp[hz]);split
    ·exact hl y (by simp)
    ·exact hb
  exact key l x (h x (by simp)) fun y hy=>h y (by simp[hy])
inductive P84
 |e
 |l0 (x0_4:List Int) (x0_9:Int)
inductive R84
 |r0 (r0:List Int)
def T84(g:Nat)(p:List Int->List Int->Bool)(s:List (List Int)):P84->Tr P84 R84
 |.e=>(.wait 6 (.vle 4 .nils (tint.lst ([]:List Int)) (.go (.l0 ([]:List Int) 0))))
 |.l0 x0_4 x0_9=>let c1:=s.getD (x0_9).toNat (tlist tint).zero;let c2:=x0_9+(1:Int);let c3:Tr P84 R84:=.need (inR .i64 c2) (.go (.l0 c1 c2));(.br (decide (x0_9<(s.length:Int))) (.need (decide (0<=x0_9)&&decide (x0_9<(s.length:Int))) (.br (x0_9==(0:Int)) (.lit true c3) (.call g [tint.lst c1,tint.lst x0_4] (.bool (p c1 x0_4)) true true (.br (p c1 x0_4) c3 (.need (inR .i64 c2) (.go (.l0 x0_4 c2))))))) (.out (.r0 x0_4)))
noncomputable def g84(g:Nat)(p:List Int->List Int->Bool)(s:List (List Int)):P84->List Item × St
 |.e=>bd Tryz.f84 [(tlist tint).lst s,.func (.func g) [] []] 23
 |.l0 x0_4 x0_9=>(cutOf Tryz.f84 0,⟨mk 25 [(1,.func (.func g) [] []),(4,tint.lst x0_4),(7,(tlist tint).lst s),(8,iI (s.length:Int)),(9,iI x0_9)],[],[]⟩)
def n84:R84->Exit × St
 |.r0 r0=>(.ret,⟨mk 25 [(4,tint.lst r0)],[],[]⟩)
def v84:R84->V
 |.r0 r0=>tint.lst r0
theorem s84(g:Nat)(p:List Int->List Int->Bool)(s:List (List Int)):Sm 0 (g84 g p s) (T84 g p s) (n84)
 |.e=>⟨400,by kernel_rfl⟩
 |.l0 _ _=>⟨400,by kernel_rfl⟩
theorem q84:∀r,bodyQ Tryz.prog Tryz.f84 (·=v84 r) (n84 r).1 (n84 r).2
 |.r0 r0=>bq (tint.lst r0) (by kernel_rfl)
theorem w84(g:Nat)(p:List Int->List Int->Bool)(s:List (List Int)){post:V->Prop}(h:WQ (T84 g p s) v84 post .e):PC 84 [(tlist tint).lst s,.func (.func g) [] []] post:=
 PCalls.wq Tryz.func84 (s84 g p s) q84 h
theorem e84:∀xs w,(callFunc 84 xs).run Tryz.prog w=.ok (.enter 84 xs) w:=PCalls.enters Tryz.func84 (c:=Tryz.f84.body.getD .skip) (by kernel_rfl) (by kernel_rfl)
theorem c84{g:Nat}{p:List Int->List Int->Bool}{ok:List Int->Prop}(s:List (List Int))(hg:∀a b,ok a->ok b->PC g [tint.lst a,tint.lst b] (·=.bool (p a b)))(hs:∀x∈s,ok x)(h0:ok []):PC 84 [(tlist tint).lst s,.func (.func g) [] []] (·=tint.lst (bstOf p [] s)):=by
 refine PCalls.assume e84 0 (by simp) .list fun hl=> ?_;refine w84 g p s (WP.step ?_);simp only[T84,Go,Ends',v84,Tr.sure,SS];repeat' with_reducible first|intro _|apply aI
 all_goals first|exact VLe.nils|skip
 refine WP.run (fun i=>.l0 (bstOf p [] (s.take i)) (i:Int)) rfl s.length (fun i hi=> ?_) ?_
 ·have hr:=inRi hi hl;have hz:(tlist tint).zero=([]:List Int):=rfl;have hi':(i:Int)<s.length:=by omega
  have ht:=bst_take p [] s hi;have hb:=bst_in (p:=p) (d:=[]) (s.take i) (fun x hx=>hs x (List.mem_of_mem_take hx)) h0;have hx:=hs _ (getD_mem [] s i hi);rw[ht];by_cases hi0:i=0
  ·subst hi0;refine WP.once ?_;simp only[T84,Tr.sure,SS,hi',hi,hz];repeat' with_reducible first|intro _|apply aI
   all_goals first|(simp[hr,Go,Ends',v84,-List.getD_eq_getElem?_getD, *];done)|(simp_all [hr,Go,Ends',v84,-List.getD_eq_getElem?_getD];done)
  ·have hi1:¬(i:Int)=0:=by omega
   have hg1:=hg _ _ hx hb;generalize bstOf p [] (s.take i)=B at*
   refine WP.once ?_;simp only[T84,Tr.sure,SS,hi',hi,hz,hi1];repeat' with_reducible first|intro _|apply aI
   all_goals first|exact hg1|(simp[hr,hi0,Go,Ends',v84,-List.getD_eq_getElem?_getD, *];done)
 ·rw[List.take_length];refine WP.step ?_;simp only[T84,Go,Ends',v84,Tr.sure,SS,Int.lt_irrefl];repeat' with_reducible first|intro _|apply aI
inductive P89
 |e
 |l0 (x0_4:Int) (x0_9:Int)
inductive R89
 |r0 (r0:Int)
def T89(g:Nat)(p:Int->Int->Bool)(s:List Int):P89->Tr P89 R89
 |.e=>(.go (.l0 0 0))
 |.l0 x0_4 x0_9=>let c1:=s.getD (x0_9).toNat tint.zero;let c2:=x0_9+(1:Int);let c3:Tr P89 R89:=.need (inR .i64 c2) (.go (.l0 c1 c2));(.br (decide (x0_9<(s.length:Int))) (.need (decide (0<=x0_9)&&decide (x0_9<(s.length:Int))) (.br (x0_9==(0:Int)) (.lit true c3) (.call g [iI c1,iI x0_4] (.bool (p c1 x0_4)) true true (.br (p c1 x0_4) c3 (.need (inR .i64 c2) (.go (.l0 x0_4 c2))))))) (.out (.r0 x0_4)))
noncomputable def g89(g:Nat)(p:Int->Int->Bool)(s:List Int):P89->List Item × St
 |.e=>bd Tryz.f89 [tint.lst s,.func (.func g) [] []] 23
 |.l0 x0_4 x0_9=>(cutOf Tryz.f89 0,⟨mk 25 [(1,.func (.func g) [] []),(4,iI x0_4),(7,tint.lst s),(8,iI (s.length:Int)),(9,iI x0_9)],[],[]⟩)
def n89:R89->Exit × St
 |.r0 r0=>(.ret,⟨mk 25 [(4,iI r0)],[],[]⟩)
def v89:R89->V
 |.r0 r0=>iI r0
theorem s89(g:Nat)(p:Int->Int->Bool)(s:List Int):Sm 0 (g89 g p s) (T89 g p s) (n89)
 |.e=>⟨400,by kernel_rfl⟩
 |.l0 _ _=>⟨400,by kernel_rfl⟩
theorem q89:∀r,bodyQ Tryz.prog Tryz.f89 (·=v89 r) (n89 r).1 (n89 r).2
 |.r0 r0=>bq (iI r0) (by kernel_rfl)
theorem w89(g:Nat)(p:Int->Int->Bool)(s:List Int){post:V->Prop}(h:WQ (T89 g p s) v89 post .e):PC 89 [tint.lst s,.func (.func g) [] []] post:=
 PCalls.wq Tryz.func89 (s89 g p s) q89 h
theorem e89:∀xs w,(callFunc 89 xs).run Tryz.prog w=.ok (.enter 89 xs) w:=PCalls.enters Tryz.func89 (c:=Tryz.f89.body.getD .skip) (by kernel_rfl) (by kernel_rfl)
theorem c89{g:Nat}{p:Int->Int->Bool}{ok:Int->Prop}(s:List Int)(hg:∀a b,ok a->ok b->PC g [iI a,iI b] (·=.bool (p a b)))(hs:∀x∈s,ok x)(h0:ok 0):PC 89 [tint.lst s,.func (.func g) [] []] (·=iI (bstOf p 0 s)):=by
 refine PCalls.assume e89 0 (by simp) .list fun hl=> ?_;refine w89 g p s (WP.step ?_);simp only[T89,Go,Ends',v89,Tr.sure,SS];repeat' with_reducible first|intro _|apply aI
 refine WP.run (fun i=>.l0 (bstOf p 0 (s.take i)) (i:Int)) rfl s.length (fun i hi=> ?_) ?_
 ·have hr:=inRi hi hl;have hi':(i:Int)<s.length:=by omega
  have ht:=bst_take p 0 s hi;have hb:=bst_in (p:=p) (d:=0) (s.take i) (fun x hx=>hs x (List.mem_of_mem_take hx)) h0;have hx:=hs _ (getD_mem 0 s i hi);rw[ht];by_cases hi0:i=0
  ·subst hi0;refine WP.once ?_;simp only[T89,Tr.sure,SS,hi',hi,z1];repeat' with_reducible first|intro _|apply aI
   all_goals first|(simp[hr,Go,Ends',v89,-List.getD_eq_getElem?_getD, *];done)|(simp_all [hr,Go,Ends',v89,-List.getD_eq_getElem?_getD];done)
  ·have hi1:¬(i:Int)=0:=by omega
   have hg1:=hg _ _ hx hb;generalize bstOf p 0 (s.take i)=B at*
   refine WP.once ?_;simp only[T89,Tr.sure,SS,hi',hi,z1,hi1];repeat' with_reducible first|intro _|apply aI
   all_goals first|exact hg1|(simp[hr,hi0,Go,Ends',v89,-List.getD_eq_getElem?_getD, *];done)
 ·rw[List.take_length];refine WP.step ?_;simp only[T89,Go,Ends',v89,Tr.sure,SS,Int.lt_irrefl];repeat' with_reducible first|intro _|apply aI
end
end Go.Proofs.YtdamoemndifpmaaGreat
