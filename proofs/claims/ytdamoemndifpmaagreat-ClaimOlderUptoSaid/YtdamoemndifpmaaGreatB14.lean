/-
  Part of the proof of the Claim laws. Conditions: those that stand in each theorem.
-/
import Derived.Test.YtdamoemndifpmaaGreatB13
set_option linter.unusedSimpArgs false
set_option linter.unusedVariables false
set_option maxRecDepth 100000
namespace Go.Proofs.YtdamoemndifpmaaGreat
open Ab Go
noncomputable section
def clrL(l:List Int)(a m:Nat):List Int:=l.take a++List.replicate m 0
inductive P76
 |e
 |l0 (x0_5:Int) (x0_6:Int) (a0_3:List Int)
inductive R76
 |r0 (r0:Int) (r1:List Mould) (r2:List Head) (r3:List Int) (r4:List Claim) (r5:Int) (r6:List Int)
 |r1 (r0:Int) (r1:List Mould) (r2:List Head) (r3:List Int) (r4:List Claim) (r5:Int) (r6:List Int) (r7:Nat)
def T76(g:Nat)(x:Case)(n:Int)(l:List Int)(p:Int->Bool):P76->Tr P76 R76
 |.e=>let c1:=place (firstI p 0 l);(.call 136 [tint.lst l,.func (.func g) [] [rR (iI n)]] (iI c1) ((decide (l.length<=l.length))&&true) true (.br (c1==(-1)) (.out (.r0 x.shop.features x.shop.moulds x.shop.heads x.owners x.claims n l)) (.need (inR .i64 (c1+(1:Int))) (.go (.l0 c1 (c1+(1:Int)) l)))))
 |.l0 x0_5 x0_6 a0_3=>let c1:=a0_3.getD (x0_6).toNat tint.zero;let c2:=(l.length:Int);let c3:=(x0_5).toNat;let c4:=l.length<=l.length;let c5:=(c2).toNat-(x0_5).toNat;let c6:=x0_6+(1:Int);let c7:=([iI c1]:List V);(.br (decide (x0_6<c2)) (.need ((decide (0<=x0_6)&&decide (x0_6<c2))&&decide c4) (.need (decide ((x0_6).toNat<l.length)&&decide (0<1)) (.call g [iI c1,rR (iI n)] (.bool (p c1)) true true (.br (!(p c1)) (.need ((decide (0<=x0_5)&&decide (x0_5<c2))&&decide c4) (.need ((decide ((x0_5).toNat<l.length)&&decide (0+c7.length<=1))&&underL 0 c7) (.telb 3 1 l.length (fun r' j=>if r'=(x0_5).toNat/\0<=j/\j<0+c7.length then c7.getD (j-0) uU else(rowsOf tint a0_3) r' j) (rowsOf tint (a0_3.set c3 c1)) (.need (inR .i64 (x0_5+(1:Int))) (.need (inR .i64 c6) (.go (.l0 (x0_5+(1:Int)) c6 (a0_3.set c3 c1)))))))) (.need (inR .i64 c6) (.go (.l0 x0_5 c6 a0_3))))))) (.need (((decide (0<=x0_5)&&decide (x0_5<=c2))&&decide (c2<=c2))&&decide c4) (.sem (opAt Tryz.f76 11 3) [(.tmp 38,.sub 3 c3 0 1 c5)] [.cells (cC x),.cells [iI n],.gone,.rows 3 1 l.length (rowsOf tint a0_3)] (.tuple []) [.cells (cC x),.cells [iI n],.gone,.rows 3 1 l.length (rowsOf tint (clrL a0_3 c3 c5))] true (.need (((decide (0<=(0:Int))&&decide ((0:Int)<=x0_5))&&decide (x0_5<=c2))&&decide c4) (.out (.r1 x.shop.features x.shop.moulds x.shop.heads x.owners x.claims n (clrL a0_3 c3 c5) c3))))))
noncomputable def g76(g:Nat)(x:Case)(n:Int)(l:List Int)(p:Int->Bool):P76->List Item × St
 |.e=>([.code (Tryz.f76.body.getD .skip)],⟨[.row 3 l.length,.func (.func g) [] [.ref 1 0 0]]++List.replicate 40 uU,[.cells (cC x),.cells [iI n],.gone,.rows 3 1 l.length (rowsOf tint l)],[]⟩)
 |.l0 x0_5 x0_6 a0_3=>(cutOf Tryz.f76 0,⟨mk 42 [(0,.row 3 l.length),(1,.func (.func g) [] [.ref 1 0 0]),(5,iI x0_5),(6,iI x0_6)],[.cells (cC x),.cells [iI n],.gone,.rows 3 1 l.length (rowsOf tint a0_3)],[]⟩)
def n76(g:Nat)(x:Case)(n:Int)(l:List Int)(p:Int->Bool):R76->Exit × St
 |.r0 r0 r1 r2 r3 r4 r5 r6=>(.ret,⟨mk 42 [(4,.row 3 l.length)],[.cells [iI r0,tMould.lst r1,tHead.lst r2,tint.lst r3,tClaim.lst r4],.cells [iI r5],.gone,.rows 3 1 r6.length (rowsOf tint r6)],[]⟩)
 |.r1 r0 r1 r2 r3 r4 r5 r6 r7=>(.ret,⟨mk 42 [(4,.row 3 r7)],[.cells [iI r0,tMould.lst r1,tHead.lst r2,tint.lst r3,tClaim.lst r4],.cells [iI r5],.gone,.rows 3 1 l.length (rowsOf tint r6)],[]⟩)
theorem s76(g:Nat)(x:Case)(n:Int)(l:List Int)(p:Int->Bool):Sm 4 (g76 g x n l p) (T76 g x n l p) (n76 g x n l p)
 |.e=>⟨400,by kernel_rfl⟩
 |.l0 _ _ _=>⟨400,by kernel_rfl⟩
def hh76(g:Nat)(x:Case)(n:Int)(l:List Int)(p:Int->Bool):R76->List Blk
 |.r0 r0 r1 r2 r3 r4 r5 r6=>[.cells [iI r0,tMould.lst r1,tHead.lst r2,tint.lst r3,tClaim.lst r4],.cells [iI r5],.gone,.rows 3 1 r6.length (rowsOf tint r6)]
 |.r1 r0 r1 r2 r3 r4 r5 r6 r7=>[.cells [iI r0,tMould.lst r1,tHead.lst r2,tint.lst r3,tClaim.lst r4],.cells [iI r5],.gone,.rows 3 1 l.length (rowsOf tint r6)]
def v76(g:Nat)(x:Case)(n:Int)(l:List Int)(p:Int->Bool):R76->V
 |.r0 r0 r1 r2 r3 r4 r5 r6=>.row 3 l.length
 |.r1 r0 r1 r2 r3 r4 r5 r6 r7=>.row 3 r7
theorem q76(g:Nat)(x:Case)(n:Int)(l:List Int)(p:Int->Bool):∀r,((n76 g x n l p r).1=.normal\/(n76 g x n l p r).1=.ret)/\(n76 g x n l p r).2.d=[]/\(n76 g x n l p r).2.h=hh76 g x n l p r/\resultV Tryz.prog Tryz.f76 (n76 g x n l p r).2=some (v76 g x n l p r)
 |.r0 r0 r1 r2 r3 r4 r5 r6=>⟨.inr rfl,rfl,rfl,by kernel_rfl⟩
 |.r1 r0 r1 r2 r3 r4 r5 r6 r7=>⟨.inr rfl,rfl,rfl,by kernel_rfl⟩
theorem w76(g:Nat)(x:Case)(n:Int)(l:List Int)(p:Int->Bool){V0:V}{h':List Blk}(h:WP Tryz.prog ⟨none,4⟩ (T76 g x n l p) (Ends' fun r=>v76 g x n l p r=V0/\hh76 g x n l p r=h') .e):HCalls Tryz.prog 76 [.row 3 l.length,.func (.func g) [] [.ref 1 0 0]] V0 [.cells (cC x),.cells [iI n],.gone,.rows 3 1 l.length (rowsOf tint l)] h':=
 HCalls.wp mx Tryz.func76 (by kernel_rfl) (by kernel_rfl) (T76 g x n l p) (g76 g x n l p) (n76 g x n l p) .e rfl (s76 g x n l p) h fun r hr=>by rw[<-hr.1,<-hr.2];exact q76 g x n l p r
theorem firstI_split{p:Int->Bool}:∀(l:List Int) (k:Nat),(firstI p k l=none/\∀q∈l,p q=false)\/∃i,firstI p k l=some (k+i)/\i<l.length/\p (l.getD i 0)=true/\∀q∈l.take i,p q=false
 |[],_=>.inl ⟨rfl,fun _ h=>absurd h List.not_mem_nil⟩
 |y::l,k=>by
  cases hy:p y with
  |true=>exact .inr ⟨0,by simp[firstI,hy],by simp,by simpa using hy,by simp⟩
  |false=>
   rcases firstI_split (p:=p) l (k+1)with⟨h1,h2⟩|⟨i,h1,h2,h3,h4⟩
   ·refine .inl ⟨by simp[firstI,hy,h1],fun q hq=> ?_⟩;rcases List.mem_cons.1 hq with z|z
    ·subst z;exact hy
    ·exact h2 q z
   ·refine .inr ⟨i+1,by simp only[firstI,hy,Bool.false_eq_true,if_false,h1];congr 1;omega,by simp;omega,by simpa using h3,fun q hq=> ?_⟩;rw[List.take_succ_cons]at hq;rcases List.mem_cons.1 hq with z|z
    ·subst z;exact hy
    ·exact h4 q z
structure Thin(p:Int->Bool)(l:List Int)(i j:Nat)(cur:List Int):Prop where
 len:cur.length=l.length
 le:i<=j
 jl:j<=l.length
 got:cur.take i=(l.take j).filter fun v=> !p v
 num:i=((l.take j).filter fun v=> !p v).length
 rest:∀q,j<=q->cur.getD q 0=l.getD q 0
theorem Thin.first{p:Int->Bool}{l:List Int}{i:Nat}(h1:i<l.length)(h2:p (l.getD i 0)=true)(h3:∀q∈l.take i,p q=false):Thin p l i (i+1) l:=by
 have e:(l.take (i+1)).filter (fun v=> !p v)=l.take i:=by
  rw[take_snoc 0 l i h1,List.filter_append];have:(l.take i).filter (fun v=> !p v)=l.take i:=List.filter_eq_self.2 fun q hq=>by simp[h3 q hq]
  rw[this,List.filter_cons,h2];simp
 exact⟨rfl,by omega,by omega,by rw[e],by rw[e,List.length_take];omega,fun _ _=>rfl⟩
theorem Thin.keep{p:Int->Bool}{l:List Int}{i j:Nat}{cur:List Int}(h:Thin p l i j cur)(hj:j<l.length)(hp:p (l.getD j 0)=false):Thin p l (i+1) (j+1) (cur.set i (l.getD j 0)):=by
 obtain⟨a1,a2,a3,a4,a5,a6⟩:=h
 have e:(l.take (j+1)).filter (fun v=> !p v)=(l.take j).filter (fun v=> !p v)++ [l.getD j 0]:=by
  rw[take_snoc 0 l j hj,List.filter_append];have:[l.getD j 0].filter (fun v=> !p v)=[l.getD j 0]:=by rw[List.filter_cons,hp];simp
  rw[this]
 refine⟨by simp[a1],by omega,by omega,?_,by rw[e,List.length_append,<-a5];rfl,fun q hq=> ?_⟩
 ·have hc:i<(cur.set i (l.getD j 0)).length:=by rw[List.length_set];omega
  rw[e,take_snoc 0 _ i hc,<-a4];congr 1
  ·rw[List.take_set];apply List.set_eq_of_length_le;rw[List.length_take];omega
  ·have hi':i<cur.length:=by omega
   rw[gE,List.getElem?_set_self hi'];rfl
 ·rw[gE,sN (by omega),<-List.getD_eq_getElem?_getD];exact a6 q (by omega)
theorem Thin.drop{p:Int->Bool}{l:List Int}{i j:Nat}{cur:List Int}(h:Thin p l i j cur)(hj:j<l.length)(hp:p (l.getD j 0)=true):Thin p l i (j+1) cur:=by
 obtain⟨a1,a2,a3,a4,a5,a6⟩:=h
 have e:(l.take (j+1)).filter (fun v=> !p v)=(l.take j).filter (fun v=> !p v):=by
  rw[take_snoc 0 l j hj,List.filter_append];simp only[List.filter_cons,hp,Bool.not_true,Bool.false_eq_true,if_false,List.filter_nil,List.append_nil]
 exact⟨a1,by omega,by omega,by rw[e];exact a4,by rw[e];exact a5,fun q hq=>a6 q (by omega)⟩
theorem sem_clr76(h:List Blk)(cur:List Int)(i m N:Nat)(hi:h[3]? =some (.rows 3 1 N (rowsOf tint cur)))(hN:cur.length=N)(hm:i+m=N):SemOK Tryz.prog (opAt Tryz.f76 11 3) [(.tmp 38,.sub 3 i 0 1 m)] h (.tuple []) (h.set 3 (.rows 3 1 N (rowsOf tint (clrL cur i m)))):=by
 have e:opAt Tryz.f76 11 3=.call {callee:=.builtin .clear,args:= #[.tmp 38],argTypes:= #[26]}:=by kernel_rfl
 rw[e];refine sem_clear (e:=3) (z:=.int .i64 0) (zv:=.int .i64 0) (by kernel_rfl) Tryz.zeroValue3 rfl rfl (fun _ _=>.int _ _) hi (by omega) fun q hq=> ?_;show V.int .i64 ((clrL cur i m).getD q 0)=_;unfold clrL;by_cases z:i<=q/\q<i+m
 ·rw[if_pos z];rw[getD_append_right (by rw[List.length_take];omega),gE,List.getElem?_replicate];split<;>rfl
 ·rw[if_neg z,getD_append_left (by rw[List.length_take];omega),gE,List.getElem?_take_of_lt (by omega)];show _=V.int .i64 (cur.getD q 0);rw[gE]
theorem tel_set1(cur:List Int)(i:Nat)(v:Int){n r j:Nat}(hr:r<n)(hj:j<1)(hn:cur.length=n):
  VLe (if r=i/\0<=j/\j<0+([V.int .i64 v]:List V).length then([V.int .i64 v]:List V).getD (j-0) uU else rowsOf tint cur r j) (rowsOf tint (cur.set i v) r j):=by
 obtain rfl:j=0:=by omega
 by_cases e:r=i
 ·subst e;rw[if_pos ⟨rfl,Nat.le_refl _,by show 0<0+1;omega⟩];show VLe (V.int .i64 v) (V.int .i64 ((cur.set r v).getD r 0));rw[gE,List.getElem?_set_self (by omega)];exact VLe.refl _
 ·rw[if_neg (fun h=>e h.1)];show VLe (V.int .i64 (cur.getD r 0)) (V.int .i64 ((cur.set i v).getD r 0));rw[gE,gE,sN (Ne.symm e)];exact VLe.refl _
theorem under_int(v:Int):underL 0 [V.int .i64 v]=true:=rfl
abbrev H76(x:Case)(n:Int)(N:Nat)(l:List Int):List Blk:=[.cells (tCase.cells x),.cells [iI n],.gone,.rows 3 1 N (rowsOf tint l)]
set_option maxHeartbeats 1000000 in
theorem c76{g:Nat}(x:Case)(n:Int)(l:List Int){p:Int->Bool}{ok:Int->Prop}(hg:Asks1 g n p ok)(hok:∀v∈l,ok v)(hl:l.length<=1000):
  HCalls Tryz.prog 76 [.row 3 l.length,.func (.func g) [] [.ref 1 0 0]] (.row 3 (l.filter fun v=> !p v).length) (H76 x n l.length l) (H76 x n l.length (padZ (l.filter fun v=> !p v) l.length)):=by
 have h136:=c136_1 l hg hok;rcases firstI_split (p:=p) l 0 with⟨h1,h2⟩|⟨i,h1,h2,h3,h4⟩
 ·have hf:l.filter (fun v=> !p v)=l:=List.filter_eq_self.2 fun q hq=>by simp[h2 q hq]
  have hpad:padZ l l.length=l:=by simp[padZ]
  rw[hf,hpad];refine w76 g x n l p (WP.step ?_);simp only[T76,Go,Ends',v76,Tr.sure,SS];repeat' with_reducible first|intro _|apply aI
  all_goals first|exact h136|(simp[h1,place,hh76,Go,Ends',v76,-List.getD_eq_getElem?_getD, *];done)|(simp_all [h1,place,hh76,Go,Ends',v76,-List.getD_eq_getElem?_getD];done)|skip
  all_goals first
   |rfl
 ·rw[Nat.zero_add]at h1;have hpl:place (firstI p 0 l)=i:=by rw[h1];rfl
  have hne:¬(i:Int)= -1:=by omega
  have hr0:inR .i64 ((i:Int)+1)=true:=inR64 (by omega) (by omega)
  have main:∀i j cur,Thin p l i j cur->WP Tryz.prog ⟨none,4⟩ (T76 g x n l p) (Ends' fun r=>v76 g x n l p r=.row 3 (l.filter fun v=> !p v).length/\hh76 g x n l p r=H76 x n l.length (padZ (l.filter fun v=> !p v) l.length)) (.l0 (i:Int) (j:Int) cur):=fun i j cur ht=>by
   refine WP.while (T:=T76 g x n l p) (σ:=Nat × Nat × List Int) (fun s=>.l0 (s.1:Int) (s.2.1:Int) s.2.2) (fun s=>Thin p l s.1 s.2.1 s.2.2) (fun s=>l.length-s.2.1) (fun s ht=> ?_) (s:=(i,j,cur)) ht;obtain⟨i,j,cur⟩:=s;simp only at ht⊢;have ht2:=ht;obtain⟨a1,a2,a3,a4,a5,a6⟩:=ht2;have hr1:inR .i64 ((i:Int)+1)=true:=inR64 (by omega) (by omega);have hr2:inR .i64 ((j:Int)+1)=true:=inR64 (by omega) (by omega)
   have hz:tint.zero=0:=rfl;by_cases hj:j<l.length
   ·have hv:=a6 j (Nat.le_refl _);have hgv:=hg _ (hok _ (getD_mem 0 l j hj));have hj':(j:Int)<l.length:=by omega
    have hi':(i:Int)<l.length:=by omega
    have hi2:i<l.length:=by omega
    cases hp:p (l.getD j 0)with
    |true=>
     have hd:=ht.drop hj hp;rw[hp]at hgv;refine WP.once ?_;simp only[T76,Tr.sure,SS,hj',hi',hi2,hz,hv];repeat' with_reducible first|intro _|apply aI
     all_goals first|(simp[hr1,hr2,hp,Go,Ends',v76,-List.getD_eq_getElem?_getD, *];done)|(simp_all [hr1,hr2,hp,Go,Ends',v76,-List.getD_eq_getElem?_getD];done)|skip
     all_goals exact .inl ⟨(i,j+1,cur),rfl,hd,by show l.length-(j+1)<l.length-j;omega⟩
    |false=>
     have hd:=ht.keep hj hp;rw[hp]at hgv;refine WP.once ?_;simp only[T76,Tr.sure,SS,hj',hi',hi2,hz,hv];repeat' with_reducible first|intro _|apply aI
     all_goals first|exact(by with_reducible exact under_int _)|exact(tel_set1 _ _ _ (by with_reducible assumption) (by with_reducible assumption) a1)|(simp[hr1,hr2,hp,Go,Ends',v76,-List.getD_eq_getElem?_getD, *];done)|(simp_all [hr1,hr2,hp,Go,Ends',v76,-List.getD_eq_getElem?_getD];done)|skip
     all_goals exact .inl ⟨(i+1,j+1,cur.set i (l.getD j 0)),rfl,hd,by show l.length-(j+1)<l.length-j;omega⟩
   ·have hjl:j=l.length:=by omega
    subst hjl;rw[List.take_length]at a4 a5;refine WP.once ?_;simp only[T76,Tr.sure,SS,Int.lt_irrefl];repeat' with_reducible first|intro _|apply aI
    all_goals first|exact(sem_clr76 _ cur i (l.length-i) l.length rfl a1 (by omega))|(simp[Go,Ends',v76,-List.getD_eq_getElem?_getD, *];done)|(simp_all [Go,Ends',v76,-List.getD_eq_getElem?_getD];done)|skip
    all_goals
     refine .inr ⟨?_,?_⟩
     ·show V.row 3 i=_;rw[a5]
     ·show[_,_,_,Blk.rows 3 1 l.length (rowsOf tint (clrL cur i (l.length-i)))]=_;have:clrL cur i (l.length-i)=padZ (l.filter fun v=> !p v) l.length:=by unfold clrL padZ;rw[a4,<-a5]
      rw[this];rfl
  refine w76 g x n l p (WP.step ?_);simp only[T76,Go,Ends',v76,Tr.sure,SS,hpl];repeat' with_reducible first|intro _|apply aI
  all_goals first|exact(main i (i+1) l (Thin.first h2 h3 h4))|(simp[hpl,hne,hr0,Go,Ends',v76,-List.getD_eq_getElem?_getD, *];done)|(simp_all [hpl,hne,hr0,Go,Ends',v76,-List.getD_eq_getElem?_getD];done)
inductive P78
 |e
inductive R78
 |r0 (r0:Bool)
def T78(v:Int)(n:Int):P78->Tr P78 R78
 |.e=>(.out (.r0 ((bitsOf .and .i64 v n) !=n)))
noncomputable def g78(v:Int)(n:Int):P78->List Item × St
 |.e=>bd Tryz.f78 [iI v,rR (iI n)] 7
def n78:R78->Exit × St
 |.r0 r0=>(.ret,⟨mk 9 [(3,.bool r0)],[],[]⟩)
def v78:R78->V
 |.r0 r0=>.bool r0
theorem s78(v:Int)(n:Int):Sm 0 (g78 v n) (T78 v n) (n78)
 |.e=>⟨400,by kernel_rfl⟩
theorem q78:∀r,bodyQ Tryz.prog Tryz.f78 (·=v78 r) (n78 r).1 (n78 r).2
 |.r0 r0=>bq (.bool r0) (by kernel_rfl)
theorem w78(v:Int)(n:Int){post:V->Prop}(h:WQ (T78 v n) v78 post .e):PC 78 [iI v,rR (iI n)] post:=
 PCalls.wq Tryz.func78 (s78 v n) q78 h
theorem c78(n:Int):Asks1 78 n (fun v=>bitsOf .and .i64 v n !=n) fun _=>True:=fun v _=>by
 refine w78 v n (WP.step ?_);simp only[T78,Go,Ends',v78,Tr.sure,SS];repeat' with_reducible first|intro _|apply aI
inductive P29
 |e
inductive R29
 |r0 (r1:Int)
 |r1 (r0:List Int) (r1:Int)
def T29(x:Case)(l:List Int):P29->Tr P29 R29
 |.e=>let c1:=caseSets x;let c2:=listErr (x.claims.length:Int) l;let c3:List Blk:=[.cells (cC x),.cells [iI (setZ l)],.gone,.rows 3 1 (c1.length) (rowsOf tint c1)];let c4:List V:=[rR (iI (x.claims.length:Int)),rR (tint.lst l)];let c5:=(truthsE x c2).2;let c6:V:=.tuple [entP x c2,iI c5];(.front [(5,70,[tint.lst l,iI (x.claims.length:Int)],.func (.func 134) [] c4),(6,63,[.agg (cC x),.func (.func 134) [] c4],.tuple [entP x c2,iI c5])] [] true true (.br ((truthsE x c2).2 !=(0:Int)) (.out (.r0 c5)) (.wait 2 (.vle 6 (entP x c2) (court x c1) (.vle 10 c6 uU (.vle 17 c6 uU (.vle 18 (entP x c2) uU (.call 72 [tint.lst l] (iI (setZ l)) true true (.hcall 77 [tint.lst c1] (.row 3 (c1.length)) [.cells (cC x),.cells [iI (setZ l)]] c3 true (.hcall 76 [.row 3 (c1.length),fG 78 [.ref 1 0 0]] (.row 3 ((c1.filter fun v=>bitsOf .and .i64 v (setZ l)==(setZ l)).length)) c3 [.cells (cC x),.cells [iI (setZ l)],.gone,.rows 3 1 (c1.length) (rowsOf tint (padZ (c1.filter fun v=>bitsOf .and .i64 v (setZ l)==(setZ l)) (c1.length)))] true (.br ((((c1.filter fun v=>bitsOf .and .i64 v (setZ l)==(setZ l)).length):Int)==(0:Int)) (.out (.r0 9)) (.wait 2 (.frz 3 ((decide ((c1.filter fun v=>bitsOf .and .i64 v (setZ l)==(setZ l)).length<=c1.length))&&((decide (c1.length<=c1.length))&&((decide ((c1.filter fun v=>bitsOf .and .i64 v (setZ l)==(setZ l)).length<=c1.length))&&((decide ((c1.filter fun v=>bitsOf .and .i64 v (setZ l)==(setZ l)).length<=c1.length))&&true)))) (.vle 9 (.list 1 ((c1.filter fun v=>bitsOf .and .i64 v (setZ l)==(setZ l)).length) (rowsOf tint (padZ (c1.filter fun v=>bitsOf .and .i64 v (setZ l)==(setZ l)) (c1.length)))) (tint.lst (c1.filter fun v=>bitsOf .and .i64 v (setZ l)==(setZ l))) (.vle 29 (.list 1 (c1.length) (rowsOf tint (padZ (c1.filter fun v=>bitsOf .and .i64 v (setZ l)==(setZ l)) (c1.length)))) (tint.lst (padZ (c1.filter fun v=>bitsOf .and .i64 v (setZ l)==(setZ l)) (c1.length))) (.vle 31 (.list 1 ((c1.filter fun v=>bitsOf .and .i64 v (setZ l)==(setZ l)).length) (rowsOf tint (padZ (c1.filter fun v=>bitsOf .and .i64 v (setZ l)==(setZ l)) (c1.length)))) (tint.lst (c1.filter fun v=>bitsOf .and .i64 v (setZ l)==(setZ l))) (.vle 32 (.list 1 ((c1.filter fun v=>bitsOf .and .i64 v (setZ l)==(setZ l)).length) (rowsOf tint (padZ (c1.filter fun v=>bitsOf .and .i64 v (setZ l)==(setZ l)) (c1.length)))) (tint.lst (c1.filter fun v=>bitsOf .and .i64 v (setZ l)==(setZ l))) (.call 79 [court x c1,tint.lst (c1.filter fun v=>bitsOf .and .i64 v (setZ l)==(setZ l)),iI 1] (tint.lst (each x.claims.length (c1.filter fun v=>bitsOf .and .i64 v (setZ l)==(setZ l)) 1)) true true (.out (.r1 (each x.claims.length (c1.filter fun v=>bitsOf .and .i64 v (setZ l)==(setZ l)) 1) 0))))))))))))))))))))
noncomputable def g29(x:Case)(l:List Int):P29->List Item × St
 |.e=>bd Tryz.f29 [.agg (cC x),tint.lst l] 36
def n29:R29->Exit × St
 |.r0 r1=>(.ret,⟨mk 38 [(4,.nils),(5,iI r1)],[],[]⟩)
 |.r1 r0 r1=>(.ret,⟨mk 38 [(4,tint.lst r0),(5,iI r1)],[],[]⟩)
def v29:R29->V
 |.r0 r1=>.tuple [tint.lst ([]:List Int),iI r1]
 |.r1 r0 r1=>.tuple [tint.lst r0,iI r1]
theorem s29(x:Case)(l:List Int):Sm 0 (g29 x l) (T29 x l) (n29)
 |.e=>⟨400,by kernel_rfl⟩
theorem q29:∀r,bodyQ Tryz.prog Tryz.f29 (·=v29 r) (n29 r).1 (n29 r).2
 |.r0 r1=>⟨.inr rfl,by simp[n29],(.tuple [.nils,iI r1]),(.tuple [tint.lst ([]:List Int),iI r1]),by kernel_rfl,(.tuple rfl fun j hj=>match j,hj with|0,_=>.weak (.imm rfl) VLe.nils|1,_=>.imm rfl),rfl⟩
 |.r1 r0 r1=>bq (.tuple [tint.lst r0,iI r1]) (by kernel_rfl)
theorem w29(x:Case)(l:List Int){post:V->Prop}(h:WQ (T29 x l) v29 post .e):PC 29 [.agg (cC x),tint.lst l] post:=
 PCalls.wq Tryz.func29 (s29 x l) q29 h
theorem c76_78(x:Case)(n:Int)(l:List Int)(hl:l.length<=1000):HCalls Tryz.prog 76 [.row 3 l.length,fG 78 [.ref 1 0 0]] (.row 3 (l.filter fun v=>bitsOf .and .i64 v n==n).length) (H76 x n l.length l) (H76 x n l.length (padZ (l.filter fun v=>bitsOf .and .i64 v n==n) l.length)):=by
 have:=c76 x n l (c78 n) (fun _ _=>trivial) hl;have e:(fun v=> !(bitsOf .and .i64 v n !=n))=fun v=>(bitsOf .and .i64 v n==n):=funext fun v=>by simp[bne]
 rwa[e]at this
theorem c29(x:Case)(l:List Int):PC 29 [.agg (tCase.cells x),tint.lst l] (·=.tuple [tint.lst (followR x l).1,iI (followR x l).2]):=by
 by_cases h:(truthsE x (listErr x.claims.length l)).2=0
 ·have hok:=(okOf h).1;have hn:∀n∈l,0<=n/\n<5:=fun n hm=>by have:=listOk (okOf h).2 n hm;have:=hok.five;omega
  have hF:(caseSets x).filter (fun v=>bitsOf .and .i64 v (setZ l)==setZ l)=(caseSets x).filter fun s=>allZ s l:=List.filter_congr fun y hy=>and_set hn (setsOk y hy);have hs:∀y∈(caseSets x).filter (fun v=>bitsOf .and .i64 v (setZ l)==setZ l),0<=y/\y<32:=fun y hy=>setsOk y (List.mem_filter.1 hy).1;have hle:=caseSets_le x;have h76:=c76_78 x (setZ l) (caseSets x) (by omega);have h77:=c77 [.cells (tCase.cells x),.cells [iI (setZ l)]] (caseSets x) (by omega)
  have h79:=c79 x (caseSets x) _ 1 hok.five hs;have hlen:=List.length_filter_le (fun v=>bitsOf .and .i64 v (setZ l)==setZ l) (caseSets x);by_cases hc:can (caseSets x) l=true
  ·have hf:followR x l=(each x.claims.length ((caseSets x).filter fun v=>bitsOf .and .i64 v (setZ l)==setZ l) 1,0):=by
    unfold followR;rw[if_neg (by simp[h]),if_neg (by simp[hc]),hF]
   have hne:¬(((caseSets x).filter fun v=>bitsOf .and .i64 v (setZ l)==setZ l).length:Int)=0:=fun e=>by
    rw[hF,Int.natCast_eq_zero,List.length_eq_zero_iff,List.filter_eq_nil_iff]at e;unfold can at hc;rw[List.any_eq_true]at hc;obtain⟨y,h1,h2⟩:=hc;exact e y h1 h2
   clear hF
   generalize hX:(caseSets x).filter (fun v=>bitsOf .and .i64 v (setZ l)==setZ l)=F at*
   refine w29 x l (WP.step ?_);simp only[T29,Go,Ends',v29,Tr.sure,SS,hX];repeat' with_reducible first|intro _|apply aI
   all_goals first|exact(c70 _ _)|exact(c63l x l)|exact(VLe.undef _)|exact(entP_le (by with_reducible assumption))|exact(c72 l hn)|exact h77|exact h76|exact(VLe.pad _ _)|exact(VLe.same tint _ (padZ_len hlen).symm)|exact h79|(simp[hf,hne,hlen,Go,Ends',v29,-List.getD_eq_getElem?_getD, *];done)|(simp_all [hf,hne,hlen,Go,Ends',v29,-List.getD_eq_getElem?_getD];done)
  ·have hc':can (caseSets x) l=false:=by simpa using hc
   have hf:followR x l=([],9):=by
    unfold followR;rw[if_neg (by simp[h]),if_pos hc']
   have hne:(caseSets x).filter (fun v=>bitsOf .and .i64 v (setZ l)==setZ l)=[]:=by
    rw[hF,List.filter_eq_nil_iff];intro y hy e;unfold can at hc';rw[List.any_eq_false]at hc';exact hc' y hy e
   clear hF
   rw[hne]at h76;refine w29 x l (WP.step ?_);simp only[T29,Go,Ends',v29,Tr.sure,SS,hne];repeat' with_reducible first|intro _|apply aI
   all_goals first|exact(c70 _ _)|exact(c63l x l)|exact(VLe.undef _)|exact(entP_le (by with_reducible assumption))|exact(c72 l hn)|exact h77|exact h76|exact(VLe.pad _ _)|(simp[hf,hne,hlen,Go,Ends',v29,-List.getD_eq_getElem?_getD, *];done)|(simp_all [hf,hne,hlen,Go,Ends',v29,-List.getD_eq_getElem?_getD];done)
 ·have hf:followR x l=([],(truthsE x (listErr x.claims.length l)).2):=by unfold followR;rw[if_pos h]
  refine w29 x l (WP.step ?_);simp only[T29,Go,Ends',v29,Tr.sure,SS];repeat' with_reducible first|intro _|apply aI
  all_goals first|exact(c70 _ _)|exact(c63l x l)|exact(VLe.undef _)|exact(entP_le (by with_reducible assumption))|(simp[hf,h,Go,Ends',v29,-List.getD_eq_getElem?_getD, *];done)|(simp_all [hf,h,Go,Ends',v29,-List.getD_eq_getElem?_getD];done)
end
noncomputable section
def mostP(a b:Int):Bool:=decide (manyZ a>manyZ b)
theorem manyZ_0(s:Int):0<=manyZ s:=Int.natCast_nonneg _
theorem fold_max:∀(l:List Int) (b:Int),manyZ (l.foldl (fun b y=>if mostP y b=true then y else b) b)=l.foldl (fun n s=>max n (manyZ s)) (manyZ b)
 |[],_=>rfl
 |x::l,b=>by
  rw[List.foldl_cons,List.foldl_cons,fold_max l];congr 1
  unfold mostP;by_cases h:manyZ x>manyZ b
  ·rw[if_pos (decide_eq_true h)];omega
  ·rw[if_neg (by simpa using h)];omega
theorem bst_max(l:List Int):manyZ (bstOf mostP 0 l)=maxZ manyZ l:=by
 cases l with
 |nil=>decide
 |cons x l=>
  have h:=manyZ_0 x;show manyZ (l.foldl _ x)=(x::l).foldl _ 0;rw[fold_max,List.foldl_cons,show max (0:Int) (manyZ x)=manyZ x by omega]
theorem le_fold:∀(l:List Int) (n:Int),n<=l.foldl (fun n s=>max n (manyZ s)) n/\∀y∈l,manyZ y<=l.foldl (fun n s=>max n (manyZ s)) n
 |[],_=>⟨Int.le_refl _,fun _ h=>absurd h List.not_mem_nil⟩
 |x::l,n=>by
  obtain⟨h1,h2⟩:=le_fold l (max n (manyZ x));rw[List.foldl_cons];refine⟨by omega,fun y hy=> ?_⟩;rcases List.mem_cons.1 hy with q|q
  ·subst q;omega
  ·exact h2 y q
theorem grant_filter(l:List Int):l.filter (fun v=> !(decide (manyZ v<manyZ (bstOf mostP 0 l))))=l.filter fun s=>manyZ s==maxZ manyZ l:=by
 refine List.filter_congr fun y hy=> ?_;have:=(le_fold l 0).2 y hy;rw[bst_max];show(!decide (manyZ y<maxZ manyZ l))=_;have hm:manyZ y<=maxZ manyZ l:=this;by_cases e:manyZ y=maxZ manyZ l
 ·simp[e]
 ·have:manyZ y<maxZ manyZ l:=by omega
  simp[this,e]
inductive P35
 |e
inductive R35
 |r0 (r2:Int)
 |r1 (r0:List Int) (r1:List Int) (r2:Int)
def T35(x:Case):P35->Tr P35 R35
 |.e=>let c1:=caseSets x;let c2:=bstOf mostP 0 c1;let c3:V:=.tuple [entP x 0,iI ((truthsE x 0).2)];let c4:List Blk:=[.cells (cC x),.cells [iI c2],.gone,.rows 3 1 (c1.length) (rowsOf tint c1)];(.call 63 [.agg (cC x),fF 64] c3 true true (.br ((truthsE x 0).2 !=(0:Int)) (.out (.r0 ((truthsE x 0).2))) (.wait 2 (.vle 5 (entP x 0) (court x c1) (.vle 8 c3 uU (.vle 10 c3 uU (.vle 11 (entP x 0) uU (.call 89 [tint.lst c1,fF 90] (iI c2) true true (.hcall 77 [tint.lst c1] (.row 3 (c1.length)) [.cells (cC x),.cells [iI c2]] c4 true (.hcall 76 [.row 3 (c1.length),fG 92 [.ref 1 0 0]] (.row 3 ((c1.filter fun v=> !(decide (manyZ v<manyZ c2))).length)) c4 [.cells (cC x),.cells [iI c2],.gone,.rows 3 1 (c1.length) (rowsOf tint (padZ (c1.filter fun v=> !(decide (manyZ v<manyZ c2))) (c1.length)))] true (.wait 1 (.frz 3 ((decide ((c1.filter fun v=> !(decide (manyZ v<manyZ c2))).length<=c1.length))&&((decide (c1.length<=c1.length))&&((decide ((c1.filter fun v=> !(decide (manyZ v<manyZ c2))).length<=c1.length))&&true))) (.vle 7 (.list 1 ((c1.filter fun v=> !(decide (manyZ v<manyZ c2))).length) (rowsOf tint (padZ (c1.filter fun v=> !(decide (manyZ v<manyZ c2))) (c1.length)))) (tint.lst (c1.filter fun v=> !(decide (manyZ v<manyZ c2)))) (.vle 25 (.list 1 (c1.length) (rowsOf tint (padZ (c1.filter fun v=> !(decide (manyZ v<manyZ c2))) (c1.length)))) (tint.lst (padZ (c1.filter fun v=> !(decide (manyZ v<manyZ c2))) (c1.length))) (.vle 27 (.list 1 ((c1.filter fun v=> !(decide (manyZ v<manyZ c2))).length) (rowsOf tint (padZ (c1.filter fun v=> !(decide (manyZ v<manyZ c2))) (c1.length)))) (tint.lst (c1.filter fun v=> !(decide (manyZ v<manyZ c2)))) (.call 79 [court x c1,tint.lst (c1.filter fun v=> !(decide (manyZ v<manyZ c2))),iI 1] (tint.lst (each x.claims.length (c1.filter fun v=> !(decide (manyZ v<manyZ c2))) 1)) true true (.call 79 [court x c1,tint.lst (c1.filter fun v=> !(decide (manyZ v<manyZ c2))),iI 2] (tint.lst (each x.claims.length (c1.filter fun v=> !(decide (manyZ v<manyZ c2))) 2)) true true (.out (.r1 (each x.claims.length (c1.filter fun v=> !(decide (manyZ v<manyZ c2))) 1) (each x.claims.length (c1.filter fun v=> !(decide (manyZ v<manyZ c2))) 2) 0)))))))))))))))))))
noncomputable def g35(x:Case):P35->List Item × St
 |.e=>bd Tryz.f35 [.agg (cC x)] 33
def n35:R35->Exit × St
 |.r0 r2=>(.ret,⟨mk 34 [(2,.nils),(3,.nils),(4,iI r2)],[],[]⟩)
 |.r1 r0 r1 r2=>(.ret,⟨mk 34 [(2,tint.lst r0),(3,tint.lst r1),(4,iI r2)],[],[]⟩)
def v35:R35->V
 |.r0 r2=>.tuple [tint.lst ([]:List Int),tint.lst ([]:List Int),iI r2]
 |.r1 r0 r1 r2=>.tuple [tint.lst r0,tint.lst r1,iI r2]
theorem s35(x:Case):Sm 0 (g35 x) (T35 x) (n35)
 |.e=>⟨400,by kernel_rfl⟩
theorem q35:∀r,bodyQ Tryz.prog Tryz.f35 (·=v35 r) (n35 r).1 (n35 r).2
 |.r0 r2=>⟨.inr rfl,by simp[n35],(.tuple [.nils,.nils,iI r2]),(.tuple [tint.lst ([]:List Int),tint.lst ([]:List Int),iI r2]),by kernel_rfl,(.tuple rfl fun j hj=>match j,hj with|0,_=>.weak (.imm rfl) VLe.nils|1,_=>.weak (.imm rfl) VLe.nils|2,_=>.imm rfl),rfl⟩
 |.r1 r0 r1 r2=>bq (.tuple [tint.lst r0,tint.lst r1,iI r2]) (by kernel_rfl)
theorem w35(x:Case){post:V->Prop}(h:WQ (T35 x) v35 post .e):PC 35 [.agg (cC x)] post:=
 PCalls.wq Tryz.func35 (s35 x) q35 h
theorem c92a(n:Int)(hn:0<=n/\n<32):Asks1 92 n (fun v=>decide (manyZ v<manyZ n)) fun v=>0<=v/\v<32:=fun v hv=>c92 v n hv hn
theorem c35(x:Case):PC 35 [.agg (tCase.cells x)] (·=.tuple [tint.lst (grantR x).1,tint.lst (grantR x).2.1,iI (grantR x).2.2]):=by
 by_cases h:(truthsE x 0).2=0
 ·have hok:=(okOf h).1;have hb:=bst_in (p:=mostP) (d:=0) (ok:=fun v=>0<=v/\v<32) (caseSets x) (fun y hy=>setsOk y hy) (by decide);have h89:=c89 (p:=mostP) (ok:=fun v=>0<=v/\v<32) (caseSets x) (fun a b ha hb=>c90 a b ha hb) (fun y hy=>setsOk y hy) (by decide)
  have hf:grantR x=(each x.claims.length ((caseSets x).filter fun v=> !(decide (manyZ v<manyZ (bstOf mostP 0 (caseSets x))))) 1,each x.claims.length ((caseSets x).filter fun v=> !(decide (manyZ v<manyZ (bstOf mostP 0 (caseSets x))))) 2,0):=by
   unfold grantR;rw[if_neg (by simp[h]),grant_filter]
  have hle:=caseSets_le x;have h76:=c76 x (bstOf mostP 0 (caseSets x)) (caseSets x) (c92a _ hb) (fun y hy=>setsOk y hy) (by omega);have h77:=c77 [.cells (tCase.cells x),.cells [iI (bstOf mostP 0 (caseSets x))]] (caseSets x) (by omega);have hs:∀y∈(caseSets x).filter (fun v=> !(decide (manyZ v<manyZ (bstOf mostP 0 (caseSets x))))),0<=y/\y<32:=fun y hy=>setsOk y (List.mem_filter.1 hy).1;have h791:=c79 x (caseSets x) _ 1 hok.five hs
  have h792:=c79 x (caseSets x) _ 2 hok.five hs;have hlen:=List.length_filter_le (fun v=> !(decide (manyZ v<manyZ (bstOf mostP 0 (caseSets x))))) (caseSets x);refine w35 x (WP.step ?_);simp only[T35,Go,Ends',v35,Tr.sure,SS];repeat' with_reducible first|intro _|apply aI
  all_goals first|exact(c63f x)|exact(VLe.undef _)|exact(entP_le (by with_reducible assumption))|exact h89|exact h77|exact h76|exact(VLe.pad _ _)|exact(VLe.same tint _ (padZ_len hlen).symm)|exact h791|exact h792|(simp[hf,hlen,Go,Ends',v35,-List.getD_eq_getElem?_getD, *];done)|(simp_all [hf,hlen,Go,Ends',v35,-List.getD_eq_getElem?_getD];done)
 ·have hf:grantR x=([],[],(truthsE x 0).2):=by unfold grantR;rw[if_pos h]
  refine w35 x (WP.step ?_);simp only[T35,Go,Ends',v35,Tr.sure,SS];repeat' with_reducible first|intro _|apply aI
  all_goals first|exact(c63f x)|exact(VLe.undef _)|exact(entP_le (by with_reducible assumption))|(simp[hf,h,Go,Ends',v35,-List.getD_eq_getElem?_getD, *];done)|(simp_all [hf,h,Go,Ends',v35,-List.getD_eq_getElem?_getD];done)
end
noncomputable section
inductive P26
 |e
 |l0 (x0_21:Int) (a0_1:List (List Int))
 |l1 (x0_21:Int) (x1_7:Int) (a1_1:List (List Int))
inductive R26
 |r0 (r0:List (List Int)) (r1:Int)
 |r1 (r0:List (List Int)) (r1:Int)
def T26(x:Case):P26->Tr P26 R26
 |.e=>let c1:V:=.tuple [entP x 0,iI ((truthsE x 0).2)];(.wait 2 (.own 2 26 1 (.call 63 [.agg (cC x),fF 64] c1 true true (.br ((truthsE x 0).2 !=(0:Int)) (.wait 2 (.own 2 26 1 (.out (.r0 ([]) ((truthsE x 0).2))))) (.wait 2 (.vle 4 (entP x 0) (court x (caseSets x)) (.vle 8 c1 uU (.vle 10 c1 uU (.vle 11 (entP x 0) uU (.go (.l0 0 ([]))))))))))))
 |.l0 x0_21 a0_1=>(.br (decide (x0_21<(x.claims.length:Int))) (.need (inR .i64 (x0_21+(1:Int))) (.go (.l1 x0_21 (x0_21+(1:Int)) a0_1))) (.out (.r1 a0_1 0)))
 |.l1 x0_21 x1_7 a1_1=>let c1:=(1:Int)*2^(min (x0_21).toNat 64);let c2:=(1:Int)*2^(min (x1_7).toNat 64);let c3:=caseSets x;let c4:Tr P26 R26:=.need (inR .i64 (x1_7+(1:Int))) (.go (.l1 x0_21 (x1_7+(1:Int)) a1_1));let c5:=decide (0<=x0_21)&&inR .i64 c1;let c6:=bitsOf .or .i64 c1 c2;let c7:=decide (0<=x1_7)&&inR .i64 c2;let c8:=([x0_21,x1_7]:List Int);(.br (decide (x1_7<(x.claims.length:Int))) (.br (c3.any fun s=>bitsOf .and .i64 s c1==c1) (.br (c3.any fun s=>bitsOf .and .i64 s c2==c2) (.front [(3,71,[court x c3,iI c1],.bool (c3.any fun s=>bitsOf .and .i64 s c1==c1)),(8,71,[court x c3,iI c2],.bool (c3.any fun s=>bitsOf .and .i64 s c2==c2)),(17,71,[court x c3,iI c6],.bool (c3.any fun s=>bitsOf .and .i64 s c6==c6))] [(4,true),(10,true)] ((c5&&(((c3.any fun s=>bitsOf .and .i64 s c1==c1)==true)&&(c7&&(((c3.any fun s=>bitsOf .and .i64 s c2==c2)==true)&&(c5&&(c7&&true))))))&&true) true (.br (!(c3.any fun s=>bitsOf .and .i64 s c6==c6)) (.wait 1 (.frz 2 ((decide (2<=2))&&true) (.wait 0 (.vle 56 (.list 1 2 (litC 1 2 [iI x0_21,iI x1_7])) (tint.lst c8) (.need ((decide (a1_1.length=a1_1.length)&&decide (a1_1.length+1<=4294967296))&&decide (1<=1)) (.scal (fun _=>true) (.need (inR .i64 (x1_7+(1:Int))) (.go (.l1 x0_21 (x1_7+(1:Int)) (c8::a1_1)))))))))) c4)) (.front [(3,71,[court x c3,iI c1],.bool (c3.any fun s=>bitsOf .and .i64 s c1==c1)),(8,71,[court x c3,iI c2],.bool (c3.any fun s=>bitsOf .and .i64 s c2==c2))] [(4,true),(10,false)] ((c5&&(((c3.any fun s=>bitsOf .and .i64 s c1==c1)==true)&&(c7&&(((c3.any fun s=>bitsOf .and .i64 s c2==c2)==false)&&true))))&&true) true (.lit false c4))) (.front [(3,71,[court x c3,iI c1],.bool (c3.any fun s=>bitsOf .and .i64 s c1==c1))] [(4,false)] ((c5&&(((c3.any fun s=>bitsOf .and .i64 s c1==c1)==false)&&true))&&true) true (.lit false c4))) (.need (inR .i64 (x0_21+(1:Int))) (.go (.l0 (x0_21+(1:Int)) a1_1))))
noncomputable def g26(x:Case):P26->List Item × St
 |.e=>bd Tryz.f26 [.agg (cC x)] 60
 |.l0 x0_21 a0_1=>(cutOf Tryz.f26 0,⟨mk 61 [(1,.ref 0 0 0),(2,.row 1 a0_1.length),(5,.func (.func 71) [court x (caseSets x)] []),(20,iI (x.claims.length:Int)),(21,iI x0_21)],[.cells (cC x),.rows 26 1 a0_1.length (rowsRev (tlist tint) a0_1)],[]⟩)
 |.l1 x0_21 x1_7 a1_1=>(cutOf Tryz.f26 1,⟨mk 61 [(1,.ref 0 0 0),(2,.row 1 a1_1.length),(5,.func (.func 71) [court x (caseSets x)] []),(6,iI x0_21),(7,iI x1_7),(20,iI (x.claims.length:Int)),(21,iI x0_21)],[.cells (cC x),.rows 26 1 a1_1.length (rowsRev (tlist tint) a1_1)],[]⟩)
def n26:R26->Exit × St
 |.r0 r0 r1=>(.ret,⟨mk 61 [(2,.row 2 r0.length),(3,iI r1)],[.gone,.gone,.rows 26 1 r0.length (rowsRev (tlist tint) r0)],[]⟩)
 |.r1 r0 r1=>(.ret,⟨mk 61 [(2,.row 1 r0.length),(3,iI r1)],[.gone,.rows 26 1 r0.length (rowsRev (tlist tint) r0)],[]⟩)
def v26:R26->V
 |.r0 r0 r1=>.tuple [(tlist tint).lst r0.reverse,iI r1]
 |.r1 r0 r1=>.tuple [(tlist tint).lst r0.reverse,iI r1]
theorem s26(x:Case):Sm 0 (g26 x) (T26 x) (n26)
 |.e=>⟨400,by kernel_rfl⟩
 |.l0 _ _=>⟨400,by kernel_rfl⟩
 |.l1 _ _ _=>⟨400,by kernel_rfl⟩
theorem q26:∀r,bodyQ Tryz.prog Tryz.f26 (·=v26 r) (n26 r).1 (n26 r).2
 |.r0 r0 r1=>⟨.inr rfl,by simp[n26],(.tuple [.row 2 r0.length,iI r1]),(.tuple [(tlist tint).lst r0.reverse,iI r1]),by kernel_rfl,(.tuple rfl fun j hj=>match j,hj with|0,_=>.weak (.row rfl (Nat.le_refl _)) (VLe.rev (tlist tint) r0)|1,_=>.imm rfl),rfl⟩
 |.r1 r0 r1=>⟨.inr rfl,by simp[n26],(.tuple [.row 1 r0.length,iI r1]),(.tuple [(tlist tint).lst r0.reverse,iI r1]),by kernel_rfl,(.tuple rfl fun j hj=>match j,hj with|0,_=>.weak (.row rfl (Nat.le_refl _)) (VLe.rev (tlist tint) r0)|1,_=>.imm rfl),rfl⟩
theorem w26(x:Case){post:V->Prop}(h:WQ (T26 x) v26 post .e):PC 26 [.agg (cC x)] post:=
 PCalls.wq Tryz.func26 (s26 x) q26 h
def rowP(a j:Nat):List (List Int):=(List.range j).map fun(d:Nat)=>[(a:Int),((a+1+d:Nat):Int)]
def pairsL(k i:Nat):List (List Int):=(List.range i).flatMap fun a=>rowP a (k-(a+1))
theorem picks_pairs:∀k:Nat,k<6->picks k 2=pairsL k k:=by decide+kernel
theorem setZ_one:∀a:Nat,a<5->setZ [(a:Int)]=1*2^(min a 64):=by decide+kernel
theorem setZ_two:∀a:Nat,a<5->∀b:Nat,b<5->setZ [(a:Int),(b:Int)]=bitsOf .or .i64 (1*2^(min a 64)) (1*2^(min b 64)):=by decide+kernel
theorem pow_in:∀a:Nat,a<5->inR .i64 ((1:Int)*2^(min a 64))=true:=by decide+kernel
theorem rowP_succ(a j:Nat):rowP a (j+1)=rowP a j++ [[(a:Int),((a+1+j:Nat):Int)]]:=by unfold rowP;rw[List.range_succ,List.map_append];rfl
theorem pairsL_succ(k i:Nat):pairsL k (i+1)=pairsL k i++rowP i (k-(i+1)):=by unfold pairsL;rw[List.range_succ,List.flatMap_append];simp
theorem rowP_len(a j:Nat):(rowP a j).length=j:=by simp[rowP]
theorem pairsL_len(k:Nat):∀i,(pairsL k i).length<=i*k
 |0=>Nat.zero_le _
 |i+1=>by
  have:=pairsL_len k i;rw[pairsL_succ,List.length_append,rowP_len,Nat.succ_mul];omega
theorem filter_rev{τ:Type}(P:τ->Bool)(L:List τ)(x:τ):((L++ [x]).filter P).reverse=if P x=true then x::(L.filter P).reverse else(L.filter P).reverse:=by
 rw[List.filter_append,List.reverse_append];by_cases h:P x=true
 ·rw[if_pos h,List.filter_cons,if_pos h];rfl
 ·rw[if_neg h,List.filter_cons,if_neg h];rfl
set_option maxHeartbeats 1000000 in
theorem c26(x:Case):PC 26 [.agg (tCase.cells x)] (·=.tuple [(tlist tint).lst (clashR x).1,iI (clashR x).2]):=by
 by_cases h:(truthsE x 0).2=0
 ·have hok:=(okOf h).1;have h5:=hok.five
  have hf:clashR x=((pairsL x.claims.length x.claims.length).filter (clashP (caseSets x)),0):=by
   unfold clashR;rw[if_neg (by simp[h]),picks_pairs _ (by omega)]
  have hs:∀y∈caseSets x,0<=y/\y<32:=setsOk;have h71:=fun y=>c71 x (caseSets x) y
  have hone:∀a:Nat,a<5->((caseSets x).any fun s=>bitsOf .and .i64 s ((1:Int)*2^(min a 64))==((1:Int)*2^(min a 64)))=can (caseSets x) [(a:Int)]:=fun a ha=>by
   rw[<-setZ_one a ha];exact can_any (fun n hn=>by rw[List.mem_singleton]at hn;omega) hs
  have htwo:∀a:Nat,a<5->∀b:Nat,b<5->((caseSets x).any fun s=>bitsOf .and .i64 s (bitsOf .or .i64 ((1:Int)*2^(min a 64)) ((1:Int)*2^(min b 64)))==bitsOf .or .i64 ((1:Int)*2^(min a 64)) ((1:Int)*2^(min b 64)))=can (caseSets x) [(a:Int),(b:Int)]:=fun a ha b hb=>by
   rw[<-setZ_two a ha b hb];exact can_any (fun n hn=>by simp only[List.mem_cons,List.not_mem_nil,or_false]at hn;omega) hs
  have hmain:WP Tryz.prog ⟨none,0⟩ (T26 x) (Ends' fun r=>v26 r=.tuple [(tlist tint).lst (clashR x).1,iI (clashR x).2]) (.l0 0 []):=by
   refine WP.run (fun(i:Nat)=>.l0 i ((pairsL x.claims.length i).filter (clashP (caseSets x))).reverse) rfl x.claims.length (fun i hi=> ?_) ?_
   ·have hr:inR .i64 ((i:Int)+1)=true:=inR64 (by omega) (by omega);have hi':(i:Int)<x.claims.length:=by omega
    have hlen:=pairsL_len x.claims.length i;have hi5:i*x.claims.length<=5*5:=Nat.mul_le_mul (by omega) h5;have hsucc:=pairsL_succ x.claims.length i
    have main:WP Tryz.prog ⟨none,0⟩ (T26 x) (fun y=>y=.inl (.l0 ((i+1:Nat):Int) ((pairsL x.claims.length (i+1)).filter (clashP (caseSets x))).reverse)) (.l1 (i:Int) ((i:Int)+1) ((pairsL x.claims.length i).filter (clashP (caseSets x))).reverse):=by
     rw[hsucc];generalize pairsL x.claims.length i=L at*
     refine WP.run (fun(j:Nat)=>.l1 (i:Int) ((i+1+j:Nat):Int) ((L++rowP i j).filter (clashP (caseSets x))).reverse) (by simp[rowP]) (x.claims.length-(i+1)) (fun j hj=> ?_) ?_
     ·have hb:i+1+j<x.claims.length:=by omega
      have hb':((i+1+j:Nat):Int)<x.claims.length:=by omega
      have h1:=hone i (by omega);have h2:=hone (i+1+j) (by omega);have h3:=htwo i (by omega) (i+1+j) (by omega);have hr1:inR .i64 (((i+1+j:Nat):Int)+1)=true:=inR64 (by omega) (by omega);have hp1:=pow_in i (by omega);have hp2:=pow_in (i+1+j) (by omega)
      have hle:((L++rowP i j).filter (clashP (caseSets x))).reverse.length+1<=4294967296:=by
       rw[List.length_reverse];have:=List.length_filter_le (clashP (caseSets x)) (L++rowP i j);rw[List.length_append,rowP_len]at this;omega
      have hn:=filter_rev (clashP (caseSets x)) (L++rowP i j) [(i:Int),((i+1+j:Nat):Int)];have hP:clashP (caseSets x) [(i:Int),((i+1+j:Nat):Int)]=(can (caseSets x) [(i:Int)]&&(can (caseSets x) [((i+1+j:Nat):Int)]&& !can (caseSets x) [(i:Int),((i+1+j:Nat):Int)])):=rfl;have e2:((i+1+(j+1):Nat):Int)=((i+1+j:Nat):Int)+1:=by omega
      rw[rowP_succ,<-List.append_assoc,hn,hP,e2];have g0:(0:Int)<=((i+1+j:Nat):Int):=Int.natCast_nonneg _;generalize((L++rowP i j).filter (clashP (caseSets x))).reverse=B at*
      generalize i+1+j=b at*
      have hd1:=h71 ((1:Int)*2^(min i 64));have hd2:=h71 ((1:Int)*2^(min b 64));have hd3:=h71 (bitsOf .or .i64 ((1:Int)*2^(min i 64)) ((1:Int)*2^(min b 64)));rw[h1]at hd1;rw[h2]at hd2;rw[h3]at hd3
      cases q1:can (caseSets x) [(i:Int)]with
      |false=>
       rw[q1]at hd1 h1;refine WP.once ?_;simp only[T26,Tr.sure,SS,hb',h1];repeat' with_reducible first|intro _|apply aI
       all_goals first|exact hd1|(simp[hr1,hp1,h1,Go,Ends',v26,-List.getD_eq_getElem?_getD, *];done)|(simp_all [hr1,hp1,h1,Go,Ends',v26,-List.getD_eq_getElem?_getD];done)
      |true=>
       rw[q1]at hd1 h1
       cases q2:can (caseSets x) [(b:Int)]with
       |false=>
        rw[q2]at hd2 h2;refine WP.once ?_;simp only[T26,Tr.sure,SS,hb',h1,h2];repeat' with_reducible first|intro _|apply aI
        all_goals first|exact hd1|exact hd2|(simp[hr1,hp1,hp2,Go,Ends',v26,-List.getD_eq_getElem?_getD, *];done)|(simp_all [hr1,hp1,hp2,Go,Ends',v26,-List.getD_eq_getElem?_getD];done)
       |true=>
        rw[q2]at hd2 h2
        cases q3:can (caseSets x) [(i:Int),(b:Int)]with
        |false=>
         rw[q3]at hd3 h3;refine WP.once ?_;simp only[T26,Tr.sure,SS,hb',h1,h2,h3];repeat' with_reducible first|intro _|apply aI
         all_goals first|exact hd1|exact hd2|exact hd3|exact(VLe.lit2 _ _)|(simp[hr1,hp1,hp2,hle,Go,Ends',v26,-List.getD_eq_getElem?_getD, *];done)|(simp_all [hr1,hp1,hp2,hle,Go,Ends',v26,-List.getD_eq_getElem?_getD];done)
        |true=>
         rw[q3]at hd3 h3;refine WP.once ?_;simp only[T26,Tr.sure,SS,hb',h1,h2,h3];repeat' with_reducible first|intro _|apply aI
         all_goals first|exact hd1|exact hd2|exact hd3|(simp[hr1,hp1,hp2,Go,Ends',v26,-List.getD_eq_getElem?_getD, *];done)|(simp_all [hr1,hp1,hp2,Go,Ends',v26,-List.getD_eq_getElem?_getD];done)
     ·have e1:i+1+(x.claims.length-(i+1))=x.claims.length:=by omega
      rw[e1];refine WP.step ?_;simp only[T26,Go,Ends',v26,Tr.sure,SS,Int.lt_irrefl];repeat' with_reducible first|intro _|apply aI
      all_goals first|(simp[hr,Go,Ends',v26,-List.getD_eq_getElem?_getD, *];done)|skip
      all_goals exact WP.stop rfl
    refine WP.step ?_;simp only[T26,Go,Ends',v26,Tr.sure,SS,hi'];repeat' with_reducible first|intro _|apply aI
    all_goals first|exact main|(simp[hr,Go,Ends',v26,-List.getD_eq_getElem?_getD, *];done)
   ·refine WP.step ?_;simp only[T26,Go,Ends',v26,Tr.sure,SS,Int.lt_irrefl];repeat' with_reducible first|intro _|apply aI
    all_goals simp[hf,Go,Ends',v26,-List.getD_eq_getElem?_getD, *]
  refine w26 x (WP.step ?_);simp only[T26,Go,Ends',v26,Tr.sure,SS];repeat' with_reducible first|intro _|apply aI
  all_goals first|exact(c63f x)|exact(VLe.undef _)|exact(entP_le (by with_reducible assumption))|exact hmain|(simp_all [h,Go,Ends',v26,-List.getD_eq_getElem?_getD];done)
 ·have hf:clashR x=([],(truthsE x 0).2):=by unfold clashR;rw[if_pos h]
  refine w26 x (WP.step ?_);simp only[T26,Go,Ends',v26,Tr.sure,SS];repeat' with_reducible first|intro _|apply aI
  all_goals first|exact(c63f x)|exact(VLe.undef _)|exact(entP_le (by with_reducible assumption))|(simp[hf,h,Go,Ends',v26,-List.getD_eq_getElem?_getD, *];done)|(simp_all [hf,h,Go,Ends',v26,-List.getD_eq_getElem?_getD];done)
end
noncomputable section
inductive P39
 |e
 |l0 (x0_43:Int)
 |l1 (x0_43:Int) (x1_51:Int)
 |l2 (x0_43:Int) (x1_51:Int) (x2_58:List Int) (x2_60:Int)
inductive R39
 |r0 (r0_0:Int) (r0_1:Int) (r1:Int)
def T39(x:Case)(n:Int):P39->Tr P39 R39
 |.e=>let c1:=indexErr n (x.claims.length:Int);let c2:=(truthsE x c1).2;let c3:List V:=[rR (iI (x.claims.length:Int)),rR (iI n)];let c4:=caseSets x;let c5:V:=.tuple [entP x c1,iI c2];(.front [(5,66,[iI n,iI (x.claims.length:Int)],.func (.func 132) [] c3),(6,63,[.agg (cC x),.func (.func 132) [] c3],.tuple [entP x c1,iI c2])] [] true true (.br ((truthsE x c1).2 !=(0:Int)) (.out (.r0 0 0 c2)) (.wait 1 (.vle 6 (entP x c1) (court x c4) (.vle 15 c5 uU (.vle 22 c5 uU (.vle 23 (entP x c1) uU (.call 67 [tint.lst c4,iI n] (iI (settled c4 n)) true true (.br ((settled c4 n) !=(0:Int)) (.out (.r0 0 0 2)) (.go (.l0 0)))))))))))
 |.l0 x0_43=>let c1:=x0_43<(x.shop.heads.length:Int);(.br (decide c1) (.need (decide (0<=x0_43)&&decide c1) (.go (.l1 x0_43 0))) (.out (.r0 0 0 9)))
 |.l1 x0_43 x1_51=>let c1:=x.shop.heads.getD (x0_43).toNat tHead.zero;let c2:=x1_51<((c1.shows.length):Int);(.br (decide c2) (.need (decide (0<=x1_51)&&decide c2) (.br (((c1.shows).getD (x1_51).toNat tint.zero) !=(0:Int)) (.need (inR .i64 (x1_51+(1:Int))) (.go (.l1 x0_43 (x1_51+(1:Int))))) (.wait 5 (.frz 2 ((decide (2<=2))&&true) (.vle 58 (.list 1 2 (litC 1 2 [iI 1,iI 2])) (tint.lst ([1,2]:List Int)) (.go (.l2 x0_43 x1_51 ([1,2]:List Int) 0))))))) (.need (inR .i64 (x0_43+(1:Int))) (.go (.l0 (x0_43+(1:Int))))))
 |.l2 x0_43 x1_51 x2_58 x2_60=>let c1:=readC x x0_43 x1_51 (x2_58.getD (x2_60).toNat tint.zero);let c2:List V:=[iI (c1.shop.features),tMould.lst (c1.shop.moulds),tHead.lst (c1.shop.heads),tint.lst (c1.owners),tClaim.lst (c1.claims)];let c3:Tr P39 R39:=.need (inR .i64 (x2_60+(1:Int))) (.go (.l2 x0_43 x1_51 x2_58 (x2_60+(1:Int))));let c4:=caseSets c1;(.br (decide (x2_60<(2:Int))) (.need (decide (0<=x2_60)&&decide (x2_60<(x2_58.length:Int))) (.call 98 [.agg (cC x),iI x0_43,iI x1_51,iI (x2_58.getD (x2_60).toNat tint.zero)] (.agg c2) true true (.call 97 [.agg c2] (court c1 c4) true true (.br (decide (((c4.length):Int)>(0:Int))) (.call 67 [tint.lst c4,iI n] (iI (settled c4 n)) true true (.br ((settled c4 n)==(0:Int)) (.need (inR .i64 (x1_51+(1:Int))) (.go (.l1 x0_43 (x1_51+(1:Int))))) c3)) (.lit false c3))))) (.out (.r0 x0_43 x1_51 0)))
noncomputable def g39(x:Case)(n:Int):P39->List Item × St
 |.e=>bd Tryz.f39 [.agg (cC x),iI n] 90
 |.l0 x0_43=>(cutOf Tryz.f39 0,⟨mk 92 [(1,iI n),(2,.ref 0 0 0),(4,.ref 1 0 0),(41,tHead.lst x.shop.heads),(42,iI (x.shop.heads.length:Int)),(43,iI x0_43)],[.cells (cC x),.cells [iI 0,iI 0]],[]⟩)
 |.l1 x0_43 x1_51=>(cutOf Tryz.f39 1,⟨mk 92 [(1,iI n),(2,.ref 0 0 0),(4,.ref 1 0 0),(8,iI x0_43),(41,tHead.lst x.shop.heads),(42,iI (x.shop.heads.length:Int)),(43,iI x0_43),(49,tint.lst ((x.shop.heads.getD (x0_43).toNat tHead.zero).shows)),(50,iI (((x.shop.heads.getD (x0_43).toNat tHead.zero).shows.length):Int)),(51,iI x1_51)],[.cells (cC x),.cells [iI 0,iI 0]],[]⟩)
 |.l2 x0_43 x1_51 x2_58 x2_60=>(cutOf Tryz.f39 2,⟨mk 92 [(1,iI n),(2,.ref 0 0 0),(4,.ref 1 0 0),(8,iI x0_43),(10,iI x1_51),(41,tHead.lst x.shop.heads),(42,iI (x.shop.heads.length:Int)),(43,iI x0_43),(49,tint.lst ((x.shop.heads.getD (x0_43).toNat tHead.zero).shows)),(50,iI (((x.shop.heads.getD (x0_43).toNat tHead.zero).shows.length):Int)),(51,iI x1_51),(58,tint.lst x2_58),(59,iI (2:Int)),(60,iI x2_60)],[.cells (cC x),.cells [iI 0,iI 0]],[]⟩)
def n39:R39->Exit × St
 |.r0 r0_0 r0_1 r1=>(.ret,⟨mk 92 [(4,.ref 1 0 0),(5,iI r1)],[.gone,.cells [iI r0_0,iI r0_1]],[]⟩)
def v39:R39->V
 |.r0 r0_0 r0_1 r1=>.tuple [.agg [iI r0_0,iI r0_1],iI r1]
theorem s39(x:Case)(n:Int):Sm 0 (g39 x n) (T39 x n) (n39)
 |.e=>⟨400,by kernel_rfl⟩
 |.l0 _=>⟨400,by kernel_rfl⟩
 |.l1 _ _=>⟨400,by kernel_rfl⟩
 |.l2 _ _ _ _=>⟨400,by kernel_rfl⟩
theorem q39:∀r,bodyQ Tryz.prog Tryz.f39 (·=v39 r) (n39 r).1 (n39 r).2
 |.r0 r0_0 r0_1 r1=>bq (.tuple [.agg [iI r0_0,iI r0_1],iI r1]) (by kernel_rfl)
theorem w39(x:Case)(n:Int){post:V->Prop}(h:WQ (T39 x n) v39 post .e):PC 39 [.agg (cC x),iI n] post:=
 PCalls.wq Tryz.func39 (s39 x n) q39 h
theorem g12_0:([1,2]:List Int).getD (Int.toNat 0) tint.zero=1:=rfl
theorem g12_1:([1,2]:List Int).getD (Int.toNat 1) tint.zero=2:=rfl
theorem lookV2{c:Case}{i:Int}{e:Entry}{n:Int}(h:lookR c i=(e,n)):V.tuple [.agg [iI e.head,iI e.feature],iI n]=V.tuple [.agg (tEntry.cells (lookR c i).1),iI (lookR c i).2]:=by rw[h];rfl
theorem key39{x:Case}{n:Int}{F:P39⊕R39->Prop}{a s:P39}{r:R39}{E:Bool}(h1:E=false->F (.inl s))(h2:E=true->F (.inr r))
  (h:∀G:P39⊕R39->Prop,(E=false->WP Tryz.prog ⟨none,0⟩ (T39 x n) G s)->(E=true->G (.inr r))->WP Tryz.prog ⟨none,0⟩ (T39 x n) G a):WP Tryz.prog ⟨none,0⟩ (T39 x n) F a:=
 h F (fun q=>WP.stop (h1 q)) h2
set_option maxHeartbeats 2000000 in
theorem c39(x:Case)(n:Int):PC 39 [.agg (tCase.cells x),iI n] (·=.tuple [.agg (tEntry.cells (lookR x n).1),iI (lookR x n).2]):=by
 by_cases h:(truthsE x (indexErr n x.claims.length)).2=0
 ·have hok:=(okOf h).1;have h5:=hok.five;have hn:0<=n/\n<=5:=by have:=indexOk (okOf h).2;omega
  have h67:=c67 (caseSets x) n setsOk hn;have hh2:holdsR x n=(settled (caseSets x) n,0):=by unfold holdsR;rw[if_neg (by simp[h])]
  by_cases hset:settled (caseSets x) n=0
  ·have hnh:=hok.shop.nh;have hF:=hok.shop.feat
   have hf:lookR x n=match((List.range x.shop.heads.length).flatMap (entriesOf x.shop.features)).find? (lookP x n)with|some e=>(e,0)|none=>(⟨0,0⟩,9):=by
    unfold lookR;rw[hh2,if_neg (by simp),if_neg (by simp[hset])];rfl
   rw[hset]at h67
   have hmain:WP Tryz.prog ⟨none,0⟩ (T39 x n) (Ends' fun r=>v39 r=.tuple [.agg (tEntry.cells (lookR x n).1),iI (lookR x n).2]) (.l0 0):=by
    refine WP.count (fun h=>.l0 (h:Int)) rfl x.shop.heads.length (fun h=>((List.range h).flatMap (entriesOf x.shop.features)).find? (lookP x n)=none) rfl (fun h hh hI=> ?_) fun hI=> ?_
    ·have hh':(h:Int)<x.shop.heads.length:=by omega
     have hr0:inR .i64 ((h:Int)+1)=true:=inR64 (by omega) (by omega);have hm:x.shop.heads.getD h zHead∈x.shop.heads:=getD_mem zHead _ _ hh;have hsl:=(hok.shop.head _ hm).1;have hfind:=fun l=>flat_find (l:=l) hh hI;have hnext:=fun z=>flat_none (f:=entriesOf x.shop.features) hI z
     have main:∀φ,WP Tryz.prog ⟨none,0⟩ (T39 x n) φ (.l1 (h:Int) 0)->WP Tryz.prog ⟨none,0⟩ (T39 x n) φ (.l0 (h:Int)):=fun φ z=>by
      refine WP.step ?_;simp only[T39,Go,Ends',v39,Tr.sure,SS,hh'];repeat' with_reducible first|intro _|apply aI
      all_goals exact z
     have hEl:(entriesOf x.shop.features h).length=x.shop.features.toNat:=by simp[entriesOf]
     have hEg:∀f,f<x.shop.features.toNat->(entriesOf x.shop.features h).getD f ⟨0,0⟩=⟨(h:Int),(f:Int)⟩:=fun f hf=>by
      simp[entriesOf,gE,hf]
     refine main _ (WP.findI (fun f=>.l1 (h:Int) (f:Int)) rfl (entriesOf x.shop.features h) ⟨0,0⟩ (lookP x n) (fun f hf0=> ?_) fun hJ=> ?_)
     ·rw[hEl]at hf0;have hr:inR .i64 ((f:Int)+1)=true:=inR64 (by omega) (by omega);have hf2:(f:Int)<(x.shop.heads.getD h zHead).shows.length:=by omega
      have hg:=hEg f hf0
      have hres:firstI (lookP x n) 0 (entriesOf x.shop.features h)=some f->lookR x n=(⟨(h:Int),(f:Int)⟩,0):=fun z=>by
       obtain⟨q,z1,z2⟩:=find_firstI _ ⟨0,0⟩ _ 0 f z;obtain rfl:f=q:=by omega
       rw[hf,hfind _ z2,hg]
      have hP:lookP x n ⟨(h:Int),(f:Int)⟩=((x.shop.heads.getD h zHead).shows.getD f 0==0&&looked x n ⟨(h:Int),(f:Int)⟩):=by simp only[lookP,unreadP,Int.toNat_natCast]
      have k98:=fun q=>c98 x (h:Int) (f:Int) q ⟨by omega,hh'⟩ ⟨by omega,by rw[Int.toNat_natCast];exact hf2⟩ (by omega) (by rw[Int.toNat_natCast];omega);have hok1:OkCase (readC x h f 1):=okCase_read hok ⟨by omega,hh'⟩ ⟨by omega,by omega⟩;have hok2:OkCase (readC x h f 2):=okCase_read hok ⟨by omega,hh'⟩ ⟨by omega,by omega⟩;have k971:=c97 _ hok1;have k972:=c97 _ hok2;have k671:=c67 (caseSets (readC x h f 1)) n setsOk hn
      have k672:=c67 (caseSets (readC x h f 2)) n setsOk hn;have hL:looked x n ⟨(h:Int),(f:Int)⟩=(!(decide (((caseSets (readC x h f 1)).length:Int)>0)&&settled (caseSets (readC x h f 1)) n==0)&& !(decide (((caseSets (readC x h f 2)).length:Int)>0)&&settled (caseSets (readC x h f 2)) n==0)):=rfl;have k981:=k98 1;have k982:=k98 2;clear hfind hnext hI k98 hf
      rw[hg,hP,hL];generalize hR1:readC x h f 1=R1 at*
      generalize hR2:readC x h f 2=R2 at*
      generalize hS1:caseSets R1=S1 at*
      generalize hS2:caseSets R2=S2 at*
      refine key39 (E:=((x.shop.heads.getD h zHead).shows.getD f 0==0&&(!(decide ((S1.length:Int)>0)&&settled S1 n==0)&& !(decide ((S2.length:Int)>0)&&settled S2 n==0)))) (s:=.l1 (h:Int) ((f:Int)+1)) (r:=.r0 (h:Int) (f:Int) 0) (fun q=>.inl ⟨q,rfl⟩) (fun q=>.inr ⟨q,fun z=>.inr (lookV2 (hres z))⟩) fun G stop done=> ?_;clear hres hP hL
      have hq1:inR .i64 ((0:Int)+1)=true:=inR64 (by omega) (by omega);have hq2:inR .i64 ((1:Int)+1)=true:=inR64 (by omega) (by omega)
      cases hu:(x.shop.heads.getD h zHead).shows.getD f 0==0 with
      |false=>
       have hu':¬(x.shop.heads.getD h zHead).shows.getD f 0=0:=by simpa using hu
       rw[hu]at stop;have stop:=stop rfl;refine WP.step ?_;simp only[T39,Go,Ends',v39,Tr.sure,SS,hf2,hu',z1,z3];repeat' with_reducible first|intro _|apply aI
       all_goals first|exact stop|(simp[hr,Go,Ends',v39,-List.getD_eq_getElem?_getD, *];done)
      |true=>
       have hu':(x.shop.heads.getD h zHead).shows.getD f 0=0:=by simpa using hu
       rw[hu]at stop done
       have s2:(!(decide ((S1.length:Int)>0)&&settled S1 n==0)&& !(decide ((S2.length:Int)>0)&&settled S2 n==0))=true->WP Tryz.prog ⟨none,0⟩ (T39 x n) G (.l2 (h:Int) (f:Int) [1,2] 2):=fun q=>by
        have done:=done (by rw[q];rfl);refine WP.step ?_;simp only[T39,Go,Ends',v39,Tr.sure,SS,Int.lt_irrefl];repeat' with_reducible first|intro _|apply aI
        all_goals exact done
       have s1:(!(decide ((S1.length:Int)>0)&&settled S1 n==0))=true->WP Tryz.prog ⟨none,0⟩ (T39 x n) G (.l2 (h:Int) (f:Int) [1,2] 1):=fun q=>by
        rw[q]at stop s2;refine WP.step ?_;simp only[T39,Go,Ends',v39,Tr.sure,SS,g12_1,hR2,hS2];repeat' with_reducible first|intro _|apply aI
        all_goals first|exact k982|exact k972|exact k672|exact(by with_reducible exact hq2)|(simp[hr,Go,Ends',v39,-List.getD_eq_getElem?_getD, *];done)|(simp_all [hr,Go,Ends',v39,-List.getD_eq_getElem?_getD];done)
        all_goals first
         |(refine stop ?_;simp only[gt_iff_lt, *,decide_true,decide_false,Bool.true_and,Bool.false_and,Bool.and_true,Bool.and_false,Bool.not_true,Bool.not_false,beq_self_eq_true,Bool.not_eq_true',beq_eq_false_iff_ne,ne_eq,not_false_eq_true];done)
         |(refine s2 ?_;simp only[gt_iff_lt, *,decide_true,decide_false,Bool.true_and,Bool.false_and,Bool.and_true,Bool.and_false,Bool.not_true,Bool.not_false,beq_self_eq_true,Bool.not_eq_true',beq_eq_false_iff_ne,ne_eq,not_false_eq_true];done)
       have s0:WP Tryz.prog ⟨none,0⟩ (T39 x n) G (.l2 (h:Int) (f:Int) [1,2] 0):=by
        refine WP.step ?_;simp only[T39,Go,Ends',v39,Tr.sure,SS,g12_0,hR1,hS1];repeat' with_reducible first|intro _|apply aI
        all_goals first|exact k981|exact k971|exact k671|exact(by with_reducible exact hq1)|(simp[hr,Go,Ends',v39,-List.getD_eq_getElem?_getD, *];done)|(simp_all [hr,Go,Ends',v39,-List.getD_eq_getElem?_getD];done)|skip
        all_goals first
         |(refine stop ?_;simp only[gt_iff_lt, *,decide_true,decide_false,Bool.true_and,Bool.false_and,Bool.and_true,Bool.and_false,Bool.not_true,Bool.not_false,beq_self_eq_true,Bool.not_eq_true',beq_eq_false_iff_ne,ne_eq,not_false_eq_true];done)
         |(refine s1 ?_;simp only[gt_iff_lt, *,decide_true,decide_false,Bool.true_and,Bool.false_and,Bool.and_true,Bool.and_false,Bool.not_true,Bool.not_false,beq_self_eq_true,Bool.not_eq_true',beq_eq_false_iff_ne,ne_eq,not_false_eq_true];done)
       refine WP.step ?_;simp only[T39,Go,Ends',v39,Tr.sure,SS,hf2,hu',z1,z3];repeat' with_reducible first|intro _|apply aI
       all_goals first|exact s0|exact(VLe.lit2 _ _)|(simp[hr,Go,Ends',v39,-List.getD_eq_getElem?_getD, *];done)
     ·rw[hEl];have hge:¬((x.shop.features.toNat:Nat):Int)<(x.shop.heads.getD h zHead).shows.length:=by omega
      refine WP.once ?_;simp only[T39,Tr.sure,SS,hge,z3];repeat' with_reducible first|intro _|apply aI
      all_goals simp[hr0,hnext (find_none _ _ hJ),Go,Ends',v39,-List.getD_eq_getElem?_getD, *]
    ·have hf3:lookR x n=(⟨0,0⟩,9):=by rw[hf,hI]
     refine WP.step ?_;simp only[T39,Go,Ends',v39,Tr.sure,SS,Int.lt_irrefl];repeat' with_reducible first|intro _|apply aI
     all_goals exact(by with_reducible exact lookV2 hf3)
   refine w39 x n (WP.step ?_);simp only[T39,Go,Ends',v39,Tr.sure,SS,hset];repeat' with_reducible first|intro _|apply aI
   all_goals first|exact(c66 _ _)|exact(c63i x n)|exact(VLe.undef _)|exact(entP_le (by with_reducible assumption))|exact h67|exact hmain|(simp_all [Go,Ends',v39,-List.getD_eq_getElem?_getD];done)
  ·have hf:lookR x n=(⟨0,0⟩,2):=by unfold lookR;rw[hh2];simp[hset]
   refine w39 x n (WP.step ?_);simp only[T39,Go,Ends',v39,Tr.sure,SS];repeat' with_reducible first|intro _|apply aI
   all_goals first|exact(c66 _ _)|exact(c63i x n)|exact(VLe.undef _)|exact(entP_le (by with_reducible assumption))|exact h67|exact(by with_reducible exact lookV2 hf)|(simp_all [hset,Go,Ends',v39,-List.getD_eq_getElem?_getD];done)
 ·have hh2:holdsR x n=(0,(truthsE x (indexErr n x.claims.length)).2):=by unfold holdsR;rw[if_pos h]
  have hf:lookR x n=(⟨0,0⟩,(truthsE x (indexErr n x.claims.length)).2):=by unfold lookR;rw[hh2];simp[h]
  refine w39 x n (WP.step ?_);simp only[T39,Go,Ends',v39,Tr.sure,SS];repeat' with_reducible first|intro _|apply aI
  all_goals first|exact(c66 _ _)|exact(c63i x n)|exact(VLe.undef _)|exact(entP_le (by with_reducible assumption))|exact(by with_reducible exact lookV2 hf)|(simp_all [h,Go,Ends',v39,-List.getD_eq_getElem?_getD];done)
end
noncomputable section
def winsF(a b:Int)(q:Nat):Int:=if q=0 then a else if q=1 then b else 0
def winsOf(x:Case)(m:Int):Nat->Int:=winsF ((truths x.shop).countP (oldP x m)) ((truths x.shop).countP (newP x m))
def noWins(f:Nat->Int):Bool:=f 0==0&&(f 1==0&&true)
inductive P37
 |e
inductive R37
 |r0 (r0:Int) (r1:Int)
 |r1 (r0:Int) (r1:Int)
def T37(x:Case)(n:Int):P37->Tr P37 R37
 |.e=>let c4:=(x.shop.moulds.length:Int);let c2:=indexErr n c4;let c5:=(truthsE x c2).2;let c1:List V:=[.agg (cC x),iI n,.ref 0 0 0,.ref 1 0 0,iI 0,iI 0,court x (caseSets x),iI c5,.ref 2 0 0,uU,uU,uU,uU,uU,.agg (cC x),iI n,.ref 0 0 0,.ref 0 0 1,tMould.lst x.shop.moulds,iI c4,fG 132 [rR (iI c4),rR (iI n)],uU,uU,iI c5,iI c5,.bool ((truthsE x c2).2 !=(0:Int)),uU,court x (caseSets x),fG 139 [rR (court x (caseSets x))],uU,uU,uU,uU,uU,uU,uU,uU,uU,uU,uU,uU,uU,uU,uU,uU,uU,uU,uU,uU,uU,uU,uU,uU,uU,uU,uU,uU,uU,uU,uU,uU,uU,uU,uU,uU,uU,uU,uU,uU,uU,uU,uU,uU,uU,uU,uU,uU,uU,uU,uU,uU,uU,uU,uU,uU,uU,uU,uU,uU,uU,uU,uU,uU,uU,uU,uU,uU,uU,uU,uU,uU,uU];let c6:=winsOf x n;let c3:List Blk:=[.cells (cC x),.cells [iI n],.rows 53 1 2 (rowsFn tint c6),.obj (.deferred (some []))];let c7:V:=.tuple [entP x c2,iI c5];(.front [(6,66,[iI n,iI c4],fG 132 [rR (iI c4),rR (iI n)]),(7,63,[.agg (cC x),fG 132 [rR (iI c4),rR (iI n)]],.tuple [entP x c2,iI c5])] [] true true (.br ((truthsE x c2).2 !=(0:Int)) (.out (.r0 0 c5)) (.wait 2 (.vle 6 (entP x c2) (court x (caseSets x)) (.vle 13 c7 uU (.vle 21 c7 uU (.vle 22 (entP x c2) uU (.wait 1 (.telb 2 1 2 (fun _ j=>([iI 0]:List V).getD j uU) (rowsFn tint (fun _=>tint.zero)) (.call 94 [court x (caseSets x)] (fG 139 [rR (court x (caseSets x))]) true true (.wait 1 (.over (rangeOf Tryz.f37) ⟨c1,[.cells (cC x),.cells [iI n],.rows 53 1 2 (rowsFn tint (fun _=>tint.zero))],[]⟩ .normal ⟨c1,c3,[3]⟩ true (.sem (opAt Tryz.f37 18 2) [(.tmp 91,.arr 1 2 (rowsFn tint c6)),(.tmp 92,.agg [iI 0,iI 0])] c3 (.bool (noWins c6)) c3 true (.br (noWins c6) (.out (.r1 0 9)) (.need (decide (0<=(1:Int))&&decide ((1:Int)<(2:Int))) (.need (decide (((1:Int)).toNat<2)&&decide (0<1)) (.br ((c6 (((1:Int)).toNat))==(0:Int)) (.out (.r1 0 0)) (.need (decide (0<=(0:Int))&&decide ((0:Int)<(2:Int))) (.need (decide (((0:Int)).toNat<2)&&decide (0<1)) (.br ((c6 (((0:Int)).toNat))==(0:Int)) (.out (.r1 1 0)) (.out (.r1 2 0))))))))))))))))))))))
noncomputable def g37(x:Case)(n:Int):P37->List Item × St
 |.e=>bd Tryz.f37 [.agg (cC x),iI n] 100
def n37:R37->Exit × St
 |.r0 r0 r1=>(.ret,⟨mk 102 [(4,iI r0),(5,iI r1)],[],[]⟩)
 |.r1 r0 r1=>(.ret,⟨mk 102 [(4,iI r0),(5,iI r1)],[.gone,.gone,.gone,.obj (.deferred (some []))],[3]⟩)
def v37:R37->V
 |.r0 r0 r1=>.tuple [iI r0,iI r1]
 |.r1 r0 r1=>.tuple [iI r0,iI r1]
theorem s37(x:Case)(n:Int):Sm 0 (g37 x n) (T37 x n) (n37)
 |.e=>⟨400,by kernel_rfl⟩
theorem q37:∀r,bodyQ Tryz.prog Tryz.f37 (·=v37 r) (n37 r).1 (n37 r).2
 |.r0 r0 r1=>bq (.tuple [iI r0,iI r1]) (by kernel_rfl)
 |.r1 r0 r1=>⟨.inr rfl,by simp[n37],(.tuple [iI r0,iI r1]),(.tuple [iI r0,iI r1]),by kernel_rfl,(.imm rfl),rfl⟩
theorem w37(x:Case)(n:Int){post:V->Prop}(h:WQ (T37 x n) v37 post .e):PC 37 [.agg (cC x),iI n] post:=
 PCalls.wq Tryz.func37 (s37 x n) q37 h
inductive P37a
 |e
inductive R37a
 |r0 (r0:Nat->Int) (r1:Nat->Cast)
def T37a(x:Case)(n:Int)(w:Nat->Int)(l:Nat->Cast):P37a->Tr P37a R37a
 |.e=>(.out (.r0 w l))
noncomputable def g37a(x:Case)(n:Int)(w:Nat->Int)(l:Nat->Cast):P37a->List Item × St
 |.e=>([.code (asgOf (rangeOf Tryz.f37))],⟨[uU,uU,.cref 5 fun q=>((cC x):List V).getD q uU,rR (iI n),uU,uU,uU,uU,.ref 2 0 0,uU,uU,uU,uU,uU,uU,uU,uU,uU,uU,uU,uU,uU,uU,uU,uU,uU,uU,uU,fG 139 [rR (court x (caseSets x))],.arr 2 4 (rowsFn tCast l),uU,uU,uU,uU,uU,uU,uU,uU,uU,uU,uU,uU,uU,uU,uU,uU,uU,uU,uU,uU,uU,uU,uU,uU,uU,uU,uU,uU,uU,uU,uU,uU,uU,uU,uU,uU,uU,uU,uU,uU,uU,uU,uU,uU,uU,uU,uU,uU,uU,uU,uU,uU,uU,uU,uU,uU,uU,uU,uU,uU,uU,uU,uU,uU,uU,uU,uU,uU,uU,uU,uU,uU],[.gone,.gone,.rows 53 1 2 (rowsFn tint w)],[]⟩)
def n37a(x:Case)(n:Int)(w:Nat->Int)(l:Nat->Cast):R37a->Exit × St
 |.r0 r0 r1=>(.normal,⟨mk 102 [(2,.cref 5 fun q=>((cC x):List V).getD q uU),(3,rR (iI n)),(8,.ref 2 0 0),(9,.ref 3 0 0)],[.gone,.gone,.rows 53 1 2 (rowsFn tint r0),.rows 130 2 4 (rowsFn tCast r1)],[]⟩)
theorem s37a(x:Case)(n:Int)(w:Nat->Int)(l:Nat->Cast):Sm 3 (g37a x n w l) (T37a x n w l) (n37a x n w l)
 |.e=>⟨400,by kernel_rfl⟩
inductive P37b
 |e
 |l0 (x0_33:Int) (a0_4:Nat->Int)
inductive R37b
 |r0 (r0:Nat->Int)
def T37b(x:Case)(n:Int)(w:Nat->Int)(l:Nat->Cast):P37b->Tr P37b R37b
 |.e=>(.wait 3 (.telb 4 1 2 (fun _ j=>([iI 0]:List V).getD j uU) (rowsFn tint (fun _=>tint.zero)) (.go (.l0 0 (fun _=>tint.zero)))))
 |.l0 x0_33 a0_4=>let c1:=x.owners.getD (x0_33).toNat tint.zero;let c2:=([iI ((l ((x0_33).toNat)).number)]:List V);let c3:=decide (0<=x0_33)&&decide (x0_33<(4:Int));let c6:=decide (0<=(1:Int))&&decide ((1:Int)<(2:Int));let c7:=decide (0<=(0:Int))&&decide ((0:Int)<(2:Int));let c8:=decide (0<=c1)&&decide (c1<(2:Int));let c9:=upd a0_4 ((c1).toNat) ((l ((x0_33).toNat)).number);let c10:=x0_33+(1:Int);let c11:=decide (((1:Int)).toNat<2)&&decide (0<1);let c12:=decide (((0:Int)).toNat<2)&&decide (0<1);let c13:=(l ((x0_33).toNat)).mould==n;let c14:=decide ((x0_33).toNat<4)&&decide (1<2);let c15:=decide ((x0_33).toNat<4)&&decide (0<2);let c16:=decide ((c1).toNat<2)&&decide (0<1);let c17:=(decide ((c1).toNat<2)&&decide (0+c2.length<=1))&&underL 0 c2;let c18:=(a0_4 ((c1).toNat))==(0:Int);let c19:=((1:Int)).toNat;let c4:=(w c19)+(1:Int);let c20:=((0:Int)).toNat;let c5:=(w c20)+(1:Int);let c21:=([iI c5]:List V);let c22:=([iI c4]:List V);let c23:Tr P37b R37b:=.need (inR .i64 c10) (.go (.l0 c10 a0_4));let c24:Tr P37b R37b:=.need (inR .i64 c10) (.go (.l0 c10 c9));let c25:=x0_33<(x.owners.length:Int);(.br (decide c25) (.need (decide (0<=x0_33)&&decide c25) (.br c13 (.br c18 (.front [] [(6,true),(11,true)] ((c3&&(c15&&((c13==true)&&(c8&&(c16&&((c18==true)&&true))))))&&true) true (.lit true (.need c3 (.need c14 (.need c8 (.need c17 (.telb 4 1 2 (fun r' j=>if r'=(c1).toNat/\0<=j/\j<0+c2.length then c2.getD (j-0) uU else(rowsFn tint a0_4) r' j) (rowsFn tint c9) c24))))))) (.front [] [(6,true),(11,false)] ((c3&&(c15&&((c13==true)&&(c8&&(c16&&((c18==false)&&(c3&&(c14&&(c8&&(c16&&true))))))))))&&true) true (.br (decide ((l ((x0_33).toNat)).number<(a0_4 ((c1).toNat)))) (.need c3 (.need c14 (.need c8 (.need c17 (.telb 4 1 2 (fun r' j=>if r'=(c1).toNat/\0<=j/\j<0+c2.length then c2.getD (j-0) uU else(rowsFn tint a0_4) r' j) (rowsFn tint c9) c24))))) c23))) (.front [] [(6,false)] ((c3&&(c15&&((c13==false)&&true)))&&true) true (.lit false c23)))) (.need c7 (.need c12 (.br ((a0_4 c20)==(0:Int)) (.lit true (.out (.r0 w))) (.need c6 (.need c11 (.br ((a0_4 c19)==(0:Int)) (.out (.r0 w)) (.need c7 (.need c12 (.need c6 (.need c11 (.br (decide ((a0_4 c20)<(a0_4 c19))) (.need c7 (.need c12 (.need (inR .i64 c5) (.need c7 (.need ((decide (((0:Int)).toNat<2)&&decide (0+c21.length<=1))&&underL 0 c21) (.telb 2 1 2 (fun r' j=>if r'=((0:Int)).toNat/\0<=j/\j<0+c21.length then c21.getD (j-0) uU else(rowsFn tint w) r' j) (rowsFn tint (upd w c20 c5)) (.out (.r0 (upd w c20 c5))))))))) (.need c6 (.need c11 (.need (inR .i64 c4) (.need c6 (.need ((decide (((1:Int)).toNat<2)&&decide (0+c22.length<=1))&&underL 0 c22) (.telb 2 1 2 (fun r' j=>if r'=((1:Int)).toNat/\0<=j/\j<0+c22.length then c22.getD (j-0) uU else(rowsFn tint w) r' j) (rowsFn tint (upd w c19 c4)) (.out (.r0 (upd w c19 c4)))))))))))))))))))))
noncomputable def g37b(x:Case)(n:Int)(w:Nat->Int)(l:Nat->Cast):P37b->List Item × St
 |.e=>([.code (bdyOf (rangeOf Tryz.f37))],⟨[uU,uU,.cref 5 fun q=>((cC x):List V).getD q uU,rR (iI n),uU,uU,uU,uU,.ref 2 0 0,.ref 3 0 0,uU,uU,uU,uU,uU,uU,uU,uU,uU,uU,uU,uU,uU,uU,uU,uU,uU,uU,uU,uU,uU,uU,uU,uU,uU,uU,uU,uU,uU,uU,uU,uU,uU,uU,uU,uU,uU,uU,uU,uU,uU,uU,uU,uU,uU,uU,uU,uU,uU,uU,uU,uU,uU,uU,uU,uU,uU,uU,uU,uU,uU,uU,uU,uU,uU,uU,uU,uU,uU,uU,uU,uU,uU,uU,uU,uU,uU,uU,uU,uU,uU,uU,uU,uU,uU,uU,uU,uU,uU,uU,uU,uU],[.gone,.gone,.rows 53 1 2 (rowsFn tint w),.rows 130 2 4 (rowsFn tCast l)],[]⟩)
 |.l0 x0_33 a0_4=>((cuts [] (bdyOf (rangeOf Tryz.f37))).getD 0 [],⟨mk 102 [(3,rR (iI n)),(8,.ref 2 0 0),(9,.ref 3 0 0),(10,.ref 4 0 0),(31,tint.lst x.owners),(32,iI (x.owners.length:Int)),(33,iI x0_33)],[.gone,.gone,.rows 53 1 2 (rowsFn tint w),.rows 130 2 4 (rowsFn tCast l),.rows 53 1 2 (rowsFn tint a0_4)],[]⟩)
def n37b(x:Case)(n:Int)(w:Nat->Int)(l:Nat->Cast):R37b->Exit × St
 |.r0 r0=>(.normal,⟨mk 102 [],[.gone,.gone,.rows 53 1 2 (rowsFn tint r0)],[]⟩)
theorem s37b(x:Case)(n:Int)(w:Nat->Int)(l:Nat->Cast):Sm 3 (g37b x n w l) (T37b x n w l) (n37b x n w l)
 |.e=>⟨400,by kernel_rfl⟩
 |.l0 _ _=>⟨400,by kernel_rfl⟩
end
noncomputable section
def leastF(x:Case)(l:Nat->Cast)(m own:Int)(i:Nat)(n:Int):Int:=
 if((l i).mould==m&&(x.owners.getD i 0==own&&(n==0||decide ((l i).number<n))))=true then(l i).number else n
theorem leastF_eq(x:Case)(l:Nat->Cast)(m own:Int)(k:Nat):natF (leastF x l m own) 0 k=least x (preA l k) m own:=by
 unfold least;rw[preA_len];refine natF_congr fun i hi n=> ?_;unfold leastF leastStep;rw[preA_get l hi]
def firstF(x:Case)(l:Nat->Cast)(m:Int)(i:Nat)(q:Nat):Int:=natF (leastF x l m (q:Int)) 0 i
theorem firstF_yes{x:Case}{l:Nat->Cast}{m:Int}{i:Nat}{o:Nat}(ho:x.owners.getD i 0=(o:Int))(h1:(l i).mould=m)(h2:firstF x l m i o=0\/(l i).number<firstF x l m i o):firstF x l m (i+1)=upd (firstF x l m i) o (l i).number:=funext fun q=>by
 show leastF x l m (q:Int) i (firstF x l m i q)=_;unfold leastF upd;rw[ho];by_cases e:q=o
 ·subst e;rw[if_pos rfl,if_pos];simp only[h1,beq_self_eq_true,Bool.true_and,Bool.or_eq_true,beq_iff_eq,decide_eq_true_eq];exact h2
 ·have:¬(o:Int)=(q:Int):=by omega
  rw[if_neg e,if_neg];simp[this]
theorem firstF_no{x:Case}{l:Nat->Cast}{m:Int}{i:Nat}{o:Nat}(ho:x.owners.getD i 0=(o:Int))(h:¬(l i).mould=m\/(¬firstF x l m i o=0/\¬(l i).number<firstF x l m i o)):firstF x l m (i+1)=firstF x l m i:=funext fun q=>by
 show leastF x l m (q:Int) i (firstF x l m i q)=_;unfold leastF;rw[ho];by_cases e:q=o
 ·subst e;rw[if_neg];simp only[Bool.and_eq_true,Bool.or_eq_true,beq_iff_eq,decide_eq_true_eq];rintro⟨h1,_,h2⟩
  rcases h with h|⟨h3,h4⟩
  ·exact h h1
  ·rcases h2 with h2|h2
   ·exact h3 h2
   ·exact h4 h2
 ·have:¬(o:Int)=(q:Int):=by omega
  rw[if_neg];simp[this]
theorem toN0:Int.toNat 0=0:=rfl
theorem toN1:Int.toNat 1=1:=rfl
theorem zero37{r j:Nat}(hj:j<1):VLe (([iI 0]:List V).getD j uU) (rowsFn tint (fun _=>tint.zero) r j):=by
 obtain rfl:j=0:=by omega
 exact VLe.refl _
theorem tel_updI(f:Nat->Int)(i:Nat)(a:Int)(r j:Nat):VLe (if r=i/\0<=j/\j<0+([iI a]:List V).length then([iI a]:List V).getD (j-0) uU else rowsFn tint f r j) (rowsFn tint (upd f i a) r j):=by
 rcases Nat.lt_or_ge j 1 with hj|hj
 ·exact tel_upd tint f i a (n:=r+1) (w:=1) _ rfl rfl r j (by omega) hj
 ·have:rowsFn tint (upd f i a) r j=uU:=by
   unfold rowsFn;rw[gE,List.getElem?_eq_none (by simpa[tint]using hj)];rfl
  rw[this];exact VLe.undef _
def winsAt(x:Case)(m:Int)(k:Nat):Nat->Int:=winsF (((truths x.shop).take k).countP (oldP x m)) (((truths x.shop).take k).countP (newP x m))
def roundW(x:Case)(m:Int)(w:Nat->Int)(l:Nat->Cast):Nat->Int:=
 if firstF x l m x.owners.length 0=0\/firstF x l m x.owners.length 1=0 then w
 else if firstF x l m x.owners.length 0<firstF x l m x.owners.length 1 then upd w 0 (w 0+1)else upd w 1 (w 1+1)
abbrev H37(w:Nat->Int):List Blk:=[.gone,.gone,.rows 53 1 2 (rowsFn tint w)]
abbrev TL37(x:Case)(n:Int):List V:=[uU,uU,.cref 5 fun q=>(tCase.cells x).getD q uU,rR (iI n),uU,uU,uU,uU,.ref 2 0 0]++List.replicate 19 uU++ [fG 139 [rR (court x (caseSets x))]]++List.replicate 73 uU
set_option maxHeartbeats 1000000 in
theorem round37(x:Case)(h:OkCase x)(n:Int)(lid:Nat)(w:Nat->Int)(f:Nat->Cast)(hw:∀q,0<=w q/\w q<=100000):
  AWP Tryz.prog ⟨some lid,3⟩ (asgOf (rangeOf Tryz.f37)) ⟨setPs [29] [.arr 2 4 (rowsFn tCast f)] (TL37 x n),H37 w,[]⟩ fun e S1=>e=.normal/\noExt S1.h=true/\
   AWP Tryz.prog ⟨some lid,3⟩ (bdyOf (rangeOf Tryz.f37)) S1 fun e S2=>e=.normal/\S2.h=H37 (roundW x n w f):=by
 refine AWP.wp mx (T37a x n w f) (g37a x n w f) (n37a x n w f) .e rfl (s37a x n w f) (post:=fun r=>r=.r0 w f) ?_ (fun r hr=> ?_)
 ·refine WP.step ?_;simp only[T37a,Go,Ends',Tr.sure,SS,z5];repeat' with_reducible first|intro _|apply aI
 ·subst hr;refine⟨rfl,rfl,?_⟩;refine AWP.wp mx (T37b x n w f) (g37b x n w f) (n37b x n w f) .e rfl (s37b x n w f) (post:=fun r=>r=.r0 (roundW x n w f)) ?_ (fun r hr=>by subst hr;exact⟨rfl,rfl⟩);have ho4:x.owners.length<=4:=by have:=h.many;have:=h.shop.nh;omega
  have main:WP Tryz.prog ⟨some lid,3⟩ (T37b x n w f) (Ends' fun r=>r=.r0 (roundW x n w f)) (.l0 0 fun _=>tint.zero):=by
   refine WP.run (fun i=>.l0 (i:Int) (firstF x f n i)) rfl x.owners.length (fun i hi=> ?_) ?_
   ·have hr:inR .i64 ((i:Int)+1)=true:=inR64 (by omega) (by omega);have hi':(i:Int)<x.owners.length:=by omega
    have hi4:(i:Int)<4:=by omega
    have hi4':i<4:=by omega
    have hown:=h.own _ (getD_mem 0 x.owners i hi);obtain⟨o,ho⟩:=Int.eq_ofNat_of_zero_le hown.1;have ho2:(o:Int)<2:=by omega
    have ho2':o<2:=by omega
    have hy:=fun h1 h2=>firstF_yes (x:=x) (l:=f) (m:=n) (i:=i) ho h1 h2;have hno:=fun h1=>firstF_no (x:=x) (l:=f) (m:=n) (i:=i) ho h1;have hz:tint.zero=0:=rfl;generalize firstF x f n i=F at*
    generalize firstF x f n (i+1)=F' at*
    by_cases h1:(f i).mould=n
    ·by_cases h2:F o=0
     ·have hF:=hy h1 (.inl h2);subst hF;refine WP.once ?_;simp only[T37b,Tr.sure,SS,hi',hi4,hi4',hz,ho,ho2,ho2',h1,h2];repeat' with_reducible first|intro _|apply aI
      all_goals first|exact(tel_updI _ _ _ _ _)|exact(by with_reducible exact under_int _)|(simp[hr,Go,Ends',-List.getD_eq_getElem?_getD, *];done)
     ·by_cases h3:(f i).number<F o
      ·have hF:=hy h1 (.inr h3);subst hF;refine WP.once ?_;simp only[T37b,Tr.sure,SS,hi',hi4,hi4',hz,ho,ho2,ho2',h1,h2,h3];repeat' with_reducible first|intro _|apply aI
       all_goals first|exact(tel_updI _ _ _ _ _)|exact(by with_reducible exact under_int _)|(simp[hr,Go,Ends',-List.getD_eq_getElem?_getD, *];done)
      ·have hF:=hno (.inr ⟨h2,h3⟩);subst hF;refine WP.once ?_;simp only[T37b,Tr.sure,SS,hi',hi4,hi4',hz,ho,ho2,ho2',h1,h2,h3];repeat' with_reducible first|intro _|apply aI
       all_goals simp[hr,Go,Ends',-List.getD_eq_getElem?_getD, *]
    ·have hF:=hno (.inl h1);subst hF;refine WP.once ?_;simp only[T37b,Tr.sure,SS,hi',hi4,hi4',hz,ho,ho2,ho2',h1];repeat' with_reducible first|intro _|apply aI
     all_goals simp[hr,Go,Ends',-List.getD_eq_getElem?_getD, *]
   ·have hr0:inR .i64 (w 0+1)=true:=inR64 (by have:=hw 0;omega) (by have:=hw 0;omega);have hr1:inR .i64 (w 1+1)=true:=inR64 (by have:=hw 1;omega) (by have:=hw 1;omega);unfold roundW;generalize firstF x f n x.owners.length=F at*
    refine WP.step ?_;simp only[T37b,Go,Ends',Tr.sure,SS,Int.lt_irrefl,toN0,toN1];repeat' with_reducible first|intro _|apply aI
    all_goals first|exact(tel_updI _ _ _ _ _)|exact(by with_reducible exact under_int _)|(simp[hr0,hr1,Go,Ends',-List.getD_eq_getElem?_getD, *];done)
  refine WP.step ?_;simp only[T37b,Go,Ends',Tr.sure,SS];repeat' with_reducible first|intro _|apply aI
  all_goals first|exact main|exact(zero37 (by with_reducible assumption))
theorem winsAt_succ{x:Case}{n:Int}(h:OkCase x){k:Nat}{f:Nat->Cast}(hf:(leavesH x.shop 0 fun _=>zCast)[k]? =some f):winsAt x n (k+1)=roundW x n (winsAt x n k) f:=by
 have hk:k<(truths x.shop).length:=by rw[<-truths_A h.shop,List.length_map];exact(List.getElem?_eq_some_iff.1 hf).1
 have hg:(truths x.shop).getD k []=preA f x.shop.heads.length:=by
  rw[<-truths_A h.shop,gE,List.getElem?_map,hf];rfl
 have hm:x.owners.length=x.shop.heads.length:=h.many;have e0:firstF x f n x.owners.length 0=least x (preA f x.shop.heads.length) n 0:=by rw[hm];exact leastF_eq x f n 0 _
 have e1:firstF x f n x.owners.length 1=least x (preA f x.shop.heads.length) n 1:=by rw[hm];exact leastF_eq x f n 1 _
 unfold winsAt roundW;rw[countP_takeG (oldP x n) _ [] hk,countP_takeG (newP x n) _ [] hk,hg,e0,e1];unfold oldP newP;generalize least x (preA f x.shop.heads.length) n 0=a
 generalize least x (preA f x.shop.heads.length) n 1=b
 generalize(((truths x.shop).take k).countP fun l=>(least x l n 0 !=0&&least x l n 1 !=0)&&decide (least x l n 0<least x l n 1):Nat)=A
 generalize(((truths x.shop).take k).countP fun l=>(least x l n 0 !=0&&least x l n 1 !=0)&& !decide (least x l n 0<least x l n 1):Nat)=B
 by_cases ha:a=0
 ·simp[ha]
 ·by_cases hb:b=0
  ·simp[ha,hb]
  ·by_cases hab:a<b
   ·simp only[ha,hb,hab,or_self,if_false,if_true,bne_iff_ne,ne_eq,not_false_eq_true,decide_true,Bool.and_true,Bool.not_true,Bool.and_false,Bool.false_eq_true,Bool.and_self];rw[if_pos (by simp[ha,hb])];funext q;unfold upd winsF
    by_cases q0:q=0
    ·simp[q0]
    ·simp[q0]
   ·simp only[ha,hb,hab,or_self,if_false,bne_iff_ne,ne_eq,not_false_eq_true,decide_false,Bool.and_false,Bool.not_false,Bool.and_true,Bool.false_eq_true];rw[if_pos (by simp[ha,hb])];funext q;unfold upd winsF
    by_cases q0:q=0
    ·simp[q0]
    ·by_cases q1:q=1
     ·simp[q1]
     ·simp[q0,q1]
theorem winsAt_le(x:Case)(n:Int)(k:Nat)(hk:k<=4096)(q:Nat):0<=winsAt x n k q/\winsAt x n k q<=100000:=by
 have h1:((truths x.shop).take k).countP (oldP x n)<=k:=Nat.le_trans List.countP_le_length (by simp;omega);have h2:((truths x.shop).take k).countP (newP x n)<=k:=Nat.le_trans List.countP_le_length (by simp;omega);unfold winsAt winsF;split
 ·omega
 ·split<;>omega
theorem winsAt_0(x:Case)(n:Int):winsAt x n 0=fun _=>tint.zero:=funext fun q=>by
 show winsF 0 0 q=0;unfold winsF;split
 ·rfl
 ·split<;>rfl
theorem winsAt_end{x:Case}(h:OkCase x)(n:Int):winsAt x n (leavesH x.shop 0 fun _=>zCast).length=winsOf x n:=by
 have:(leavesH x.shop 0 fun _=>zCast).length=(truths x.shop).length:=by rw[<-truths_A h.shop,List.length_map]
 unfold winsAt winsOf;rw[this,List.take_length]
theorem TL37_other(x:Case)(n:Int)(j:Nat)(h2:j≠2)(h3:j≠3)(h8:j≠8)(h28:j≠28):(TL37 x n).getD j uU=uU:=by
 have e:TL37 x n=[uU,uU,.cref 5 fun q=>(tCase.cells x).getD q uU,rR (iI n),uU,uU,uU,uU,.ref 2 0 0]++(List.replicate 19 uU++([fG 139 [rR (court x (caseSets x))]]++List.replicate 73 uU)):=by
  unfold TL37;rw[List.append_assoc,List.append_assoc]
 rw[e];rcases Nat.lt_or_ge j 9 with q|q
 ·rcases show j=0\/j=1\/j=4\/j=5\/j=6\/j=7 by omega with e|e|e|e|e|e<;>subst e<;>rfl
 ·rw[getD_append_right (by show 9<=j;exact q)];rcases Nat.lt_or_ge (j-9) 19 with q2|q2
  ·rw[getD_append_left (by simpa using q2),gE,List.getElem?_replicate];split<;>rfl
  ·rw[getD_append_right (by simpa using q2),getD_append_right (by simp;omega),gE,List.getElem?_replicate];split<;>rfl
set_option maxHeartbeats 1000000 in
theorem range37(x:Case)(h:OkCase x)(n:Int)(t:List V)(ht:t.length=102)(h2:t.getD 2 uU=.ref 0 0 0)(h3:t.getD 3 uU=.ref 1 0 0)(h8:t.getD 8 uU=.ref 2 0 0)(h28:t.getD 28 uU=fG 139 [rR (court x (caseSets x))]):
  AWP Tryz.prog ⟨none,0⟩ (rangeOf Tryz.f37) ⟨t,[.cells (tCase.cells x),.cells [iI n],.rows 53 1 2 (rowsFn tint fun _=>tint.zero)],[]⟩
   (fun e T=>e=.normal/\T=⟨t,[.cells (tCase.cells x),.cells [iI n],.rows 53 1 2 (rowsFn tint (winsOf x n)),.obj (.deferred (some []))],[3]⟩):=by
 have e:rangeOf Tryz.f37=.rangeFunc (.tmp 28) #[29] (asgOf (rangeOf Tryz.f37)) (bdyOf (rangeOf Tryz.f37)):=by kernel_rfl
 have hlen:(leavesH x.shop 0 fun _=>zCast).length<=4096:=Nat.le_trans (leaves_len h.shop _ _ _) (by
  have:=h.shop.nh
  rcases show x.shop.heads.length=0\/x.shop.heads.length=1\/x.shop.heads.length=2\/x.shop.heads.length=3\/x.shop.heads.length=4 by omega with e|e|e|e|e<;>rw[e]<;>decide)
 rw[e]
 refine AWP.rangeF (go:=fun _=>true) (fs:=[true,true,false]) (T:=TL37 x n) (H:=fun k=>H37 (winsAt x n k)) (jx:=.ret) (jc:=.ret) (f:=139) (ys:=ysA (truthsA x.shop)) (caps:=[rR (court x (caseSets x))])
  rfl rfl rfl (by rw[ht];rfl) (fun j=> ?_) rfl rfl (PCalls.enters Tryz.func139 (c:=Tryz.f139.body.getD .skip) (by kernel_rfl) (by kernel_rfl)) (c139 x (caseSets x) h) (by show H37 (winsAt x n 0)=_;rw[winsAt_0];rfl) (fun _=>rfl) (fun _=>rfl) rfl rfl (fun lid k us hk _=> ?_) (fun i b hi=> ?_) ?_
 ·by_cases e2:j=2
  ·subst e2;right;rw[h2]
   exact .ref (n:=5) rfl (Nat.le_refl _) fun j hj=>by
    rw[Nat.zero_add];exact .imm (List.all_eq_true.1 (show(List.range 5).all (fun j=>((tCase.cells x).getD j uU).imm)=true from rfl) j (List.mem_range.2 hj))
  by_cases e3:j=3
  ·subst e3;right;rw[h3]
   exact .ref (n:=1) rfl (Nat.le_refl _) fun j hj=>by
    rw[Nat.zero_add];exact .imm (List.all_eq_true.1 (show(List.range 1).all (fun j=>(([iI n]:List V).getD j uU).imm)=true from rfl) j (List.mem_range.2 hj))
  by_cases e8:j=8
  ·subst e8;left;rw[h8];rfl
  by_cases e28:j=28
  ·subst e28;left;rw[h28];rfl
  right;rw[TL37_other x n j e2 e3 e8 e28];exact .undef _
 ·obtain⟨f,hf,hy⟩:∃f,(leavesH x.shop 0 fun _=>zCast)[k]? =some f/\yA f=.tuple us:=by
   have hk':(ysA (truthsA x.shop))[k]? =some (.tuple us):=hk;unfold ysA truthsA at hk';rw[List.getElem?_map]at hk'
   cases hf:(leavesH x.shop 0 fun _=>zCast)[k]? with
   |none=>rw[hf]at hk';cases hk'
   |some f=>rw[hf]at hk';exact⟨f,rfl,Option.some.inj hk'⟩
  obtain rfl:us=[.arr 2 4 (rowsFn tCast f)]:=by unfold yA at hy;cases hy;rfl
  refine⟨rfl,?_⟩;have hkl:=(List.getElem?_eq_some_iff.1 hf).1;have:=round37 x h n lid (winsAt x n k) f (fun q=>winsAt_le x n k (by omega) q);rw[<-winsAt_succ h hf]at this;exact this
 ·have hi':i<3:=(List.getElem?_eq_some_iff.1 hi).1;rcases show i=0\/i=1\/i=2 by omega with e|e|e<;>subst e<;>cases hi
  ·trivial
  ·trivial
  ·intro r j _ hj;obtain rfl:j=0:=by omega
   rfl
 ·refine⟨by cases(stopK (fun _=>true) 0 (ysA (truthsA x.shop)).length)<;>rfl,?_⟩;rw[stopK_all,Nat.zero_add];have:(ysA (truthsA x.shop)).length=(leavesH x.shop 0 fun _=>zCast).length:=by simp[ysA,truthsA]
  rw[this,winsAt_end h];rfl
theorem arr_cells2(f:Nat->Int):VLe (.arr 1 2 (rowsFn tint f)) (.agg [iI (f 0),iI (f 1)]):=VLe.arrAgg rfl fun j hj=>match j,hj with
 |0,_=>rfl|1,_=>rfl
inductive P63_m
 |e
inductive R63_m
 |r0 (r1:Int)
 |r1 (r0c:Case) (r0s:List Int) (r1:Int)
def T63_m(n:Int)(x:Case):P63_m->Tr P63_m R63_m
 |.e=>let c1:=indexErr n (x.shop.moulds.length:Int);let c2:=caseCheck x;(.call 16 [.agg (cC x)] (.tuple [iI (c2.1),iI (c2.2.1),iI (c2.2.2)]) true true (.br (c2.2.2 !=(0:Int)) (.out (.r0 (c2.2.2))) (.call 132 [rR (iI (x.shop.moulds.length:Int)),rR (iI n)] (iI c1) true true (.br (c1 !=(0:Int)) (.out (.r0 c1)) (.call 97 [.agg (cC x)] (court x (caseSets x)) true true (.br ((((caseSets x).length):Int)==(0:Int)) (.out (.r0 8)) (.out (.r1 x (caseSets x) 0))))))))
noncomputable def g63_m(n:Int)(x:Case):P63_m->List Item × St
 |.e=>bd Tryz.f63 [.agg (cC x),fG 132 [rR (iI (x.shop.moulds.length:Int)),rR (iI n)]] 32
def n63_m:R63_m->Exit × St
 |.r0 r1=>(.ret,⟨mk 34 [(4,.nil),(5,iI r1)],[],[]⟩)
 |.r1 r0c r0s r1=>(.ret,⟨mk 34 [(4,court r0c r0s),(5,iI r1)],[],[]⟩)
def v63_m:R63_m->V
 |.r0 r1=>.tuple [.nil,iI r1]
 |.r1 r0c r0s r1=>.tuple [court r0c r0s,iI r1]
theorem s63_m(n:Int)(x:Case):Sm 0 (g63_m n x) (T63_m n x) (n63_m)
 |.e=>⟨400,by kernel_rfl⟩
theorem q63_m:∀r,bodyQ Tryz.prog Tryz.f63 (·=v63_m r) (n63_m r).1 (n63_m r).2
 |.r0 r1=>bq (.tuple [.nil,iI r1]) (by kernel_rfl)
 |.r1 r0c r0s r1=>bq (.tuple [court r0c r0s,iI r1]) (by kernel_rfl)
theorem w63_m(n:Int)(x:Case){post:V->Prop}(h:WQ (T63_m n x) v63_m post .e):PC 63 [.agg (cC x),fG 132 [rR (iI (x.shop.moulds.length:Int)),rR (iI n)]] post:=
 PCalls.wq Tryz.func63 (s63_m n x) q63_m h
theorem c63m(x:Case)(n:Int):PC 63 [.agg (tCase.cells x),fG 132 [rR (iI (x.shop.moulds.length:Int)),rR (iI n)]] (·=.tuple [entP x (indexErr n x.shop.moulds.length),iI (truthsE x (indexErr n x.shop.moulds.length)).2]):=by
 have hw:∀v,(caseCheck x).2.2=0->v=court x (caseSets x)->PC 97 [.agg (tCase.cells x)] (·=v):=fun v h e=>e▸c97 x (okCase h);have hm:(caseCheck x).2.2=0->x.shop.moulds.length<=maxn:=fun h=>by have:=(okCase h).shop.nm;unfold maxn;omega
 refine w63_m n x (WP.step ?_);simp only[T63_m,Go,Ends',v63_m,Tr.sure,SS];repeat' with_reducible first|intro _|apply aI
 all_goals first|exact(c16 x)|exact(c132 _ n (hm (by with_reducible assumption)))|exact(hw _ (by with_reducible assumption) rfl)|(simp[entP,truthsE,Go,Ends',v63_m,-List.getD_eq_getElem?_getD, *];done)
theorem sem_eqW(h:List Blk)(f:Nat->Int):SemOK Tryz.prog (opAt Tryz.f37 18 2) [(.tmp 91,.arr 1 2 (rowsFn tint f)),(.tmp 92,.agg [iI 0,iI 0])] h (.bool (noWins f)) h:=
 sem_weak [(91,.agg [iI (f 0),iI (f 1)]),(92,.agg [iI 0,iI 0])] (fun p hp=>by
  simp only[List.mem_cons,List.not_mem_nil,or_false]at hp;rcases hp with rfl|rfl
  ·exact⟨_,by simp,arr_cells2 f⟩
  ·exact⟨_,by simp,VLe.refl _⟩) (by kernel_rfl)
set_option maxHeartbeats 2000000 in
theorem c37(x:Case)(n:Int):PC 37 [.agg (tCase.cells x),iI n] (·=.tuple [iI (olderR x n).1,iI (olderR x n).2]):=by
 by_cases h:(truthsE x (indexErr n x.shop.moulds.length)).2=0
 ·have hok:=(okOf h).1
  have hf:olderR x n=if(truths x.shop).countP (oldP x n)=0/\(truths x.shop).countP (newP x n)=0 then(0,9)
    else if(truths x.shop).countP (newP x n)=0 then(0,0)else if(truths x.shop).countP (oldP x n)=0 then(1,0)else(2,0):=by
   unfold olderR;rw[if_neg (by simp[h])]
  have w0:winsOf x n 0=((truths x.shop).countP (oldP x n):Nat):=rfl;have w1:winsOf x n 1=((truths x.shop).countP (newP x n):Nat):=rfl
  have hz:noWins (winsOf x n)=(decide ((truths x.shop).countP (oldP x n)=0)&&decide ((truths x.shop).countP (newP x n)=0)):=by
   unfold noWins;rw[w0,w1,Bool.and_true];congr 1<;>(rw[Bool.eq_iff_iff,beq_iff_eq,decide_eq_true_iff];omega)
  refine w37 x n (WP.step ?_);simp only[T37,Go,Ends',v37,Tr.sure,SS,toN0,toN1,w0,w1];repeat' with_reducible first|intro _|apply aI
  all_goals first|exact(c66 _ _)|exact(c63m x n)|exact(VLe.undef _)|exact(entP_le h)|exact(zero37 (by with_reducible assumption))|exact(c94 _ _)|exact(range37 x hok n _ rfl rfl rfl rfl rfl)|exact(sem_eqW _ _)|(simp[hf,hz,Go,Ends',v37,-List.getD_eq_getElem?_getD, *];done)|(simp_all [hf,hz,Go,Ends',v37,-List.getD_eq_getElem?_getD];done)|skip
  all_goals first
   |(rename_i e1 e2 e3 e4
     have hne:¬(truths x.shop).countP (oldP x n)=0:=fun z=>by rw[hz,z,e4]at e1;simp at e1
     rw[hf,if_neg (fun z=>hne z.1),if_pos e4])
 ·have hf:olderR x n=(0,(truthsE x (indexErr n x.shop.moulds.length)).2):=by unfold olderR;rw[if_pos h]
  refine w37 x n (WP.step ?_);simp only[T37,Go,Ends',v37,Tr.sure,SS];repeat' with_reducible first|intro _|apply aI
  all_goals first|exact(c66 _ _)|exact(c63m x n)|exact(VLe.undef _)|exact(entP_le (by with_reducible assumption))|(simp[hf,h,Go,Ends',v37,-List.getD_eq_getElem?_getD, *];done)|(simp_all [hf,h,Go,Ends',v37,-List.getD_eq_getElem?_getD];done)
end
end Go.Proofs.YtdamoemndifpmaaGreat
