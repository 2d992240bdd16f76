/-
  Part of the proof of HeadTrue. Conditions: those that stand in each theorem.
-/
import Derived.Test.YtemgodefhcbleaaGreatT801
set_option linter.unusedSimpArgs false
set_option linter.unusedVariables false
set_option maxRecDepth 100000
namespace Go.Proofs.YtemgodefhcbleaaGreat
open Ab Go
noncomputable section
def intsT(i:Nat):List Int:=(List.range i).map fun(k:Nat)=>(k:Int)
theorem intsT_succ(i:Nat):(intsT (i+1)).reverse=(i:Int)::(intsT i).reverse:=by unfold intsT;rw[List.range_succ,List.map_append,List.reverse_append];rfl
theorem tel_one{τ:Type}(E:Ty τ)(x:τ){w:Nat}{cs:List V}(hc:cs=E.cells x)(r j:Nat)(hr:r<1):VLe (litC w 1 cs r j) (rowsRev E [x] r j):=by
 obtain rfl:r=0:=by omega
 subst hc;unfold litC;simp[rowsRev];exact VLe.refl _
set_option maxHeartbeats 4000000 in
theorem wl40a(b:Book)(x:Past)(hn:b.bodies.length<=5){φ}(h:φ (.inl (.l1 (firstH b) 0 0 0 [] [firstH b]))):WP Tryz.prog ⟨none,0⟩ (T40 b x) φ .e:=by
 refine WP.step ?_;simp only[T40,Tr.sure,Go];refine WP.run (fun i=>.l0 (i:Int) (intsT i).reverse) rfl b.bodies.length (fun i hi=> ?_) ?_
 ·have hr:inR .i64 ((i:Int)+1)=true:=inR64 (by omega) (by omega);have hi':(i:Int)<b.bodies.length:=by omega
  have l1:(intsT i).reverse.length+1<=4294967296:=by simp[intsT];omega
  rw[intsT_succ];generalize(intsT i).reverse=O at*
  refine WP.once ?_;simp only[T40,Tr.sure,SS,hi'];repeat' with_reducible first|intro _|apply aI
  all_goals first|(simp[hr,l1,Go,Ends',v40,-List.getD_eq_getElem?_getD, *];done)|skip
  all_goals first
   |exact tel_one tint _ rfl _ _ (by assumption)
 ·have e:(intsT b.bodies.length).reverse.reverse=firstH b:=by rw[List.reverse_reverse];rfl
  generalize(intsT b.bodies.length).reverse=O at*
  have k1:VLe (.list 1 O.length (rowsRev tint O)) (tint.lst (firstH b)):=e▸VLe.rev tint O;refine WP.once ?_;simp only[T40,Tr.sure,SS,Int.lt_irrefl,e];repeat' with_reducible first|intro _|apply aI
  all_goals first|exact k1|(simp[h,e,Go,Ends',v40,-List.getD_eq_getElem?_getD, *];done)|skip
  all_goals first
   |exact h
   |exact tel_one (tlist tint) _ rfl _ _ (by assumption)
   |exact VLe.at (v:=.nils) (v':=tLine.lst []) VLe.nils [tBody.lst b.bodies,tstr.lst b.heads] [] _
theorem lstN(l:List Line){n:Nat}(hn:n=l.length):VLe (.list 7 n (rowsOf tLine l)) (tLine.lst l):=by subst hn;exact VLe.refl _
structure S40(b:Book)(x:Past)(t:TS)(i:Nat):Prop where
 n5:b.bodies.length<=5
 n2:2<=b.bodies.length
 i8:i<8
 ht:Turns b x i
 hl:t.hv.length=b.bodies.length
 L8:t.L.length<=8
 H8:t.H.length<=9
 d:0<=t.d/\t.d<=364
 s:0<=t.s/\t.s<=2
theorem bT_eq(b:Book)(x:Past)(i:Int)(k:Nat):bT b x i k=(((k:Int)==pT b x i)||(((k:Int)==qT b x i)||((k:Int)==cT b x i))):=rfl
set_option maxHeartbeats 8000000 in
theorem wl40c(b:Book)(x:Past)(t:TS)(i:Nat)(hS:S40 b x t i){φ}(h:φ (.inl (.l1 (sT b x t.hv i) (dT x t.d i) (t.s+1) ((i:Int)+1) (t.L++ [⟨dT x t.d i,2,0,0,0,0,setN (bT b x i) b.bodies.length b.bodies.length⟩]) (sT b x t.hv i::t.H)))):
  WP Tryz.prog ⟨none,0⟩ (T40 b x) φ (.l2 t.hv t.d t.s i t.L t.H 0 ((b.bodies.length:Int)-1)):=by
 obtain⟨hv,d,s,L,H⟩:=t;simp only at h;have h5:=hS.n5;have h2:=hS.n2;have i8:=hS.i8;have hl:hv.length=b.bodies.length:=hS.hl;have hL:L.length<=8:=hS.L8;have hH:H.length<=9:=hS.H8;have hp:=hS.ht.p;have hq:=hS.ht.q;have hb:=set_in (bT b x i) h5;refine WP.run (fun j=>.l2 hv d s i L H (setN (bT b x i) b.bodies.length j) ((b.bodies.length:Int)-1-j)) (by simp[setN]) b.bodies.length (fun j hj=> ?_) ?_
 ·have hg:(b.bodies.length:Int)-1-j≥0:=by omega
  have e:((b.bodies.length-1-j:Nat):Int)=(b.bodies.length:Int)-1-j:=by omega
  have e2:(b.bodies.length:Int)-1-((j+1:Nat):Int)=(b.bodies.length:Int)-1-j-1:=by omega
  have hs:0<=setN (bT b x i) b.bodies.length j/\setN (bT b x i) b.bodies.length j<=1000:=setN_le _ _ j (by omega);have r1:inR .i64 ((2:Int)*setN (bT b x i) b.bodies.length j)=true:=inR64 (by omega) (by omega);have r2:inR .i64 ((2:Int)*setN (bT b x i) b.bodies.length j+1)=true:=inR64 (by omega) (by omega);have r3:inR .i64 ((b.bodies.length:Int)-1-j-1)=true:=inR64 (by omega) (by omega);have en:setN (bT b x i) b.bodies.length (j+1)=2*setN (bT b x i) b.bodies.length j+(if bT b x i (b.bodies.length-1-j)=true then 1 else 0):=rfl
  rw[bT_eq,e]at en;rw[e2];generalize setN (bT b x i) b.bodies.length j=Z at*
  generalize setN (bT b x i) b.bodies.length (j+1)=Y at*
  generalize(b.bodies.length:Int)-1-j=K at*
  cases g1:(K==pT b x i)with
  |true=>
   have en':Y=2*Z+1:=by rw[en,g1];rfl
   subst en';clear en;refine WP.once ?_;simp only[T40,Tr.sure,SS,hg,g1];repeat' with_reducible first|intro _|apply aI
   all_goals simp[r1,r2,r3,Go,Ends',v40,-List.getD_eq_getElem?_getD, *]
  |false=>
   cases g2:(K==qT b x i)with
   |true=>
    have en':Y=2*Z+1:=by rw[en,g1,g2];rfl
    subst en';clear en;refine WP.once ?_;simp only[T40,Tr.sure,SS,hg,g1,g2];repeat' with_reducible first|intro _|apply aI
    all_goals simp[r1,r2,r3,Go,Ends',v40,-List.getD_eq_getElem?_getD, *]
   |false=>
    cases g3:(K==cT b x i)with
    |true=>
     have en':Y=2*Z+1:=by rw[en,g1,g2,g3];rfl
     subst en';clear en;refine WP.once ?_;simp only[T40,Tr.sure,SS,hg,g1,g2,g3];repeat' with_reducible first|intro _|apply aI
     all_goals simp[r1,r2,r3,Go,Ends',v40,-List.getD_eq_getElem?_getD, *]
    |false=>
     have en':Y=2*Z:=by rw[en,g1,g2,g3];exact Int.add_zero _
     subst en';clear en;refine WP.once ?_;simp only[T40,Tr.sure,SS,hg,g1,g2,g3];repeat' with_reducible first|intro _|apply aI
     all_goals simp[r1,r2,r3,Go,Ends',v40,-List.getD_eq_getElem?_getD, *]
 ·have e:(b.bodies.length:Int)-1-(b.bodies.length:Int)= -1:=by omega
  rw[e];generalize setN (bT b x i) b.bodies.length b.bodies.length=Z at*
  have r1:inR .i64 ((i:Int)+1)=true:=inR64 (by omega) (by omega);have sl:(sT b x hv i).length=b.bodies.length:=by simp[sT,hl]
  have s1:(hv.set (pT b x i).toNat (hT b x hv i)).length=b.bodies.length:=by simp[hl]
  have t1:=fun {r j:Nat} hr=>app_at tLine L ⟨dT x d i,2,0,0,0,0,Z⟩ (w:=7) (cs:=tLine.cells ⟨dT x d i,2,0,0,0,0,Z⟩) rfl rfl r j hr;have t2:=fun {r j:Nat} hr hj=>tel_setI hv (pT b x i).toNat (hT b x hv i) (n:=0+hv.length) (by omega) r j hr hj;have t3:=fun {r j:Nat} hr hj=>tel_setI (hv.set (pT b x i).toNat (hT b x hv i)) (qT b x i).toNat (gT b x hv i) (n:=0+hv.length) (by omega) r j hr hj;have k1:VLe (.list 1 (0+hv.length) (rowsOf tint (sT b x hv i))) (tint.lst (sT b x hv i)):=lst0 _ (by omega)
  have k2:VLe (.list 7 (L.length+1) (rowsOf tLine (L++ [⟨dT x d i,2,0,0,0,0,Z⟩]))) (tLine.lst (L++ [⟨dT x d i,2,0,0,0,0,Z⟩])):=lstN _ (by simp);refine WP.once ?_;simp only[T40,Tr.sure,SS,Int.reduceLE];repeat' with_reducible first|intro _|apply aI
  all_goals first|exact(ov40_44_7 b x L (b.bodies.length:Int) (sT b x hv i) (dT x d i) (s+1) i H (Line.mk (dT x d i) 2 0 0 0 0 Z) (by omega))|exact k1|exact k2|(simp[h,r1,hl,hL,hH,hp,hq,Go,Ends',v40,-List.getD_eq_getElem?_getD, *];done)|(simp_all [h,r1,hl,hL,hH,hp,hq,Go,Ends',v40,-List.getD_eq_getElem?_getD];done)|skip
  all_goals first
   |omega
   |exact h
   |exact VLe.app0 _ _
   |exact t1 (by assumption)
   |exact t2 (by assumption) (by assumption)
   |exact t3 (by assumption) (by assumption)
   |exact at_snoc b _ _ _
   |exact tel_one (tlist tint) _ rfl _ _ (by assumption)
   |exact scal_int _ _
   |exact(rfl:underL 0 [V.int .i64 _]=true)
set_option maxHeartbeats 16000000 in
theorem wl40s(b:Book)(x:Past)(hx:PastOk x)(t:TS)(i:Nat)(hS:S40 b x t i)(hi:(i:Int)<x.many.tmod 9){φ}(h:φ (.inl (.l1 (tellT b x t i).hv (tellT b x t i).d (tellT b x t i).s ((i:Int)+1) (tellT b x t i).L (tellT b x t i).H))):
  WP Tryz.prog ⟨none,0⟩ (T40 b x) φ (.l1 t.hv t.d t.s i t.L t.H):=by
 have h2c:=wl40c b x t i hS (φ:=φ);obtain⟨hv,d,s,L,H⟩:=t;simp only at h2c⊢;have h5:=hS.n5;have h2:=hS.n2;have i8:=hS.i8;have hl:hv.length=b.bodies.length:=hS.hl;have hL:L.length<=8:=hS.L8;have hH:H.length<=9:=hS.H8;have hd:0<=d/\d<=364:=hS.d;have hs:0<=s/\s<=2:=hS.s;have hp:=hS.ht.p;have hq:=hS.ht.q;have hc:=hS.ht.c;have hk:=hS.ht.k;have hm:=hx.many;have hi':(i:Int)<x.many.tmod (9:Int):=hi;have hn:(b.bodies.length:Int)>1:=by omega
 have n1:(b.bodies.length:Int)≠0:=by omega
 have n2:(b.bodies.length:Int)-1≠0:=by omega
 have a1:=c95 x.days i hx.days (by omega);have a2:=c95 x.deeds ((2:Int)*i) hx.deeds (by omega);have a3:=c95 x.deeds ((2:Int)*i+1) hx.deeds (by omega);have a4:=c95 x.words ((2:Int)*i+1) hx.words (by omega);have a5:=c95 x.words ((2:Int)*i+2) hx.words (by omega);have a6:=c95 x.words ((2:Int)*i) hx.words (by omega);have y1:=which_in (n:=40) (turn_in hx.days (n:=(i:Int)) (by omega)).1 (by decide);have y3:=which_in (n:=b.bodies.length-1) (turn_in hx.deeds (n:=(2:Int)*i+1) (by omega)).1 (by omega)
 have y5:=which_in (n:=b.bodies.length-1) (turn_in hx.words (n:=(2:Int)*i+2) (by omega)).1 (by omega);rw[show((b.bodies.length-1:Nat):Int)=(b.bodies.length:Int)-1 by omega]at y3 y5;rw[show((40:Nat):Int)=40 from rfl]at y1;have r0:inR .i64 x.many=true:=inR64 (by omega) (by omega);have r1:inR .i64 ((i:Int)+1)=true:=inR64 (by omega) (by omega);have r2:inR .i64 (d+(turnR x.days i).tmod (40:Int))=true:=inR64 (by omega) (by omega)
 have r3:inR .i64 ((2:Int)*i)=true:=inR64 (by omega) (by omega);have r4:inR .i64 ((2:Int)*i+1)=true:=inR64 (by omega) (by omega);have r5:inR .i64 ((2:Int)*i+2)=true:=inR64 (by omega) (by omega);have r6:inR .i64 ((b.bodies.length:Int)-1)=true:=inR64 (by omega) (by omega)
 have r7:inR .i64 (pT b x i+1)=true/\inR .i64 (cT b x i+1)=true:=⟨inR64 (by omega) (by omega),inR64 (by omega) (by omega)⟩
 have r8:inR .i64 (pT b x i+1+(turnR x.deeds ((2:Int)*i+1)).tmod ((b.bodies.length:Int)-1))=true:=inR64 (by omega) (by omega);have r9:inR .i64 (cT b x i+1+(turnR x.words ((2:Int)*i+2)).tmod ((b.bodies.length:Int)-1))=true:=inR64 (by omega) (by omega);have rs:inR .i64 (s+1)=true:=inR64 (by omega) (by omega);have t2:=fun {r j:Nat} hr hj=>tel_setI hv (pT b x i).toNat (hT b x hv i) (n:=0+hv.length) (by omega) r j hr hj
 have t3:=fun {r j:Nat} hr hj=>tel_setI (hv.set (pT b x i).toNat (hT b x hv i)) (qT b x i).toNat (gT b x hv i) (n:=0+hv.length) (by simp) r j hr hj;have k1:VLe (.list 1 (0+hv.length) (rowsOf tint (sT b x hv i))) (tint.lst (sT b x hv i)):=lst0 _ (by simp[sT]);clear y1 y3 y5 hS hm hi
 by_cases k1':kT x i=1
 ·clear h2c
  by_cases g:(cT b x i).tmod 2=1
  ·skip
   have h':φ (.inl (.l1 (sT b x hv i) (dT x d i) s ((i:Int)+1) (L++ [⟨dT x d i,1,eT b x i,cT b x i,qT b x i,pT b x i,0⟩]) ((sT b x hv i)::H))):=by simpa[tellT,nH,ownT,k1',g]using h
   have t1:=fun {r j:Nat} hr=>app_at tLine L (Line.mk (dT x d i) 1 (eT b x i) (cT b x i) (qT b x i) (pT b x i) 0) (w:=7) (cs:=tLine.cells (Line.mk (dT x d i) 1 (eT b x i) (cT b x i) (qT b x i) (pT b x i) 0)) rfl rfl r j hr;have k2:VLe (.list 7 (L.length+1) (rowsOf tLine (L++ [(Line.mk (dT x d i) 1 (eT b x i) (cT b x i) (qT b x i) (pT b x i) 0)]))) (tLine.lst (L++ [(Line.mk (dT x d i) 1 (eT b x i) (cT b x i) (qT b x i) (pT b x i) 0)])):=lstN _ (by simp)
   clear h
   refine WP.once ?_;simp only[T40,Tr.sure,SS,hi',hn,k1',g,Int.reduceLE,Int.reduceBEq,Int.reduceBNe,Int.reduceEq];repeat' with_reducible first|intro _|apply aI
   all_goals first|exact(ov40_44_7 b x L (b.bodies.length:Int) (sT b x hv i) (dT x d i) s i H (Line.mk (dT x d i) 1 (eT b x i) (cT b x i) (qT b x i) (pT b x i) 0) (by omega))|exact a1|exact a2|exact a3|exact a4|exact a5|exact a6|exact k1|exact k2|(simp[h',r0,r1,r2,r3,r4,r5,r6,r7,r8,r9,hl,hL,hH,hp,hq,n1,n2,Go,Ends',v40,-List.getD_eq_getElem?_getD, *];done)|(simp_all [h',r0,r1,r2,r3,r4,r5,r6,r7,r8,r9,hl,hL,hH,hp,hq,n1,n2,Go,Ends',v40,-List.getD_eq_getElem?_getD];done)|skip
   all_goals first
    |omega
    |exact h'
    |exact VLe.app0 _ _
    |exact t1 (by assumption)
    |exact t2 (by assumption) (by assumption)
    |exact t3 (by assumption) (by assumption)
    |exact at_snoc b _ _ _
    |exact tel_one (tlist tint) _ rfl _ _ (by assumption)
    |exact scal_int _ _
    |exact(rfl:underL 0 [V.int .i64 _]=true)
  ·skip
   have h':φ (.inl (.l1 (sT b x hv i) (dT x d i) s ((i:Int)+1) (L++ [⟨dT x d i,1,pT b x i,qT b x i,cT b x i,eT b x i,0⟩]) ((sT b x hv i)::H))):=by simpa[tellT,nH,ownT,k1',g]using h
   have t1:=fun {r j:Nat} hr=>app_at tLine L (Line.mk (dT x d i) 1 (pT b x i) (qT b x i) (cT b x i) (eT b x i) 0) (w:=7) (cs:=tLine.cells (Line.mk (dT x d i) 1 (pT b x i) (qT b x i) (cT b x i) (eT b x i) 0)) rfl rfl r j hr;have k2:VLe (.list 7 (L.length+1) (rowsOf tLine (L++ [(Line.mk (dT x d i) 1 (pT b x i) (qT b x i) (cT b x i) (eT b x i) 0)]))) (tLine.lst (L++ [(Line.mk (dT x d i) 1 (pT b x i) (qT b x i) (cT b x i) (eT b x i) 0)])):=lstN _ (by simp)
   clear h
   refine WP.once ?_;simp only[T40,Tr.sure,SS,hi',hn,k1',g,Int.reduceLE,Int.reduceBEq,Int.reduceBNe,Int.reduceEq];repeat' with_reducible first|intro _|apply aI
   all_goals first|exact(ov40_44_7 b x L (b.bodies.length:Int) (sT b x hv i) (dT x d i) s i H (Line.mk (dT x d i) 1 (pT b x i) (qT b x i) (cT b x i) (eT b x i) 0) (by omega))|exact a1|exact a2|exact a3|exact a4|exact a5|exact a6|exact k1|exact k2|(simp[h',r0,r1,r2,r3,r4,r5,r6,r7,r8,r9,hl,hL,hH,hp,hq,n1,n2,Go,Ends',v40,-List.getD_eq_getElem?_getD, *];done)|(simp_all [h',r0,r1,r2,r3,r4,r5,r6,r7,r8,r9,hl,hL,hH,hp,hq,n1,n2,Go,Ends',v40,-List.getD_eq_getElem?_getD];done)|skip
   all_goals first
    |omega
    |exact h'
    |exact VLe.app0 _ _
    |exact t1 (by assumption)
    |exact t2 (by assumption) (by assumption)
    |exact t3 (by assumption) (by assumption)
    |exact at_snoc b _ _ _
    |exact tel_one (tlist tint) _ rfl _ _ (by assumption)
    |exact scal_int _ _
    |exact(rfl:underL 0 [V.int .i64 _]=true)
 by_cases k2':kT x i=2
 ·by_cases g:s<2
  ·have h':=h2c (by simpa[tellT,nH,ownT,k2',g]using h);clear h h2c t2 t3 k1
   refine WP.step ?_;simp only[T40,Go,Ends',v40,Tr.sure,SS,hi',hn,k1',k2',g,Int.reduceLE,Int.reduceBEq,Int.reduceBNe,Int.reduceEq];repeat' with_reducible first|intro _|apply aI
   all_goals first|exact a1|exact a2|exact a3|exact a4|exact a5|exact a6|(simp[h',rs,r0,r1,r2,r3,r4,r5,r6,r7,r8,r9,n1,n2,Go,Ends',v40,-List.getD_eq_getElem?_getD, *];done)|(simp_all [h',rs,r0,r1,r2,r3,r4,r5,r6,r7,r8,r9,n1,n2,Go,Ends',v40,-List.getD_eq_getElem?_getD];done)
   all_goals first
    |omega
    |exact h'
  ·clear h2c
   have h':φ (.inl (.l1 (sT b x hv i) (dT x d i) s ((i:Int)+1) (L++ [⟨dT x d i,0,pT b x i,qT b x i,0,0,0⟩]) ((sT b x hv i)::H))):=by simpa[tellT,nH,ownT,k2',g]using h
   have t1:=fun {r j:Nat} hr=>app_at tLine L (Line.mk (dT x d i) 0 (pT b x i) (qT b x i) 0 0 0) (w:=7) (cs:=tLine.cells (Line.mk (dT x d i) 0 (pT b x i) (qT b x i) 0 0 0)) rfl rfl r j hr;have k2:VLe (.list 7 (L.length+1) (rowsOf tLine (L++ [(Line.mk (dT x d i) 0 (pT b x i) (qT b x i) 0 0 0)]))) (tLine.lst (L++ [(Line.mk (dT x d i) 0 (pT b x i) (qT b x i) 0 0 0)])):=lstN _ (by simp);clear h
   refine WP.once ?_;simp only[T40,Tr.sure,SS,hi',hn,k1',k2',g,Int.reduceLE,Int.reduceBEq,Int.reduceBNe,Int.reduceEq];repeat' with_reducible first|intro _|apply aI
   all_goals first|exact(ov40_44_7 b x L (b.bodies.length:Int) (sT b x hv i) (dT x d i) s i H (Line.mk (dT x d i) 0 (pT b x i) (qT b x i) 0 0 0) (by omega))|exact a1|exact a2|exact a3|exact a4|exact a5|exact a6|exact k1|exact k2|(simp[h',r0,r1,r2,r3,r4,r5,r6,r7,r8,r9,hl,hL,hH,hp,hq,n1,n2,Go,Ends',v40,-List.getD_eq_getElem?_getD, *];done)|(simp_all [h',r0,r1,r2,r3,r4,r5,r6,r7,r8,r9,hl,hL,hH,hp,hq,n1,n2,Go,Ends',v40,-List.getD_eq_getElem?_getD];done)|skip
   all_goals first
    |omega
    |exact h'
    |exact VLe.app0 _ _
    |exact t1 (by assumption)
    |exact t2 (by assumption) (by assumption)
    |exact t3 (by assumption) (by assumption)
    |exact at_snoc b _ _ _
    |exact tel_one (tlist tint) _ rfl _ _ (by assumption)
    |exact scal_int _ _
    |exact(rfl:underL 0 [V.int .i64 _]=true)
 clear h2c
 by_cases k3':kT x i=3
 ·skip
  have h':φ (.inl (.l1 hv (dT x d i) s ((i:Int)+1) (L++ [⟨dT x d i,3,pT b x i,gT b x hv i,0,0,0⟩]) (hv::H))):=by simpa[tellT,nH,ownT,k3']using h
  have t1:=fun {r j:Nat} hr=>app_at tLine L (Line.mk (dT x d i) 3 (pT b x i) (gT b x hv i) 0 0 0) (w:=7) (cs:=tLine.cells (Line.mk (dT x d i) 3 (pT b x i) (gT b x hv i) 0 0 0)) rfl rfl r j hr;have k2:VLe (.list 7 (L.length+1) (rowsOf tLine (L++ [(Line.mk (dT x d i) 3 (pT b x i) (gT b x hv i) 0 0 0)]))) (tLine.lst (L++ [(Line.mk (dT x d i) 3 (pT b x i) (gT b x hv i) 0 0 0)])):=lstN _ (by simp);clear h
  refine WP.once ?_;simp only[T40,Tr.sure,SS,hi',hn,k1',k2',k3',Int.reduceLE,Int.reduceBEq,Int.reduceBNe,Int.reduceEq];repeat' with_reducible first|intro _|apply aI
  all_goals first|exact(ov40_44_6 b x L (b.bodies.length:Int) hv (dT x d i) s i H (Line.mk (dT x d i) 3 (pT b x i) (gT b x hv i) 0 0 0) (by omega))|exact a1|exact a2|exact a3|exact a4|exact a5|exact a6|exact k2|(simp[h',r0,r1,r2,r3,r4,r5,r6,r7,r8,r9,hl,hL,hH,hp,hq,n1,n2,Go,Ends',v40,-List.getD_eq_getElem?_getD, *];done)|(simp_all [h',r0,r1,r2,r3,r4,r5,r6,r7,r8,r9,hl,hL,hH,hp,hq,n1,n2,Go,Ends',v40,-List.getD_eq_getElem?_getD];done)|skip
  all_goals first
   |omega
   |exact h'
   |exact VLe.app0 _ _
   |exact t1 (by assumption)
   |exact at_snoc b _ _ _
   |exact tel_one (tlist tint) _ rfl _ _ (by assumption)
   |exact scal_int _ _
   |exact(rfl:underL 0 [V.int .i64 _]=true)
 by_cases k4':kT x i=4
 ·skip
  have h':φ (.inl (.l1 hv (dT x d i) s ((i:Int)+1) (L++ [⟨dT x d i,4,pT b x i,hT b x hv i,0,0,0⟩]) (hv::H))):=by simpa[tellT,nH,ownT,k4']using h
  have t1:=fun {r j:Nat} hr=>app_at tLine L (Line.mk (dT x d i) 4 (pT b x i) (hT b x hv i) 0 0 0) (w:=7) (cs:=tLine.cells (Line.mk (dT x d i) 4 (pT b x i) (hT b x hv i) 0 0 0)) rfl rfl r j hr;have k2:VLe (.list 7 (L.length+1) (rowsOf tLine (L++ [(Line.mk (dT x d i) 4 (pT b x i) (hT b x hv i) 0 0 0)]))) (tLine.lst (L++ [(Line.mk (dT x d i) 4 (pT b x i) (hT b x hv i) 0 0 0)])):=lstN _ (by simp);clear h
  refine WP.once ?_;simp only[T40,Tr.sure,SS,hi',hn,k1',k2',k3',k4',Int.reduceLE,Int.reduceBEq,Int.reduceBNe,Int.reduceEq];repeat' with_reducible first|intro _|apply aI
  all_goals first|exact(ov40_44_6 b x L (b.bodies.length:Int) hv (dT x d i) s i H (Line.mk (dT x d i) 4 (pT b x i) (hT b x hv i) 0 0 0) (by omega))|exact a1|exact a2|exact a3|exact a4|exact a5|exact a6|exact k2|(simp[h',r0,r1,r2,r3,r4,r5,r6,r7,r8,r9,hl,hL,hH,hp,hq,n1,n2,Go,Ends',v40,-List.getD_eq_getElem?_getD, *];done)|(simp_all [h',r0,r1,r2,r3,r4,r5,r6,r7,r8,r9,hl,hL,hH,hp,hq,n1,n2,Go,Ends',v40,-List.getD_eq_getElem?_getD];done)|skip
  all_goals first
   |omega
   |exact h'
   |exact VLe.app0 _ _
   |exact t1 (by assumption)
   |exact at_snoc b _ _ _
   |exact tel_one (tlist tint) _ rfl _ _ (by assumption)
   |exact scal_int _ _
   |exact(rfl:underL 0 [V.int .i64 _]=true)
 have h':φ (.inl (.l1 (sT b x hv i) (dT x d i) s ((i:Int)+1) (L++ [⟨dT x d i,0,pT b x i,qT b x i,0,0,0⟩]) ((sT b x hv i)::H))):=by simpa[tellT,nH,ownT,k1',k2',k3',k4']using h
 have t1:=fun {r j:Nat} hr=>app_at tLine L (Line.mk (dT x d i) 0 (pT b x i) (qT b x i) 0 0 0) (w:=7) (cs:=tLine.cells (Line.mk (dT x d i) 0 (pT b x i) (qT b x i) 0 0 0)) rfl rfl r j hr;have k2:VLe (.list 7 (L.length+1) (rowsOf tLine (L++ [(Line.mk (dT x d i) 0 (pT b x i) (qT b x i) 0 0 0)]))) (tLine.lst (L++ [(Line.mk (dT x d i) 0 (pT b x i) (qT b x i) 0 0 0)])):=lstN _ (by simp);clear h
 refine WP.once ?_;simp only[T40,Tr.sure,SS,hi',hn,k1',k2',k3',k4',Int.reduceLE,Int.reduceBEq,Int.reduceBNe,Int.reduceEq];repeat' with_reducible first|intro _|apply aI
 all_goals first|exact(ov40_44_7 b x L (b.bodies.length:Int) (sT b x hv i) (dT x d i) s i H (Line.mk (dT x d i) 0 (pT b x i) (qT b x i) 0 0 0) (by omega))|exact a1|exact a2|exact a3|exact a4|exact a5|exact a6|exact k1|exact k2|(simp[h',r0,r1,r2,r3,r4,r5,r6,r7,r8,r9,hl,hL,hH,hp,hq,n1,n2,Go,Ends',v40,-List.getD_eq_getElem?_getD, *];done)|(simp_all [h',r0,r1,r2,r3,r4,r5,r6,r7,r8,r9,hl,hL,hH,hp,hq,n1,n2,Go,Ends',v40,-List.getD_eq_getElem?_getD];done)|skip
 all_goals first
  |omega
  |exact h'
  |exact VLe.app0 _ _
  |exact t1 (by assumption)
  |exact t2 (by assumption) (by assumption)
  |exact t3 (by assumption) (by assumption)
  |exact at_snoc b _ _ _
  |exact tel_one (tlist tint) _ rfl _ _ (by assumption)
  |exact scal_int _ _
  |exact(rfl:underL 0 [V.int .i64 _]=true)
theorem s40_of{b:Book}{x:Past}(hx:PastOk x)(h2:2<=b.bodies.length)(h5:b.bodies.length<=5){i:Nat}(hi:i<8):S40 b x (runT b x i) i:=by
 have h:=run_ok hx h2 h5 i;obtain⟨hs,r1,r2,-⟩:=h.run;have hl:=run0_len r2;have he:=congrArg List.length r1;rw[List.length_reverse,List.length_cons,hl,h.len]at he;exact⟨h5,h2,hi,turns_in hx h2 (by omega),(perm_get h.perm).1,by rw[h.len];omega,by omega,h.day,by have:=h.some;omega⟩
set_option maxHeartbeats 4000000 in
theorem c40(b:Book)(x:Past)(hx:PastOk x)(hb:OkBook b):PC 40 [.agg (tBook.cells b),.agg [tu8.lst x.deeds,tu8.lst x.words,tu8.lst x.days,.int .u8 x.many]] (·=.tuple [.agg (tBook.cells (toldBk b x)),(tlist tint).lst (hsT b x)]):=by
 have h5:=hb.nb;have hm:=hx.many;have hmm:=which_in (n:=9) hm.1 (by decide);rw[show((9:Nat):Int)=9 from rfl]at hmm;have r0:inR .i64 x.many=true:=inR64 (by omega) (by omega);refine w40 b x (WP.bind (wl40a b x h5 (φ:=fun y=>y=.inl (.l1 (firstH b) 0 0 0 [] [firstH b])) rfl) fun y hy=> ?_);subst hy;show WP Tryz.prog ⟨none,0⟩ (T40 b x) _ (.l1 (firstH b) 0 0 0 [] [firstH b]);by_cases h:1<b.bodies.length
 ·have e:manyT b x=(x.many.tmod 9).toNat:=if_pos h;refine WP.run (fun i=>.l1 (runT b x i).hv (runT b x i).d (runT b x i).s (i:Int) (runT b x i).L (runT b x i).H) rfl (manyT b x) (fun i hi=> ?_) ?_
  ·exact wl40s b x hx (runT b x i) i (s40_of hx (by omega) h5 (by omega)) (by omega) rfl
  ·have hz:¬((manyT b x:Nat):Int)<x.many.tmod (9:Int):=by omega
   have hv:v40 (.r0 b.bodies b.heads (runT b x (manyT b x)).L (runT b x (manyT b x)).H)=.tuple [.agg (tBook.cells (toldBk b x)),(tlist tint).lst (hsT b x)]:=rfl;refine WP.once ?_;simp only[T40,Tr.sure,SS,hz];repeat' with_reducible first|intro _|apply aI
   all_goals first|(simp[r0,hv,Go,Ends',v40,-List.getD_eq_getElem?_getD, *];done)|(simp_all [r0,hv,Go,Ends',v40,-List.getD_eq_getElem?_getD];done)
   all_goals first
    |exact hv
 ·have e:manyT b x=0:=if_neg h;have hv:v40 (.r0 b.bodies b.heads [] [firstH b])=.tuple [.agg (tBook.cells (toldBk b x)),(tlist tint).lst (hsT b x)]:=by unfold toldBk hsT;rw[e];rfl
  have hn:¬(b.bodies.length:Int)>1:=by omega
  by_cases hz:(0:Int)<x.many.tmod (9:Int)
  ·refine WP.once ?_;simp only[T40,Tr.sure,SS,hn,hz];repeat' with_reducible first|intro _|apply aI
   all_goals first|(simp[r0,hv,Go,Ends',v40,-List.getD_eq_getElem?_getD, *];done)|(simp_all [r0,hv,Go,Ends',v40,-List.getD_eq_getElem?_getD];done)
   all_goals first
    |exact hv
  ·refine WP.once ?_;simp only[T40,Tr.sure,SS,hn,hz];repeat' with_reducible first|intro _|apply aI
   all_goals first|(simp[r0,hv,Go,Ends',v40,-List.getD_eq_getElem?_getD, *];done)|(simp_all [r0,hv,Go,Ends',v40,-List.getD_eq_getElem?_getD];done)
   all_goals first
    |exact hv
end
noncomputable section
def h8(b:Book)(y:Nat->Int):Int:=(y 0).tmod (b.heads.length:Int)
def d8(y:Nat->Int):Int:=dayR (y 1)
def o8(hs:List (List Int))(H n:Int):Int:=bodyOf (hs.getD n.toNat []) H
def s8b(b:Book)(o d:Int):ByteArray:=namedR (b.bodies.getD o.toNat zBody) d
inductive P8
 |e
 |l0 (x0_13:Int) (x0_14:Int)
inductive R8
 |r0 (r0:Bool)
def T8(b:Book)(x:Past)(y:Nat->Int):P8->Tr P8 R8
 |.e=>let c1:Tr P8 R8:=.call 22 [.agg (tBook.cells b),iI 0,iI 0] (.tuple [tint.lst ((whereR b 0 0).1),iI ((whereR b 0 0).2)]) true true (.br ((whereR b 0 0).2 !=(0:Int)) (.call 21 [] (.bool true) true true (.out (.r0 true))) (.out (.r0 false)));(.call 39 [.agg (tBook.cells b)] (.bool (validR b)) true true (.br (!(validR b)) (.lit true c1) (.br ((b.bodies.length:Int)==(0:Int)) c1 (.call 40 [.agg (tBook.cells b),.agg [tu8.lst x.deeds,tu8.lst x.words,tu8.lst x.days,.int .u8 x.many]] (.tuple [.agg (tBook.cells (toldBk b x)),(tlist tint).lst (hsT b x)]) true true (.front [(9,41,[.int .u16 (y (((1:Int)).toNat))],iI (d8 y))] [] (((decide (0<=(0:Int))&&decide ((0:Int)<(2:Int)))&&((decide (((0:Int)).toNat<2)&&decide (0<1))&&((inR .i64 (y (((0:Int)).toNat)))&&((decide ((((toldBk b x).heads.length):Int)≠0))&&((decide (0<=(1:Int))&&decide ((1:Int)<(2:Int)))&&((decide (((1:Int)).toNat<2)&&decide (0<1))&&true))))))&&true) true (.go (.l0 0 0)))))))
 |.l0 x0_13 x0_14=>let c1:=toldBk b x;let c2:=o8 (hsT b x) (h8 c1 y) x0_13;let c5:=whereR c1 (h8 c1 y) (d8 y);let c6:=s8b c1 c2 (d8 y);let c3:=betweenR c1 (h8 c1 y) c6;let c7:=asR c1 (h8 c1 y) (d8 y);let c8:=everR c1 (h8 c1 y);let c9:Tr P8 R8:=.out (.r0 false);let c4:Tr P8 R8:=.lit true (.lit true (.lit true c9));let c10:=x0_14+(1:Int);let c11:=onR c1 c2 (d8 y);let c12:=tBook.cells c1;let c13:Tr P8 R8:=.call 21 [] (.bool true) true true (.out (.r0 true));let c14:Tr P8 R8:=.lit true (.lit true c4);let c15:=(c1.bodies).getD (c2).toNat tBody.zero;let c16:List V:=[.agg c12,iI (h8 c1 y),iI (d8 y)];let c17:=x0_14<((c1.lines.length):Int);let c18:List V:=[iI (c3.1.lo),iI (c3.1.hi)];let c19:Tr P8 R8:=.lit false (.lit false c9);(.br (decide c17) (.need (decide (0<=x0_14)&&decide c17) (.br (decide (((c1.lines).getD (x0_14).toNat tLine.zero).day<=(d8 y))) (.need (inR .i64 c10) (.need (inR .i64 c10) (.go (.l0 c10 c10)))) (.need (inR .i64 c10) (.go (.l0 x0_13 c10))))) (.need (decide (0<=x0_13)&&decide (x0_13<(((hsT b x).length):Int))) (.call 42 [tint.lst ((hsT b x).getD (x0_13).toNat (tlist tint).zero),iI (h8 c1 y)] (iI c2) true true (.need (decide (0<=c2)&&decide (c2<((c1.bodies.length):Int))) (.call 43 [.agg [.str (c15.name),tShown.lst (c15.shown)],iI (d8 y)] (.str c6) true true (.call 36 [.agg c12] (.tuple [tint.lst ((wrongR c1).1),iI ((wrongR c1).2)]) true true (.call 22 c16 (.tuple [tint.lst (c5.1),iI (c5.2)]) true true (.call 25 [.agg c12,iI c2,iI (d8 y)] (.tuple [tint.lst (c11.1),iI (c11.2)]) true true (.call 29 c16 (.tuple [tstr.lst (c7.1),iI (c7.2)]) true true (.call 32 [.agg c12,iI (h8 c1 y)] (.tuple [tstr.lst (c8.1),tstr.lst (c8.2.1),iI (c8.2.2)]) true true (.br ((wrongR c1).2 !=(0:Int)) (.lit true (.lit true c14)) (.br (c5.2 !=(0:Int)) (.lit true c14) (.br (c11.2 !=(0:Int)) c14 (.br (c7.2 !=(0:Int)) (.lit true c4) (.br (c8.2.2 !=(0:Int)) c4 (.br (decide ((((wrongR c1).1.length):Int)>(0:Int))) (.lit true (.lit true c9)) (.call 44 [tint.lst (c5.1),iI c2] (.bool (hasN (c5.1) c2)) true true (.br (!(hasN (c5.1) c2)) (.lit true c9) (.call 44 [tint.lst (c11.1),iI (h8 c1 y)] (.bool (hasN (c11.1) (h8 c1 y))) true true (.br (!(hasN (c11.1) (h8 c1 y))) c9 (.br (c6.toList==(ByteArray.mk #[]).toList) c13 (.call 34 [.agg c12,iI (h8 c1 y),.str c6] (.tuple [.agg c18,iI (c3.2)]) true true (.br (c3.2==(0:Int)) (.call 45 [iI (d8 y),.agg c18] (.bool (insideR (d8 y) (c3.1))) true true (.br (insideR (d8 y) (c3.1)) (.call 46 [tstr.lst (c7.1),.str c6] (iI (indexS (c7.1) c6)) true true (.br (decide ((indexS (c7.1) c6)≥(0:Int))) (.call 46 [tstr.lst (c8.2.1),.str c6] (iI (indexS (c8.2.1) c6)) true true (.br (decide ((indexS (c8.2.1) c6)≥(0:Int))) c13 c9)) (.lit false c9))) c19)) (.lit false c19))))))))))))))))))))))))
noncomputable def g8(b:Book)(x:Past)(y:Nat->Int):P8->List Item × St
 |.e=>bd Tryz.f8 [.agg (tBook.cells b),.agg [tu8.lst x.deeds,tu8.lst x.words,tu8.lst x.days,.int .u8 x.many],.arr 1 2 (rowsFn tu16 y)] 192
 |.l0 x0_13 x0_14=>(cutOf Tryz.f8 0,⟨mk 195 [(9,.ref 3 0 0),(10,(tlist tint).lst (hsT b x)),(11,iI (h8 (toldBk b x) y)),(12,iI (d8 y)),(13,iI x0_13),(14,iI x0_14)],[.gone,.gone,.gone,.cells [tBody.lst ((toldBk b x).bodies),tstr.lst ((toldBk b x).heads),tLine.lst ((toldBk b x).lines)]],[]⟩)
def n8:R8->Exit × St
 |.r0 r0=>(.ret,⟨mk 195 [(6,.bool r0)],[],[]⟩)
def v8:R8->V
 |.r0 r0=>.bool r0
theorem s8(b:Book)(x:Past)(y:Nat->Int):Sm 0 (g8 b x y) (T8 b x y) (n8)
 |.e=>⟨400,by kernel_rfl⟩
 |.l0 _ _=>⟨400,by kernel_rfl⟩
theorem q8:∀r,bodyQ Tryz.prog Tryz.f8 (·=v8 r) (n8 r).1 (n8 r).2
 |.r0 r0=>bq (.bool r0) (by kernel_rfl)
theorem w8(b:Book)(x:Past)(y:Nat->Int){post:V->Prop}(h:WQ (T8 b x y) v8 post .e):PC 8 [.agg (tBook.cells b),.agg [tu8.lst x.deeds,tu8.lst x.words,tu8.lst x.days,.int .u8 x.many],.arr 1 2 (rowsFn tu16 y)] post:=
 PCalls.wq Tryz.func8 (s8 b x y) q8 h
theorem true_law{b:Book}{hs:List (List Int)}(hok:OkBook b)(ht:∃t∈truthsR b [],t.haves=hs){H d:Int}(hH:0<=H/\H<b.bodies.length)(hd:0<=d/\d<=364):
  (0<=o8 hs H (lineN b d)/\o8 hs H (lineN b d)<b.bodies.length)/\wrongR b=([],0)/\(whereR b H d).2=0/\(onR b (o8 hs H (lineN b d)) d).2=0/\(asR b H d).2=0/\(everR b H).2.2=0/\
  hasN (whereR b H d).1 (o8 hs H (lineN b d))=true/\hasN (onR b (o8 hs H (lineN b d)) d).1 H=true/\
  (s8b b (o8 hs H (lineN b d)) d=ByteArray.empty\/s8b b (o8 hs H (lineN b d)) d≠ByteArray.empty/\(betweenR b H (s8b b (o8 hs H (lineN b d)) d)).2=0/\insideR d (betweenR b H (s8b b (o8 hs H (lineN b d)) d)).1=true/\
   0<=indexS (asR b H d).1 (s8b b (o8 hs H (lineN b d)) d)/\0<=indexS (everR b H).2.1 (s8b b (o8 hs H (lineN b d)) d))/\(asR b H d).1.length<=15/\(everR b H).2.1.length<=15/\(b.bodies.getD (o8 hs H (lineN b d)).toNat zBody).shown.length<=3:=by
 obtain⟨t,ht,rfl⟩:=ht;have hpos:0<(truthsR b []).length:=List.length_pos_of_mem ht;have e0:o8 t.haves H (lineN b d)=bodyOf (atR b t d) H:=rfl;have es:s8b b (o8 t.haves H (lineN b d)) d=seenR b t H d:=rfl;rw[es,e0];obtain⟨k1,k2,k3⟩:=head_in hok ht d hH
 have hO:0<=bodyOf (atR b t d) H/\bodyOf (atR b t d) H<b.bodies.length:=⟨k2,by omega⟩
 generalize bodyOf (atR b t d) H=o at*
 have z1:=told_zero hok (one_in hH) hd hpos;have z2:=told_zero hok (one_in hO) hd hpos;have z3:=told_zero hok (one_in hH) (by decide:(0:Int)<=0/\(0:Int)<=364) hpos;obtain⟨w1,w2⟩:=wrong_first hok;have hcan:canR b []=true:=decide_eq_true hpos
 have hnil:(wrongR b).1=[]:=by
  rcases w1.least [] ((picks_ok _ _ _).2 ⟨rfl,List.Pairwise.nil,fun x hx=>absurd hx List.not_mem_nil,fun x hx=>absurd hx List.not_mem_nil⟩) (Nat.zero_le _) hcan with z|⟨z,-⟩
  ·exact absurd z (Nat.not_lt_zero _)
  ·exact List.eq_nil_of_length_eq_zero z
 have hany:∀i:Nat,∀h:Int,(atR b t d).getD i 0=h->anyT b d (truthsR b []) i h=true:=fun i h e=>by
  unfold anyT;rw[List.any_eq_true];exact⟨t,ht,by rw[e];simp⟩
 have hnh:=hok.nh
 have hsh:(b.bodies.getD o.toNat zBody).shown.length<=3:=by
  have:=hok.body o.toNat k1;unfold bodyAt at this;split at this
  ·contradiction
  ·unfold shownErr at this;split at this
   ·cases this
   ·omega
 refine⟨hO,Prod.ext hnil w2,by rw[where_is z1],by rw[on_is z2],by rw[as_is z1],by rw[ever_is z3],?_,?_,?_,by rw[as_is z1];exact names_len hok _,by rw[ever_is z3];exact names_len hok _,hsh⟩
 ·rw[hasN_iff,where_is z1,mem_filtR];exact⟨o.toNat,k1,hany _ _ k3,by omega⟩
 ·rw[hasN_iff,on_is z2,mem_filtR];refine⟨H.toNat,by omega,hany _ _ ?_,by omega⟩;rw[k3];omega
 ·by_cases hs:seenR b t H d=ByteArray.empty
  ·exact .inl hs
  ·right
   have hp:=seen_person hs;have hn:=person_name hok hp;obtain⟨b1,b2,-,-,-,-,-,b3⟩:=between_may hok hH z3 hn ht (sees_at hd);refine⟨hs,b1,?_,index_mem.2 ((mem_as z1).2 ⟨hp,t,ht,rfl⟩),index_mem.2 ((mem_may hok z3 hH).2 ⟨hp,t,ht,sees_at hd⟩)⟩;rw[b2];exact within_iff.2 (b3 d hd (anyS_iff.2 ⟨t,ht,rfl⟩))
def lineF(b:Book)(d:Int)(i:Nat):Int:=natF (fun i n=>if(b.lines.getD i zLine).day<=d then(i:Int)+1 else n) 0 i
theorem lineF_in(b:Book)(d:Int):∀i:Nat,0<=lineF b d i/\lineF b d i<=i
 |0=>⟨Int.le_refl 0,Int.le_refl 0⟩
 |i+1=>by
  have:=lineF_in b d i;have e:lineF b d (i+1)=if(b.lines.getD i zLine).day<=d then(i:Int)+1 else lineF b d i:=rfl
  rw[e];split<;>omega
theorem str_ne{s:ByteArray}(h:s≠ByteArray.empty):(s.toList==(ByteArray.mk #[]).toList)=false:=by rw[isEmpty_eq];simpa using h
set_option maxHeartbeats 8000000 in
theorem wl8(b:Book)(x:Past)(y:Nat->Int)(hx:PastOk x)(hy:∀i,i<2->0<=y i/\y i<=65535)(hok:OkBook b)(h0:b.bodies.length≠0):WP Tryz.prog ⟨none,0⟩ (T8 b x y) (Ends' fun r=>v8 r=.bool true) (.l0 0 0):=by
 have y0:=hy 0 (by omega);have y1:=hy 1 (by omega);obtain⟨hk,ht⟩:=toldT_ok hx hok
 have hll:(hsT b x).length=(toldBk b x).lines.length+1:=by
  obtain⟨t,t1,t2⟩:=ht;obtain⟨hs,e,r⟩:=truth_hs hk t1;rw[<-t2,e,List.length_cons,run0_len r]
 have hnl:=hk.nl;have hnh:(toldBk b x).heads.length=(toldBk b x).bodies.length:=hk.nh;have hb0:(toldBk b x).bodies.length=b.bodies.length:=rfl
 have hH:0<=h8 (toldBk b x) y/\h8 (toldBk b x) y<(toldBk b x).bodies.length:=by
  unfold h8;rw[hnh];exact which_in y0.1 (by omega)
 have hD:0<=d8 y/\d8 y<=364:=day_in y1.1;have tl:=true_law hk ht hH hD;refine WP.run (fun i=>.l0 (lineF (toldBk b x) (d8 y) i) (i:Int)) rfl (toldBk b x).lines.length (fun i hi=> ?_) ?_
 ·have hr:inR .i64 ((i:Int)+1)=true:=inR64 (by omega) (by omega);have hi':(i:Int)<(toldBk b x).lines.length:=by omega
  have e:lineF (toldBk b x) (d8 y) (i+1)=if((toldBk b x).lines.getD i zLine).day<=d8 y then(i:Int)+1 else lineF (toldBk b x) (d8 y) i:=rfl
  have hz:tLine.zero=zLine:=rfl;rw[e];clear tl e
  generalize lineF (toldBk b x) (d8 y) i=Z at*
  by_cases g:((toldBk b x).lines.getD i zLine).day<=d8 y
  ·rw[if_pos g];refine WP.once ?_;simp only[T8,Tr.sure,SS,hi',hz,g,Int.toNat_natCast];repeat' with_reducible first|intro _|apply aI
   all_goals simp[hr,Go,Ends',v8,-List.getD_eq_getElem?_getD, *]
  ·rw[if_neg g];refine WP.once ?_;simp only[T8,Tr.sure,SS,hi',hz,g,Int.toNat_natCast];repeat' with_reducible first|intro _|apply aI
   all_goals simp[hr,Go,Ends',v8,-List.getD_eq_getElem?_getD, *]
 ·have hN:=lineF_in (toldBk b x) (d8 y) (toldBk b x).lines.length;have eN:lineF (toldBk b x) (d8 y) (toldBk b x).lines.length=lineN (toldBk b x) (d8 y):=rfl;rw[eN]at hN;rw[eN];have ho:bodyOf ((hsT b x).getD (lineN (toldBk b x) (d8 y)).toNat []) (h8 (toldBk b x) y)=o8 (hsT b x) (h8 (toldBk b x) y) (lineN (toldBk b x) (d8 y)):=rfl;have hzt:(tlist tint).zero=([]:List Int):=rfl;have hzb:tBody.zero=zBody:=rfl
  have hs8:namedR ((toldBk b x).bodies.getD (o8 (hsT b x) (h8 (toldBk b x) y) (lineN (toldBk b x) (d8 y))).toNat zBody) (d8 y)=s8b (toldBk b x) (o8 (hsT b x) (h8 (toldBk b x) y) (lineN (toldBk b x) (d8 y))) (d8 y):=rfl;generalize lineN (toldBk b x) (d8 y)=N at*
  have k42:=c42 ((hsT b x).getD N.toNat []) (h8 (toldBk b x) y);rw[ho]at k42;clear ho ht
  generalize hoE:o8 (hsT b x) (h8 (toldBk b x) y) N=o at*
  obtain⟨t1,t2,t3,t4,t5,t6,t7,t8,t9,t10,t11,t12⟩:=tl;have k43:=c43 ((toldBk b x).bodies.getD o.toNat zBody) (d8 y) t12;rw[hs8]at k43;clear hs8
  generalize hsE:s8b (toldBk b x) o (d8 y)=s at*
  have k36:=c36 (toldBk b x);have k22:=c22 (toldBk b x) (h8 (toldBk b x) y) (d8 y);have k25:=c25 (toldBk b x) o (d8 y);have k29:=c29 (toldBk b x) (h8 (toldBk b x) y) (d8 y);have k32:=c32 (toldBk b x) (h8 (toldBk b x) y);have k34:=c34 (toldBk b x) (h8 (toldBk b x) y) s;have k44a:=c44 (whereR (toldBk b x) (h8 (toldBk b x) y) (d8 y)).1 o;have k44b:=c44 (onR (toldBk b x) o (d8 y)).1 (h8 (toldBk b x) y)
  have k46a:=c46 (asR (toldBk b x) (h8 (toldBk b x) y) (d8 y)).1 s (by omega);have k46b:=c46 (everR (toldBk b x) (h8 (toldBk b x) y)).2.1 s (by omega);have k45:=c45i (d8 y) (betweenR (toldBk b x) (h8 (toldBk b x) y) s).1;rw[t7]at k44a;rw[t8]at k44b;have g1:0<=N:=hN.1;have g2:N<(hsT b x).length:=by omega
  rcases t9 with u0|⟨u1,u2,u3,u4,u5⟩
  ·subst u0;have hE:(ByteArray.empty.toList==(ByteArray.mk #[]).toList)=true:=by rw[isEmpty_eq];rfl
   refine WP.once ?_;simp only[T8,Tr.sure,SS,Int.lt_irrefl,hzt,hzb,hoE,hsE,t2,t3,t4,t5,t6,t7,t8,hE];repeat' with_reducible first|intro _|apply aI
   all_goals first|exact k42|exact k43|exact k44a|exact k44b|exact c21|(simp[g1,g2,t1,Go,Ends',v8,-List.getD_eq_getElem?_getD, *];done)|(simp_all [g1,g2,t1,Go,Ends',v8,-List.getD_eq_getElem?_getD];done)
  ·have hE:=str_ne u1;rw[u3]at k45;rw[u2]at k34;refine WP.once ?_;simp only[T8,Tr.sure,SS,Int.lt_irrefl,hzt,hzb,hoE,hsE,t2,t3,t4,t5,t6,t7,t8,hE,u2,u3,u4,u5];repeat' with_reducible first|intro _|apply aI
   all_goals first|exact k42|exact k43|exact k34|exact k45|exact k44a|exact k44b|exact k46a|exact k46b|exact c21|(simp[g1,g2,t1,Go,Ends',v8,-List.getD_eq_getElem?_getD, *];done)|(simp_all [g1,g2,t1,Go,Ends',v8,-List.getD_eq_getElem?_getD];done)
theorem c8(b:Book)(x:Past)(y:Nat->Int)(hx:PastOk x)(hy:∀i,i<2->0<=y i/\y i<=65535):PC 8 [.agg (tBook.cells b),.agg [tu8.lst x.deeds,tu8.lst x.words,tu8.lst x.days,.int .u8 x.many],.arr 1 2 (rowsFn tu16 y)] (·=.bool true):=by
 have y0:=hy 0 (by omega);have y1:=hy 1 (by omega);have r0:inR .i64 (y 0)=true:=inR64 (by omega) (by omega);have r1:inR .i64 (y 1)=true:=inR64 (by omega) (by omega);have k39:=c39 b;have k22:=c22 b 0 0;by_cases hv:validR b=true
 ·have hok:=valid_ok hv;rw[hv]at k39;by_cases hz:b.bodies.length=0
  ·have hz':((b.bodies.length:Int)==0)=true:=by simp[hz]
   have w:=told_bad (b:=b) (n:=0) (d:=0) (by omega);rw[where_bad w]at k22;have w2:(whereR b 0 0).2≠0:=by rw[where_bad w];exact w
   refine w8 b x y (WP.step ?_);simp only[T8,Go,Ends',v8,Tr.sure,SS,hv,hz',where_bad w];repeat' with_reducible first|intro _|apply aI
   all_goals first|exact k39|exact k22|exact c21|(simp_all [w,w2,Go,Ends',v8,-List.getD_eq_getElem?_getD];done)
  ·have hz':((b.bodies.length:Int)==0)=false:=beq_eq_false_iff_ne.2 (by omega);have k40:=c40 b x hx hok;have k41:PC 41 [.int .u16 (y 1)] (·=iI (d8 y)):=c41 (y 1) r1;have hmain:=wl8 b x y hx hy hok hz
   have hnh:((toldBk b x).heads.length:Int)≠0:=by
    have:=hok.nh;have e:(toldBk b x).heads.length=b.heads.length:=rfl;omega
   refine w8 b x y (WP.step ?_);simp only[T8,Go,Ends',v8,Tr.sure,SS,hv,hz',i0,i1];repeat' with_reducible first|intro _|apply aI
   all_goals first|exact k39|exact k40|exact k41|exact hmain|(simp[r0,r1,hnh,Go,Ends',v8,-List.getD_eq_getElem?_getD, *];done)|(simp_all [r0,r1,hnh,Go,Ends',v8,-List.getD_eq_getElem?_getD];done)
 ·have hv':validR b=false:=by simpa using hv
  rw[hv']at k39;have w:=told_bad (b:=b) (n:=0) (d:=0) (by simp[hv']);rw[where_bad w]at k22;refine w8 b x y (WP.step ?_);simp only[T8,Go,Ends',v8,Tr.sure,SS,hv',where_bad w];repeat' with_reducible first|intro _|apply aI
  all_goals first|exact k39|exact k22|exact c21|(simp_all [w,Go,Ends',v8,-List.getD_eq_getElem?_getD];done)
end
end Go.Proofs.YtemgodefhcbleaaGreat
