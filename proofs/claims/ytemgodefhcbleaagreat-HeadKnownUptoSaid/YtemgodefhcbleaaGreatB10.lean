/-
  Part of the proof of the Head laws. Conditions: those that stand in each theorem.
-/
import Derived.Test.YtemgodefhcbleaaGreatB09
set_option linter.unusedSimpArgs false
set_option linter.unusedVariables false
set_option maxRecDepth 100000
namespace Go.Proofs.YtemgodefhcbleaaGreat
open Ab Go
noncomputable section
def errQ(b:Book)(i:Nat)(x:Line)(m:Int):Int × Int:=
 if !within x.day 0 364 then(7,m)else if 0<i∧x.day<(b.lines.getD (i-1) zLine).day then(2,m)else if !within x.kind 0 4 then(7,m)
 else if fieldsErr b x≠0 then(fieldsErr b x,m)else if x.kind=2 then(if 2<m+1 then 3 else 0,m+1)else(0,m)
def errQx(b:Book)(i:Int)(x:Line)(m:Int):Int × Int:=errQ b i.toNat x m
inductive P69
 |e
inductive R69
 |r0 (r0:Int) (r1:Int)
noncomputable def T69(mm:Int)(i:Int)(x:Line)(b:Book):P69→Tr P69 R69
 |.e=>let c1:Tr P69 R69:=.call 64 [iI 0,iI 4,.list 1 1 (litC 1 1 [iI x.kind])] (.bool (!within x.kind 0 4)) ((decide (1≤1))&&true) true (.br (!within x.kind 0 4) (.out (.r0 mm 7)) (.call 70 [iI (b.bodies.length:Int),.agg [iI x.day,iI x.kind,iI x.a,iI x.b,iI x.c,iI x.d,iI x.set]] (iI (fieldsErr b x)) true true (.br ((fieldsErr b x) !=(0:Int)) (.lit true (.out (.r0 mm (fieldsErr b x)))) (.br (x.kind !=(2:Int)) (.out (.r0 mm (fieldsErr b x))) (.need (inR .i64 (mm+(1:Int))) (.br (decide ((mm+(1:Int))>(2:Int))) (.out (.r0 (mm+(1:Int)) 3)) (.out (.r0 (mm+(1:Int)) 0))))))));let c2:=decide (i>(0:Int));let c3:=i-(1:Int);(.call 64 [iI 0,iI 364,.list 1 1 (litC 1 1 [iI x.day])] (.bool (!within x.day 0 364)) ((decide (1≤1))&&true) true (.br (!within x.day 0 364) (.out (.r0 mm 7)) (.br c2 (.front [] [(2,true)] (((c2==true)&&((inR .i64 c3)&&((decide (0≤c3)&&decide (c3<(b.lines.length:Int)))&&true)))&&true) true (.br (decide (x.day<(b.lines.getD (c3).toNat tLine.zero).day)) (.out (.r0 mm 2)) c1)) (.front [] [(2,false)] (((c2==false)&&true)&&true) true (.lit false c1)))))
noncomputable def g69(mm:Int)(i:Int)(x:Line)(b:Book):P69→List Item × St
 |.e=>([.code (Tryz.f69.body.getD .skip)],⟨[iI i,.agg [iI x.day,iI x.kind,iI x.a,iI x.b,iI x.c,iI x.d,iI x.set],.cref 3 fun q=>((cC b):List V).getD q uU,.ref 0 0 0]++List.replicate 46 uU,[.cells [iI mm]],[]⟩)
noncomputable def n69(mm:Int):R69→Exit × St
 |.r0 r0 r1=>(.ret,⟨mk 50 [(6,iI r1)],[.cells [iI r0]],[]⟩)
theorem s69(mm:Int)(i:Int)(x:Line)(b:Book):Sm 1 (g69 mm i x b) (T69 mm i x b) (n69 mm)
 |.e=>⟨400,by kernel_rfl⟩
noncomputable def hh69(mm:Int):R69→List Blk
 |.r0 r0 r1=>[.cells [iI r0]]
noncomputable def v69(mm:Int):R69→V
 |.r0 r0 r1=>iI r1
theorem q69(mm:Int):∀r,((n69 mm r).1=.normal∨(n69 mm r).1=.ret)∧(n69 mm r).2.d=[]∧(n69 mm r).2.h=hh69 mm r∧resultV Tryz.prog Tryz.f69 (n69 mm r).2=some (v69 mm r)
 |.r0 r0 r1=>⟨.inr rfl,rfl,rfl,by kernel_rfl⟩
theorem w69(mm:Int)(i:Int)(x:Line)(b:Book){V0:V}{h':List Blk}(h:WP Tryz.prog ⟨none,1⟩ (T69 mm i x b) (Ends' fun r=>v69 mm r=V0∧hh69 mm r=h') .e):HCalls Tryz.prog 69 [iI i,.agg [iI x.day,iI x.kind,iI x.a,iI x.b,iI x.c,iI x.d,iI x.set],.cref 3 fun q=>((cC b):List V).getD q uU,.ref 0 0 0] V0 [.cells [iI mm]] h':=
 HCalls.wp mx Tryz.func69 (by kernel_rfl) (by kernel_rfl) (T69 mm i x b) (g69 mm i x b) (n69 mm) .e rfl (s69 mm i x b) h fun r hr=>by rw[←hr.1,←hr.2];exact q69 mm r
set_option maxHeartbeats 4000000 in
theorem c69(b:Book)(i:Nat)(x:Line)(m:Int)(h:b.bodies.length≤5)(hi:i<b.lines.length)(hl:b.lines.length≤8)(hm:0≤m∧m≤8):
  HCalls Tryz.prog 69 [iI (i:Int),.agg (tLine.cells x),cB b,.ref 0 0 0] (iI (errQ b i x m).1) [.cells [iI m]] [.cells [iI (errQ b i x m).2]]:=by
 have k64:=c64l 0 364 x.day (c:=litC 1 1 [iI x.day]) rfl
 have k64b:=c64l 0 4 x.kind (c:=litC 1 1 [iI x.kind]) rfl
 have k70:=fun hk=>c70 b x hk h
 have hr:inR .i64 (m+1)=true:=inR64 (by omega) (by omega)
 have hr2:(0:Int)<i→inR .i64 ((i:Int)-1)=true:=fun _=>inR64 (by omega) (by omega)
 have h02:(0:Int)<i→(0:Int)≤(i:Int)-1:=fun _=>by omega
 have h03:(i:Int)-1<b.lines.length:=by omega
 have hn:((i:Int)-1).toNat=i-1:=by omega
 by_cases g0:(0:Int)<i
 ·have q1:=hr2 g0
  have q2:=h02 g0
  have e:errQ b i x m=if !within x.day 0 364 then(7,m)else if x.day<(b.lines.getD (i-1) zLine).day then(2,m)else if !within x.kind 0 4 then(7,m)
    else if fieldsErr b x≠0 then(fieldsErr b x,m)else if x.kind=2 then(if 2<m+1 then 3 else 0,m+1)else(0,m):=by
   unfold errQ;simp only[show 0<i by omega,true_and]
  generalize hp:(b.lines.getD (i-1) zLine).day=pd at*
  generalize errQ b i x m=Z at*
  by_cases gk:within x.kind 0 4=true
  ·have k70':=k70 (within_iff.1 gk)
   refine w69 _ _ _ _ (WP.step ?_)
   simp only[T69,Go,Ends',v69,Tr.sure,SS,g0,hn,z5,gk,hp]
   repeat' with_reducible first|intro _|apply And.intro
   all_goals first|exact k64|exact k70'|(simp[hh69,hr,q1,q2,h03,e,gk,Go,Ends',v69,-List.getD_eq_getElem?_getD, *];done)|(simp_all [hh69,hr,q1,q2,h03,e,gk,Go,Ends',v69,-List.getD_eq_getElem?_getD];done)
  ·refine w69 _ _ _ _ (WP.step ?_)
   simp only[T69,Go,Ends',v69,Tr.sure,SS,g0,hn,z5,gk,hp]
   repeat' with_reducible first|intro _|apply And.intro
   all_goals first|exact k64|(simp[hh69,q1,q2,h03,e,gk,Go,Ends',v69,-List.getD_eq_getElem?_getD, *];done)|(simp_all [hh69,q1,q2,h03,e,gk,Go,Ends',v69,-List.getD_eq_getElem?_getD];done)
 ·have e:errQ b i x m=if !within x.day 0 364 then(7,m)else if !within x.kind 0 4 then(7,m)
    else if fieldsErr b x≠0 then(fieldsErr b x,m)else if x.kind=2 then(if 2<m+1 then 3 else 0,m+1)else(0,m):=by
   unfold errQ;simp only[show¬0<i by omega,false_and,if_false]
  generalize errQ b i x m=Z at*
  by_cases gk:within x.kind 0 4=true
  ·have k70':=k70 (within_iff.1 gk)
   refine w69 _ _ _ _ (WP.step ?_)
   simp only[T69,Go,Ends',v69,Tr.sure,SS,g0,z5,gk]
   repeat' with_reducible first|intro _|apply And.intro
   all_goals first|exact k64|exact k70'|(simp[hh69,hr,e,gk,Go,Ends',v69,-List.getD_eq_getElem?_getD, *];done)|(simp_all [hh69,hr,e,gk,Go,Ends',v69,-List.getD_eq_getElem?_getD];done)
  ·refine w69 _ _ _ _ (WP.step ?_)
   simp only[T69,Go,Ends',v69,Tr.sure,SS,g0,z5,gk]
   repeat' with_reducible first|intro _|apply And.intro
   all_goals first|exact k64|(simp[hh69,e,gk,Go,Ends',v69,-List.getD_eq_getElem?_getD, *];done)|(simp_all [hh69,e,gk,Go,Ends',v69,-List.getD_eq_getElem?_getD];done)
def manyEnd(b:Book):Int:=match firstE (lineErr b) 0 b.lines with|some (i,_)=>(errQ b i (b.lines.getD i zLine) (someTo b.lines i)).2|none=>someTo b.lines b.lines.length
theorem errQ_line(b:Book)(i:Nat):(errQ b i (b.lines.getD i zLine) (someTo b.lines i)).1=lineErr b i (b.lines.getD i zLine)∧(lineErr b i (b.lines.getD i zLine)=0→(errQ b i (b.lines.getD i zLine) (someTo b.lines i)).2=someTo b.lines (i+1)):=by
 have e1:someTo b.lines (i+1)=if(b.lines.getD i zLine).kind=2 then someTo b.lines i+1 else someTo b.lines i:=rfl
 unfold errQ lineErr
 rw[e1]
 split
 ·exact⟨rfl,fun h=>by cases h⟩
 split
 ·exact⟨rfl,fun h=>by cases h⟩
 split
 ·exact⟨rfl,fun h=>by cases h⟩
 split
 ·rename_i h;exact⟨rfl,fun h'=>absurd h' h⟩
 split
 ·rename_i hk
  simp only[hk,if_true,true_and]
  exact fun _=>trivial
 ·rename_i hk
  simp only[hk,if_false,false_and]
  exact⟨trivial,fun _=>trivial⟩
theorem c69at(b:Book)(i:Nat)(x:Line)(m:Int)(rest:List Blk)(h:b.bodies.length≤5)(hi:i<b.lines.length)(hl:b.lines.length≤8)(hm:0≤m∧m≤8):
  HCalls Tryz.prog 69 [iI (i:Int),.agg (tLine.cells x),cB b,.ref 1 0 0] (iI (errQ b i x m).1) (.gone::.cells [iI m]::rest) (.gone::.cells [iI (errQ b i x m).2]::rest):=
 (c69 b i x m h hi hl hm).at (fun j=>match j with
  |0=>.inr rfl
  |1=>.inr rfl
  |2=>.inr rfl
  |3=>.inl ⟨0,0,rfl⟩
  |j+4=>.inr rfl) rfl rfl rfl (h:=.gone::.cells [iI m]::rest) (i:=1) rfl
inductive P68
 |e
 |l0 (x0_11:Int) (c0_1_0:Int)
inductive R68
 |r0 (r0:Int) (r1:Int) (r2:Int)
noncomputable def T68(b:Book):P68→Tr P68 R68
 |.e=>(.go (.l0 0 0))
 |.l0 x0_11 c0_1_0=>let c1:=b.lines.getD (x0_11).toNat tLine.zero;let c2:List V:=[iI (c1.day),iI (c1.kind),iI (c1.a),iI (c1.b),iI (c1.c),iI (c1.d),iI (c1.set)];let c3:=errQx b x0_11 c1 c0_1_0;let c4:=x0_11<(b.lines.length:Int);(.br (decide c4) (.need (decide (0≤x0_11)&&decide c4) (.hcall 69 [iI x0_11,.agg c2,.cref 3 fun q=>((cC b):List V).getD q uU,.ref 1 0 0] (iI (c3.1)) [.gone,.cells [iI c0_1_0],.cells c2] [.gone,.cells [iI (c3.2)],.cells c2] true (.br (c3.1 !=(0:Int)) (.out (.r0 (c3.2) x0_11 (c3.1))) (.need (inR .i64 (x0_11+(1:Int))) (.go (.l0 (x0_11+(1:Int)) (c3.2))))))) (.out (.r0 c0_1_0 0 0)))
noncomputable def g68(b:Book):P68→List Item × St
 |.e=>([.code (Tryz.f68.body.getD .skip)],⟨[tLine.lst b.lines,fG 69 [.cref 3 fun q=>((cC b):List V).getD q uU,.ref 1 0 0]]++List.replicate 23 uU,[.gone,.cells [iI 0]],[]⟩)
 |.l0 x0_11 c0_1_0=>(cutOf Tryz.f68 0,⟨mk 25 [(1,fG 69 [.cref 3 fun q=>((cC b):List V).getD q uU,.ref 1 0 0]),(9,tLine.lst b.lines),(10,iI (b.lines.length:Int)),(11,iI x0_11)],[.gone,.cells [iI c0_1_0]],[]⟩)
noncomputable def n68:R68→Exit × St
 |.r0 r0 r1 r2=>(.ret,⟨mk 25 [(4,iI r1),(5,iI r2)],[.gone,.cells [iI r0]],[]⟩)
theorem s68(b:Book):Sm 2 (g68 b) (T68 b) (n68)
 |.e=>⟨400,by kernel_rfl⟩
 |.l0 _ _=>⟨400,by kernel_rfl⟩
noncomputable def hh68:R68→List Blk
 |.r0 r0 r1 r2=>[.gone,.cells [iI r0]]
noncomputable def v68:R68→V
 |.r0 r0 r1 r2=>.tuple [iI r1,iI r2]
theorem q68:∀r,((n68 r).1=.normal∨(n68 r).1=.ret)∧(n68 r).2.d=[]∧(n68 r).2.h=hh68 r∧resultV Tryz.prog Tryz.f68 (n68 r).2=some (v68 r)
 |.r0 r0 r1 r2=>⟨.inr rfl,rfl,rfl,by kernel_rfl⟩
theorem w68(b:Book){V0:V}{h':List Blk}(h:WP Tryz.prog ⟨none,2⟩ (T68 b) (Ends' fun r=>v68 r=V0∧hh68 r=h') .e):HCalls Tryz.prog 68 [tLine.lst b.lines,fG 69 [.cref 3 fun q=>((cC b):List V).getD q uU,.ref 1 0 0]] V0 [.gone,.cells [iI 0]] h':=
 HCalls.wp mx Tryz.func68 (by kernel_rfl) (by kernel_rfl) (T68 b) (g68 b) (n68) .e rfl (s68 b) h fun r hr=>by rw[←hr.1,←hr.2];exact q68 r
theorem c68(b:Book)(h:b.bodies.length≤5)(hl:b.lines.length≤8):HCalls Tryz.prog 68 [tLine.lst b.lines,fG 69 [cB b,.ref 1 0 0]] (.tuple [iI (firstR (lineErr b) b.lines).1,iI (firstR (lineErr b) b.lines).2]) [.gone,.cells [iI 0]] [.gone,.cells [iI (manyEnd b)]]:=by
 refine w68 _ (WP.step ?_)
 simp only[T68,Go,Ends',v68,Tr.sure,SS]
 repeat' with_reducible first|intro _|apply And.intro
 refine WP.findE (fun i=>.l0 i (someTo b.lines i)) rfl b.lines zLine (lineErr b) (fun i hi=> ?_) fun hI=> ?_
 ·have hr:inR .i64 ((i:Int)+1)=true:=inR64 (by omega) (by omega)
  have hi':(i:Int)<b.lines.length:=by omega
  have hs:=someTo_le b.lines i
  have k69:=fun rest=>c69at b i (b.lines.getD i zLine) (someTo b.lines i) rest h hi hl (by omega)
  obtain⟨e1,e2⟩:=errQ_line b i
  have ex:∀x m,errQx b (i:Int) x m=errQ b i x m:=fun x m=>by unfold errQx;rw[Int.toNat_natCast]
  have hm:∀e,firstE (lineErr b) 0 b.lines=some (i,e)→manyEnd b=(errQ b i (b.lines.getD i zLine) (someTo b.lines i)).2:=fun e he=>by unfold manyEnd;rw[he]
  generalize hq:errQ b i (b.lines.getD i zLine) (someTo b.lines i)=Q at*
  obtain⟨Q1,Q2⟩:=Q
  simp only at e1 e2 hm
  subst e1
  generalize hZ:lineErr b i (b.lines.getD i zLine)=Z at*
  by_cases g:Z=0
  ·have e3:=e2 g
   subst g
   rw[←e3]
   refine WP.once ?_
   simp only[T68,Tr.sure,SS,hi',z5,hZ,ex,hq]
   repeat' with_reducible first|intro _|apply And.intro
   all_goals first|exact(k69 _)|(simp[hr,firstR,Go,Ends',v68,-List.getD_eq_getElem?_getD, *];done)
  ·have key:firstE (lineErr b) 0 b.lines=some (i,Z)→V.tuple [iI (i:Int),iI Z]=V.tuple [iI (firstR (lineErr b) b.lines).1,iI (firstR (lineErr b) b.lines).2]∧[Blk.gone,.cells [iI Q2]]=[Blk.gone,.cells [iI (manyEnd b)]]:=fun he=>by
    rw[firstR_some he,hm _ he];exact⟨rfl,rfl⟩
   refine WP.once ?_
   simp only[T68,Tr.sure,SS,hi',z5,hZ,ex,hq,g]
   repeat' with_reducible first|intro _|apply And.intro
   all_goals first|exact(k69 _)|exact(Or.inr key)
 ·have hR:=firstR_none hI
  have hm:manyEnd b=someTo b.lines b.lines.length:=by unfold manyEnd;rw[hI]
  refine WP.step ?_
  simp only[T68,Go,Ends',v68,Tr.sure,SS,Int.lt_irrefl]
  repeat' with_reducible first|intro _|apply And.intro
  all_goals simp[hR,hm,hh68,Go,Ends',v68,-List.getD_eq_getElem?_getD, *]
inductive P16
 |e
inductive R16
 |r0 (r0:Int) (r1:Int) (r2:Int)
noncomputable def T16(b:Book):P16→Tr P16 R16
 |.e=>let c1:=firstR (bodyAt b.bodies) b.bodies;let c2:=firstR (headAt b.heads) b.heads;let c3:=firstR (lineErr b) b.lines;let c4:=((cC b):List V);(.br (decide ((b.bodies.length:Int)>(5:Int))) (.out (.r0 1 0 3)) (.call 57 [tBody.lst b.bodies,fG 58 [.cref 3 fun q=>c4.getD q uU]] (.tuple [iI (c1.1),iI (c1.2)]) true true (.br (c1.2 !=(0:Int)) (.out (.r0 1 (c1.1) (c1.2))) (.br ((b.heads.length:Int) !=(b.bodies.length:Int)) (.out (.r0 2 0 3)) (.call 65 [tstr.lst b.heads,fG 66 [.cref 3 fun q=>c4.getD q uU]] (.tuple [iI (c2.1),iI (c2.2)]) true true (.br (c2.2 !=(0:Int)) (.out (.r0 2 (c2.1) (c2.2))) (.br (decide ((b.lines.length:Int)>(8:Int))) (.out (.r0 3 0 3)) (.wait 5 (.frz 0 (underL 0 (cC b)) (.hcall 68 [tLine.lst b.lines,fG 69 [.cref 3 fun q=>c4.getD q uU,.ref 1 0 0]] (.tuple [iI (c3.1),iI (c3.2)]) [.gone,.cells [iI 0]] [.gone,.cells [iI (manyEnd b)]] true (.br (c3.2 !=(0:Int)) (.out (.r0 3 (c3.1) (c3.2))) (.out (.r0 0 0 0)))))))))))))
noncomputable def g16(b:Book):P16→List Item × St
 |.e=>bd Tryz.f16 [.agg (cC b)] 57
noncomputable def n16:R16→Exit × St
 |.r0 r0 r1 r2=>(.ret,⟨mk 58 [(2,iI r0),(3,iI r1),(4,iI r2)],[],[]⟩)
noncomputable def v16:R16→V
 |.r0 r0 r1 r2=>.tuple [iI r0,iI r1,iI r2]
theorem s16(b:Book):Sm 0 (g16 b) (T16 b) (n16)
 |.e=>⟨400,by kernel_rfl⟩
theorem q16:∀r,bodyQ Tryz.prog Tryz.f16 (·=v16 r) (n16 r).1 (n16 r).2
 |.r0 r0 r1 r2=>bq (.tuple [iI r0,iI r1,iI r2]) (by kernel_rfl)
theorem w16(b:Book){post:V→Prop}(h:WQ (T16 b) v16 post .e):PC 16 [.agg (cC b)] post:=
 PCalls.wq Tryz.func16 (s16 b) q16 h
theorem firstR_zero{τ:Type}{of:Nat→τ→Int}{l:List τ}(h:(firstR of l).2=0):firstE of 0 l=none:=by
 unfold firstR at h
 cases hf:firstE of 0 l with
 |none=>rfl
 |some p=>obtain⟨i,e⟩:=p;rw[hf]at h;exact absurd h (firstE_ne hf)
theorem firstR_ne{τ:Type}{of:Nat→τ→Int}{l:List τ}(h:¬(firstR of l).2=0):∃i,firstE of 0 l=some (i,(firstR of l).2)∧(firstR of l).1=(i:Int):=by
 unfold firstR at h⊢
 cases hf:firstE of 0 l with
 |none=>rw[hf]at h;exact absurd rfl h
 |some p=>obtain⟨i,e⟩:=p;exact⟨i,rfl,rfl⟩
theorem c16(b:Book):PC 16 [.agg (tBook.cells b)] (·=.tuple [iI (bookCheck b).1,iI (bookCheck b).2.1,iI (bookCheck b).2.2]):=by
 by_cases h1:(5:Int)<b.bodies.length
 ·have e:bookCheck b=(1,0,3):=if_pos h1
  rw[e]
  refine w16 _ (WP.step ?_)
  simp only[T16,Go,Ends',v16,Tr.sure,SS,h1]
  repeat' with_reducible first|intro _|apply And.intro
 have hb:b.bodies.length≤5:=by omega
 have k57:=c57 b hb
 by_cases h2:(firstR (bodyAt b.bodies) b.bodies).2=0
 ·have f2:=firstR_zero h2
  rw[h2]at k57
  by_cases h3:b.heads.length=b.bodies.length
  ·have k65:=c65 b (by omega)
   have h3':((b.heads.length:Int) !=(b.bodies.length:Int))=false:=by simp[h3]
   by_cases h4:(firstR (headAt b.heads) b.heads).2=0
   ·have f4:=firstR_zero h4
    rw[h4]at k65
    by_cases h5:(8:Int)<b.lines.length
    ·have e:bookCheck b=(3,0,3):=by unfold bookCheck;rw[if_neg h1,f2];simp only;rw[if_neg (fun q=>q h3),f4];simp only;rw[if_pos h5]
     rw[e]
     refine w16 _ (WP.step ?_)
     simp only[T16,Go,Ends',v16,Tr.sure,SS,h1,h2,h3',h4,h5]
     repeat' with_reducible first|intro _|apply And.intro
     all_goals first|exact k57|exact k65
    ·have k68:=c68 b hb (by omega)
     by_cases h6:(firstR (lineErr b) b.lines).2=0
     ·have f6:=firstR_zero h6
      rw[h6]at k68
      have e:bookCheck b=(0,0,0):=by unfold bookCheck;rw[if_neg h1,f2];simp only;rw[if_neg (fun q=>q h3),f4];simp only;rw[if_neg h5,f6]
      rw[e]
      refine w16 _ (WP.step ?_)
      simp only[T16,Go,Ends',v16,Tr.sure,SS,h1,h2,h3',h4,h5,h6]
      repeat' with_reducible first|intro _|apply And.intro
      all_goals first|exact k57|exact k65|exact k68|exact(show underL 0 (cC b)=true from rfl)
     ·obtain⟨i,f6,f7⟩:=firstR_ne h6
      have e:bookCheck b=(3,(i:Int),(firstR (lineErr b) b.lines).2):=by unfold bookCheck;rw[if_neg h1,f2];simp only;rw[if_neg (fun q=>q h3),f4];simp only;rw[if_neg h5,f6]
      rw[e]
      refine w16 _ (WP.step ?_)
      simp only[T16,Go,Ends',v16,Tr.sure,SS,h1,h2,h3',h4,h5,h6]
      repeat' with_reducible first|intro _|apply And.intro
      all_goals first|exact k57|exact k65|exact k68|exact(show underL 0 (cC b)=true from rfl)|(simp[h2,h4,h6,f7,Go,Ends',v16,-List.getD_eq_getElem?_getD, *];done)
   ·obtain⟨i,f4,f7⟩:=firstR_ne h4
    have e:bookCheck b=(2,(i:Int),(firstR (headAt b.heads) b.heads).2):=by unfold bookCheck;rw[if_neg h1,f2];simp only;rw[if_neg (fun q=>q h3),f4]
    rw[e]
    refine w16 _ (WP.step ?_)
    simp only[T16,Go,Ends',v16,Tr.sure,SS,h1,h2,h3',h4]
    repeat' with_reducible first|intro _|apply And.intro
    all_goals first|exact k57|exact k65|(simp[h2,h4,f7,Go,Ends',v16,-List.getD_eq_getElem?_getD, *];done)
  ·have h3':((b.heads.length:Int) !=(b.bodies.length:Int))=true:=by simp;omega
   have e:bookCheck b=(2,0,3):=by unfold bookCheck;rw[if_neg h1,f2];simp only;rw[if_pos h3]
   rw[e]
   refine w16 _ (WP.step ?_)
   simp only[T16,Go,Ends',v16,Tr.sure,SS,h1,h2,h3']
   repeat' with_reducible first|intro _|apply And.intro
   all_goals exact k57
 ·obtain⟨i,f4,f7⟩:=firstR_ne h2
  have e:bookCheck b=(1,(i:Int),(firstR (bodyAt b.bodies) b.bodies).2):=by unfold bookCheck;rw[if_neg h1,f4]
  rw[e]
  refine w16 _ (WP.step ?_)
  simp only[T16,Go,Ends',v16,Tr.sure,SS,h1,h2]
  repeat' with_reducible first|intro _|apply And.intro
  all_goals first|exact k57|(simp[h2,f7,Go,Ends',v16,-List.getD_eq_getElem?_getD, *];done)
end
noncomputable section
def compI(x y:Int):Int:=if x<y then-1 else if y<x then 1 else 0
def cmpP(p q:Pair):Int:=if compI p.a q.a≠0 then compI p.a q.a else compI p.b q.b
inductive P142
 |e
inductive R142
 |r0 (r0:Bool)
noncomputable def T142(x:Int):P142→Tr P142 R142
 |.e=>(.out (.r0 (x !=x)))
noncomputable def g142(x:Int):P142→List Item × St
 |.e=>bd Tryz.f142 [iI x] 5
noncomputable def n142:R142→Exit × St
 |.r0 r0=>(.ret,⟨mk 6 [(2,.bool r0)],[],[]⟩)
noncomputable def v142:R142→V
 |.r0 r0=>.bool r0
theorem s142(x:Int):Sm 0 (g142 x) (T142 x) (n142)
 |.e=>⟨400,by kernel_rfl⟩
theorem q142:∀r,bodyQ Tryz.prog Tryz.f142 (·=v142 r) (n142 r).1 (n142 r).2
 |.r0 r0=>bq (.bool r0) (by kernel_rfl)
theorem w142(x:Int){post:V→Prop}(h:WQ (T142 x) v142 post .e):PC 142 [iI x] post:=
 PCalls.wq Tryz.func142 (s142 x) q142 h
theorem c142(x:Int):PC 142 [iI x] (·=.bool false):=by
 refine w142 _ (WP.step ?_)
 simp only[T142,Go,Ends',v142,Tr.sure,SS]
 repeat' with_reducible first|intro _|apply And.intro
 all_goals simp[Go,Ends',v142,-List.getD_eq_getElem?_getD, *]
inductive P120
 |e
inductive R120
 |r0 (r0:Int)
noncomputable def T120(x:Int)(y:Int):P120→Tr P120 R120
 |.e=>(.call 142 [iI x] (.bool false) true true (.call 142 [iI y] (.bool false) true true (.lit false (.lit false (.br (decide (x<y)) (.out (.r0 (-1))) (.br (decide (x>y)) (.out (.r0 1)) (.out (.r0 0))))))))
noncomputable def g120(x:Int)(y:Int):P120→List Item × St
 |.e=>bd Tryz.f120 [iI x,iI y] 18
noncomputable def n120:R120→Exit × St
 |.r0 r0=>(.ret,⟨mk 20 [(4,iI r0)],[],[]⟩)
noncomputable def v120:R120→V
 |.r0 r0=>iI r0
theorem s120(x:Int)(y:Int):Sm 0 (g120 x y) (T120 x y) (n120)
 |.e=>⟨400,by kernel_rfl⟩
theorem q120:∀r,bodyQ Tryz.prog Tryz.f120 (·=v120 r) (n120 r).1 (n120 r).2
 |.r0 r0=>bq (iI r0) (by kernel_rfl)
theorem w120(x:Int)(y:Int){post:V→Prop}(h:WQ (T120 x y) v120 post .e):PC 120 [iI x,iI y] post:=
 PCalls.wq Tryz.func120 (s120 x y) q120 h
theorem c120(x y:Int):PC 120 [iI x,iI y] (·=iI (compI x y)):=by
 have k:=c142
 refine w120 _ _ (WP.step ?_)
 simp only[T120,Go,Ends',v120,Tr.sure,SS]
 repeat' with_reducible first|intro _|apply And.intro
 all_goals first|exact(k _)|(simp[compI,Go,Ends',v120,-List.getD_eq_getElem?_getD, *];done)
inductive P89
 |e
 |l0 (x0_11:Int)
inductive R89
 |r0 (r0:Int)
noncomputable def T89(l:List Int)(m:List Int):P89→Tr P89 R89
 |.e=>(.go (.l0 0))
 |.l0 x0_11=>let c1:=compI (l.getD (x0_11).toNat tint.zero) (m.getD (x0_11).toNat tint.zero);let c2:=(m.length:Int);let c3:=(l.length:Int);(.br (decide (x0_11<c3)) (.need (decide (0≤x0_11)&&decide (x0_11<c3)) (.br (decide (x0_11≥c2)) (.out (.r0 1)) (.need (decide (0≤x0_11)&&decide (x0_11<c2)) (.call 120 [iI (l.getD (x0_11).toNat tint.zero),iI (m.getD (x0_11).toNat tint.zero)] (iI c1) true true (.br (c1 !=(0:Int)) (.out (.r0 c1)) (.need (inR .i64 (x0_11+(1:Int))) (.go (.l0 (x0_11+(1:Int)))))))))) (.br (decide (c3<c2)) (.out (.r0 (-1))) (.out (.r0 0))))
noncomputable def g89(l:List Int)(m:List Int):P89→List Item × St
 |.e=>bd Tryz.f89 [tint.lst l,tint.lst m] 34
 |.l0 x0_11=>(cutOf Tryz.f89 0,⟨mk 36 [(0,tint.lst l),(1,tint.lst m),(9,tint.lst l),(10,iI (l.length:Int)),(11,iI x0_11)],[],[]⟩)
noncomputable def n89:R89→Exit × St
 |.r0 r0=>(.ret,⟨mk 36 [(4,iI r0)],[],[]⟩)
noncomputable def v89:R89→V
 |.r0 r0=>iI r0
theorem s89(l:List Int)(m:List Int):Sm 0 (g89 l m) (T89 l m) (n89)
 |.e=>⟨400,by kernel_rfl⟩
 |.l0 _=>⟨400,by kernel_rfl⟩
theorem q89:∀r,bodyQ Tryz.prog Tryz.f89 (·=v89 r) (n89 r).1 (n89 r).2
 |.r0 r0=>bq (iI r0) (by kernel_rfl)
theorem w89(l:List Int)(m:List Int){post:V→Prop}(h:WQ (T89 l m) v89 post .e):PC 89 [tint.lst l,tint.lst m] post:=
 PCalls.wq Tryz.func89 (s89 l m) q89 h
theorem c89(a b c d:Int):PC 89 [tint.lst [a,b],tint.lst [c,d]] (·=iI (cmpP ⟨a,b⟩ ⟨c,d⟩)):=by
 have k1:=c120 a c
 have k2:=c120 b d
 have e0:∀x y:Int,[x,y].getD (Int.toNat 0) tint.zero=x:=fun _ _=>rfl
 have e1:∀x y:Int,[x,y].getD ((0:Int)+1).toNat tint.zero=y:=fun _ _=>rfl
 have l0:¬(0:Int)≥(([c,d]:List Int).length:Int):=by simp
 have l1:¬(0:Int)+1≥(([c,d]:List Int).length:Int):=by simp
 have f0:(0:Int)<(([a,b]:List Int).length:Int):=by simp
 have f1:(0:Int)+1<(([a,b]:List Int).length:Int):=by simp
 have f2:¬(0:Int)+1+1<(([a,b]:List Int).length:Int):=by simp
 have g0:(0:Int)<(([c,d]:List Int).length:Int):=by simp
 have g1:(0:Int)+1<(([c,d]:List Int).length:Int):=by simp
 have r0:inR .i64 ((0:Int)+1)=true:=by decide
 have r1:inR .i64 ((0:Int)+1+1)=true:=by decide
 have n0:(0:Int)≤0+1:=by decide
 have h2:WP Tryz.prog ⟨none,0⟩ (T89 [a,b] [c,d]) (Ends' fun r=>v89 r=iI 0) (.l0 (0+1+1)):=by
  refine WP.step ?_
  simp only[T89,Go,Ends',v89,Tr.sure,SS,f2]
  repeat' with_reducible first|intro _|apply And.intro
  all_goals simp_all [Go,Ends',v89,-List.getD_eq_getElem?_getD]
 have h1:WP Tryz.prog ⟨none,0⟩ (T89 [a,b] [c,d]) (Ends' fun r=>v89 r=iI (compI b d)) (.l0 (0+1)):=by
  by_cases q:compI b d=0
  ·rw[q]at k2⊢
   have ht:T89 [a,b] [c,d] (.l0 (0+1))=T89 [a,b] [c,d] (.l0 (0+1)):=rfl
   refine WP.step ?_
   simp only[T89,Go,Ends',v89,Tr.sure,SS,f1,l1,e1,q,g1,n0]
   repeat' with_reducible first|intro _|apply And.intro
   all_goals first|exact k2|exact h2|exact r1
  ·refine WP.step ?_
   simp only[T89,Go,Ends',v89,Tr.sure,SS,f1,l1,e1,q,g1,n0]
   repeat' with_reducible first|intro _|apply And.intro
   all_goals exact k2
 unfold cmpP
 by_cases q:compI a c=0
 ·rw[if_neg (fun z=>z q)]
  rw[q]at k1
  have h0:WP Tryz.prog ⟨none,0⟩ (T89 [a,b] [c,d]) (Ends' fun r=>v89 r=iI (compI b d)) (.l0 0):=by
   refine WP.step ?_
   simp only[T89,Go,Ends',v89,Tr.sure,SS,f0,l0,e0,q,g0]
   repeat' with_reducible first|intro _|apply And.intro
   all_goals first|exact k1|exact h1|exact r0|(simp[q,Go,Ends',v89,-List.getD_eq_getElem?_getD, *];done)
  refine w89 _ _ (WP.step ?_)
  simp only[T89,Go,Ends',v89,Tr.sure,SS]
  repeat' with_reducible first|intro _|apply And.intro
  all_goals exact h0
 ·rw[if_pos q]
  have h0:WP Tryz.prog ⟨none,0⟩ (T89 [a,b] [c,d]) (Ends' fun r=>v89 r=iI (compI a c)) (.l0 0):=by
   refine WP.step ?_
   simp only[T89,Go,Ends',v89,Tr.sure,SS,f0,l0,e0,q,g0]
   repeat' with_reducible first|intro _|apply And.intro
   all_goals first|exact k1|(simp[q,Go,Ends',v89,-List.getD_eq_getElem?_getD, *];done)
  refine w89 _ _ (WP.step ?_)
  simp only[T89,Go,Ends',v89,Tr.sure,SS]
  repeat' with_reducible first|intro _|apply And.intro
  all_goals exact h0
inductive P118
 |e
inductive R118
 |r0 (r0:Int)
noncomputable def T118(p:Pair)(q:Pair):P118→Tr P118 R118
 |.e=>let c1:=cmpP (⟨p.a,p.b⟩:Pair) (⟨q.a,q.b⟩:Pair);(.call 89 [.list 1 2 (litC 1 2 [iI p.a,iI p.b]),.list 1 2 (litC 1 2 [iI q.a,iI q.b])] (iI c1) ((decide (2≤2))&&((decide (2≤2))&&true)) true (.out (.r0 c1)))
noncomputable def g118(p:Pair)(q:Pair):P118→List Item × St
 |.e=>bd Tryz.f118 [.agg [iI p.a,iI p.b],.agg [iI q.a,iI q.b]] 14
noncomputable def n118:R118→Exit × St
 |.r0 r0=>(.ret,⟨mk 16 [(4,iI r0)],[],[]⟩)
noncomputable def v118:R118→V
 |.r0 r0=>iI r0
theorem s118(p:Pair)(q:Pair):Sm 0 (g118 p q) (T118 p q) (n118)
 |.e=>⟨400,by kernel_rfl⟩
theorem q118:∀r,bodyQ Tryz.prog Tryz.f118 (·=v118 r) (n118 r).1 (n118 r).2
 |.r0 r0=>bq (iI r0) (by kernel_rfl)
theorem w118(p:Pair)(q:Pair){post:V→Prop}(h:WQ (T118 p q) v118 post .e):PC 118 [.agg [iI p.a,iI p.b],.agg [iI q.a,iI q.b]] post:=
 PCalls.wq Tryz.func118 (s118 p q) q118 h
theorem c118(p q:Pair):PC 118 [.agg (tPair.cells p),.agg (tPair.cells q)] (·=iI (cmpP p q)):=by
 have k:PC 89 [.list 1 2 (litC 1 2 [iI p.a,iI p.b]),.list 1 2 (litC 1 2 [iI q.a,iI q.b])] (·=iI (cmpP p q)):=
  PCalls.arg (pre:=[]) (PCalls.arg (pre:=[tint.lst [p.a,p.b]]) (c89 p.a p.b q.a q.b) (VLe.lit tint [q.a,q.b] rfl rfl (fun _=>rfl))) (VLe.lit tint [p.a,p.b] rfl rfl (fun _=>rfl))
 refine w118 _ _ (WP.step ?_)
 simp only[T118,Go,Ends',v118,Tr.sure,SS]
 repeat' with_reducible first|intro _|apply And.intro
 all_goals first|exact k|(simp[Go,Ends',v118,-List.getD_eq_getElem?_getD, *];done)
theorem cmpP_lt(p q:Pair):cmpP p q<0↔beforeR p q=true:=by
 obtain⟨a,b⟩:=p;obtain⟨c,d⟩:=q
 simp only[cmpP,compI,beforeR,Bool.or_eq_true,Bool.and_eq_true,decide_eq_true_eq]
 rcases Int.lt_trichotomy a c with h|h|h<;>rcases Int.lt_trichotomy b d with h'|h'|h'<;>simp[h,h',Int.lt_asymm,Int.ne_of_gt,Int.ne_of_lt,Int.lt_irrefl]<;>omega
def sift:Nat→List Pair→List Pair
 |0,l=>l
 |j+1,l=>if beforeR (l.getD (j+1) zPair) (l.getD j zPair)=true then sift j ((l.set (j+1) (l.getD j zPair)).set j (l.getD (j+1) zPair))else l
theorem sift_len:∀(j:Nat) (l:List Pair),(sift j l).length=l.length
 |0,l=>rfl
 |j+1,l=>by
  unfold sift;split
  ·rw[sift_len];simp
  ·rfl
def isortN(l:List Pair)(i:Nat):List Pair:=natF (fun i s=>sift i s) l i
theorem isortN_len(l:List Pair):∀i,(isortN l i).length=l.length
 |0=>rfl
 |i+1=>by
  have e:isortN l (i+1)=sift i (isortN l i):=rfl
  rw[e,sift_len,isortN_len l i]
theorem tel_set2{τ:Type}(E:Ty τ)(l:List τ)(i k:Nat)(x y:τ){n w:Nat}(vs us:List V)(hv:vs=E.cells x)(hw:(E.cells x).length=w)(hu:us=E.cells y)(hw2:(E.cells y).length=w)(hn:n=l.length):∀r j,r<n→j<w→
  VLe ((fun r' j=>if r'=k∧0≤j∧j<0+us.length then us.getD (j-0) uU else(fun r' j=>if r'=i∧0≤j∧j<0+vs.length then vs.getD (j-0) uU else rowsOf E l r' j) r' j) r j) (rowsOf E ((l.set i x).set k y) r j):=fun r j hr hj=>by
 subst hv;subst hu;subst hn
 by_cases h:r=k
 ·subst h
  simp only[Nat.zero_le,Nat.zero_add,true_and,hw2,hj,if_true,Nat.sub_zero,rowsOf,List.getD_eq_getElem?_getD]
  rw[List.getElem?_set_self (by simpa using hr)]
  exact VLe.refl _
 ·have:=tel_set E l i x (n:=l.length) (w:=w) _ rfl hw rfl r j hr hj
  have e:rowsOf E ((l.set i x).set k y) r j=rowsOf E (l.set i x) r j:=by simp only[rowsOf,List.getD_eq_getElem?_getD,List.getElem?_set_ne (Ne.symm h)]
  rw[e]
  simp only[h,false_and,if_false]
  exact this
theorem tel_pair2(l:List Pair)(i k:Nat)(x y:Pair){n:Nat}(hn:n=l.length)(r j:Nat)(hr:r<n)(hj:j<2):
  VLe (if r=k∧0≤j∧j<0+([iI y.a,iI y.b]:List V).length then([iI y.a,iI y.b]:List V).getD (j-0) uU else if r=i∧0≤j∧j<0+([iI x.a,iI x.b]:List V).length then([iI x.a,iI x.b]:List V).getD (j-0) uU else rowsOf tPair l r j)
   (rowsOf tPair ((l.set i x).set k y) r j):=tel_set2 tPair l i k x y (n:=n) (w:=2) _ _ rfl rfl rfl rfl hn r j hr hj
noncomputable def o149_6:Array Oper:=(regOf 6 (Tryz.f149.body.getD .skip)).getD #[]
@[reducible] noncomputable def st149_6 (l:List Pair) (n:Nat) (io:Int) (q:Int) (c0 c1 c2 c3 c4 c5 c6 c7 c8 c9 c10 c11 c12 c13 c14 c15:Bool):St:=⟨[.row 0 n,iI 0,iI (n:Int),fF 118,uU,uU,uU,uU,iI io,iI q,uU,uU,uU,uU,uU,uU,uU,uU,uU,uU,uU,uU,uU,uU,uU,uU,uU,uU,uU,uU,uU,uU,uU,uU,uU,uU,uU,(bif c0 then .row 0 n else(uU)),(bif c1 then iI q else(uU)),(bif c2 then .row 0 n else(uU)),(bif c3 then iI q else(uU)),(bif c4 then iI (q-(1:Int))else(uU)),(bif c5 then .row 0 n else(uU)),(bif c6 then iI q else(uU)),(bif c7 then iI (q-(1:Int))else(uU)),(bif c8 then .ref 0 (((q-(1:Int))).toNat) 0 else(uU)),(bif c9 then .agg [iI ((l.getD ((q-(1:Int))).toNat tPair.zero).a),iI ((l.getD ((q-(1:Int))).toNat tPair.zero).b)]else(uU)),(bif c10 then .row 0 n else(uU)),(bif c11 then iI q else(uU)),(bif c12 then .ref 0 ((q).toNat) 0 else(uU)),(bif c13 then .agg [iI ((l.getD (q).toNat tPair.zero).a),iI ((l.getD (q).toNat tPair.zero).b)]else(uU)),(bif c14 then .ref 0 ((q).toNat) 0 else(uU)),uU],[(bif c15 then .rows 95 2 n (fun r' j=>if r'=(q).toNat∧0≤j∧j<0+([iI ((l.getD ((q-(1:Int))).toNat tPair.zero).a),iI ((l.getD ((q-(1:Int))).toNat tPair.zero).b)]:List V).length then([iI ((l.getD ((q-(1:Int))).toNat tPair.zero).a),iI ((l.getD ((q-(1:Int))).toNat tPair.zero).b)]:List V).getD (j-0) uU else(rowsOf tPair l) r' j)else(.rows 95 2 n (rowsOf tPair l)))],[]⟩
theorem sp149_6_0(l:List Pair)(n:Nat)(io:Int)(q:Int)(h1:0≤q-1)(h2:q<(n:Int))(h3:inR .i64 (q-1)=true)(c1 c2 c3 c4 c5 c6 c7 c8 c9 c10 c11 c12 c13:Bool):AStep Tryz.prog ⟨none,1⟩ o149_6 0 (st149_6 l n io q false c1 c2 c3 c4 c5 c6 c7 c8 c9 c10 c11 c12 c13 false false) (st149_6 l n io q true c1 c2 c3 c4 c5 c6 c7 c8 c9 c10 c11 c12 c13 false false):=by
 refine AStep.to (AStep.read (o:=o149_6.getD 0 default) (b:=true) (v:=.row 0 n) (by kernel_rfl) (by kernel_rfl) (fun _ h=>by cases h) (by kernel_rfl) ?_) (by kernel_rfl)
 rfl
theorem sp149_6_1(l:List Pair)(n:Nat)(io:Int)(q:Int)(h1:0≤q-1)(h2:q<(n:Int))(h3:inR .i64 (q-1)=true)(c0 c2 c3 c4 c5 c6 c7 c8 c9 c10 c11 c12 c13:Bool):AStep Tryz.prog ⟨none,1⟩ o149_6 1 (st149_6 l n io q c0 false c2 c3 c4 c5 c6 c7 c8 c9 c10 c11 c12 c13 false false) (st149_6 l n io q c0 true c2 c3 c4 c5 c6 c7 c8 c9 c10 c11 c12 c13 false false):=by
 refine AStep.to (AStep.read (o:=o149_6.getD 1 default) (b:=true) (v:=iI q) (by kernel_rfl) (by kernel_rfl) (fun _ h=>by cases h) (by kernel_rfl) ?_) (by kernel_rfl)
 rfl
theorem sp149_6_2(l:List Pair)(n:Nat)(io:Int)(q:Int)(h1:0≤q-1)(h2:q<(n:Int))(h3:inR .i64 (q-1)=true)(c0 c1 c3 c4 c5 c6 c7 c8 c9 c10 c11 c12 c13 c14 c15:Bool):AStep Tryz.prog ⟨none,1⟩ o149_6 2 (st149_6 l n io q c0 c1 false c3 c4 c5 c6 c7 c8 c9 c10 c11 c12 c13 c14 c15) (st149_6 l n io q c0 c1 true c3 c4 c5 c6 c7 c8 c9 c10 c11 c12 c13 c14 c15):=by
 refine AStep.to (AStep.read (o:=o149_6.getD 2 default) (b:=true) (v:=.row 0 n) (by kernel_rfl) (by kernel_rfl) (fun _ h=>by cases h) (by kernel_rfl) ?_) (by kernel_rfl)
 rfl
theorem sp149_6_3(l:List Pair)(n:Nat)(io:Int)(q:Int)(h1:0≤q-1)(h2:q<(n:Int))(h3:inR .i64 (q-1)=true)(c0 c1 c2 c5 c6 c7 c8 c9 c10 c11 c12 c13 c14 c15:Bool):AStep Tryz.prog ⟨none,1⟩ o149_6 3 (st149_6 l n io q c0 c1 c2 false false c5 c6 c7 c8 c9 c10 c11 c12 c13 c14 c15) (st149_6 l n io q c0 c1 c2 true false c5 c6 c7 c8 c9 c10 c11 c12 c13 c14 c15):=by
 refine AStep.to (AStep.read (o:=o149_6.getD 3 default) (b:=true) (v:=iI q) (by kernel_rfl) (by kernel_rfl) (fun _ h=>by cases h) (by kernel_rfl) ?_) (by kernel_rfl)
 rfl
theorem sp149_6_4(l:List Pair)(n:Nat)(io:Int)(q:Int)(h1:0≤q-1)(h2:q<(n:Int))(h3:inR .i64 (q-1)=true)(c0 c1 c2 c5 c6 c7 c8 c9 c10 c11 c12 c13 c14 c15:Bool):AStep Tryz.prog ⟨none,1⟩ o149_6 4 (st149_6 l n io q c0 c1 c2 true false c5 c6 c7 c8 c9 c10 c11 c12 c13 c14 c15) (st149_6 l n io q c0 c1 c2 true true c5 c6 c7 c8 c9 c10 c11 c12 c13 c14 c15):=by
 refine AStep.to (AStep.read (o:=o149_6.getD 4 default) (b:=inR .i64 (q-(1:Int))) (v:=iI (q-(1:Int))) (by kernel_rfl) (by kernel_rfl) (fun _ h=>by cases h) (by kernel_rfl) ?_) (by kernel_rfl)
 first|assumption|rfl|(simp[*];done)|(simp;omega)|(simp only[Bool.and_eq_true,decide_eq_true_eq];omega)
theorem sp149_6_5(l:List Pair)(n:Nat)(io:Int)(q:Int)(h1:0≤q-1)(h2:q<(n:Int))(h3:inR .i64 (q-1)=true)(c0 c1 c2 c3 c4 c6 c7 c10 c11 c12 c13:Bool):AStep Tryz.prog ⟨none,1⟩ o149_6 5 (st149_6 l n io q c0 c1 c2 c3 c4 false c6 c7 false false c10 c11 c12 c13 false false) (st149_6 l n io q c0 c1 c2 c3 c4 true c6 c7 false false c10 c11 c12 c13 false false):=by
 refine AStep.to (AStep.read (o:=o149_6.getD 5 default) (b:=true) (v:=.row 0 n) (by kernel_rfl) (by kernel_rfl) (fun _ h=>by cases h) (by kernel_rfl) ?_) (by kernel_rfl)
 rfl
theorem sp149_6_6(l:List Pair)(n:Nat)(io:Int)(q:Int)(h1:0≤q-1)(h2:q<(n:Int))(h3:inR .i64 (q-1)=true)(c0 c1 c2 c3 c4 c5 c10 c11 c12 c13:Bool):AStep Tryz.prog ⟨none,1⟩ o149_6 6 (st149_6 l n io q c0 c1 c2 c3 c4 c5 false false false false c10 c11 c12 c13 false false) (st149_6 l n io q c0 c1 c2 c3 c4 c5 true false false false c10 c11 c12 c13 false false):=by
 refine AStep.to (AStep.read (o:=o149_6.getD 6 default) (b:=true) (v:=iI q) (by kernel_rfl) (by kernel_rfl) (fun _ h=>by cases h) (by kernel_rfl) ?_) (by kernel_rfl)
 rfl
theorem sp149_6_7(l:List Pair)(n:Nat)(io:Int)(q:Int)(h1:0≤q-1)(h2:q<(n:Int))(h3:inR .i64 (q-1)=true)(c0 c1 c2 c3 c4 c5 c10 c11 c12 c13:Bool):AStep Tryz.prog ⟨none,1⟩ o149_6 7 (st149_6 l n io q c0 c1 c2 c3 c4 c5 true false false false c10 c11 c12 c13 false false) (st149_6 l n io q c0 c1 c2 c3 c4 c5 true true false false c10 c11 c12 c13 false false):=by
 refine AStep.to (AStep.read (o:=o149_6.getD 7 default) (b:=inR .i64 (q-(1:Int))) (v:=iI (q-(1:Int))) (by kernel_rfl) (by kernel_rfl) (fun _ h=>by cases h) (by kernel_rfl) ?_) (by kernel_rfl)
 first|assumption|rfl|(simp[*];done)|(simp;omega)|(simp only[Bool.and_eq_true,decide_eq_true_eq];omega)
theorem sp149_6_8(l:List Pair)(n:Nat)(io:Int)(q:Int)(h1:0≤q-1)(h2:q<(n:Int))(h3:inR .i64 (q-1)=true)(c0 c1 c2 c3 c4 c10 c11 c12 c13:Bool):AStep Tryz.prog ⟨none,1⟩ o149_6 8 (st149_6 l n io q c0 c1 c2 c3 c4 true true true false false c10 c11 c12 c13 false false) (st149_6 l n io q c0 c1 c2 c3 c4 true true true true false c10 c11 c12 c13 false false):=by
 refine AStep.to (AStep.read (o:=o149_6.getD 8 default) (b:=((decide (0≤(q-(1:Int)))&&decide ((q-(1:Int))<(n:Int)))&&decide (n≤n))) (v:=.ref 0 (((q-(1:Int))).toNat) 0) (by kernel_rfl) (by kernel_rfl) (fun _ h=>by cases h) (by kernel_rfl) ?_) (by kernel_rfl)
 first|assumption|rfl|(simp[*];done)|(simp;omega)|(simp only[Bool.and_eq_true,decide_eq_true_eq];omega)
theorem sp149_6_9(l:List Pair)(n:Nat)(io:Int)(q:Int)(h1:0≤q-1)(h2:q<(n:Int))(h3:inR .i64 (q-1)=true)(c0 c1 c2 c3 c4 c10 c11 c12 c13:Bool):AStep Tryz.prog ⟨none,1⟩ o149_6 9 (st149_6 l n io q c0 c1 c2 c3 c4 true true true true false c10 c11 c12 c13 false false) (st149_6 l n io q c0 c1 c2 c3 c4 true true true true true c10 c11 c12 c13 false false):=by
 refine AStep.to (AStep.read (o:=o149_6.getD 9 default) (b:=(decide (((q-(1:Int))).toNat<n)&&decide (0+2≤2))) (v:=.agg [iI ((l.getD ((q-(1:Int))).toNat tPair.zero).a),iI ((l.getD ((q-(1:Int))).toNat tPair.zero).b)]) (by kernel_rfl) (by kernel_rfl) (fun _ h=>by cases h) (by kernel_rfl) ?_) (by kernel_rfl)
 first|assumption|rfl|(simp[*];done)|(simp;omega)|(simp only[Bool.and_eq_true,decide_eq_true_eq];omega)
theorem sp149_6_10(l:List Pair)(n:Nat)(io:Int)(q:Int)(h1:0≤q-1)(h2:q<(n:Int))(h3:inR .i64 (q-1)=true)(c0 c1 c2 c3 c4 c5 c6 c7 c8 c9 c11:Bool):AStep Tryz.prog ⟨none,1⟩ o149_6 10 (st149_6 l n io q c0 c1 c2 c3 c4 c5 c6 c7 c8 c9 false c11 false false false false) (st149_6 l n io q c0 c1 c2 c3 c4 c5 c6 c7 c8 c9 true c11 false false false false):=by
 refine AStep.to (AStep.read (o:=o149_6.getD 10 default) (b:=true) (v:=.row 0 n) (by kernel_rfl) (by kernel_rfl) (fun _ h=>by cases h) (by kernel_rfl) ?_) (by kernel_rfl)
 rfl
theorem sp149_6_11(l:List Pair)(n:Nat)(io:Int)(q:Int)(h1:0≤q-1)(h2:q<(n:Int))(h3:inR .i64 (q-1)=true)(c0 c1 c2 c3 c4 c5 c6 c7 c8 c9 c10:Bool):AStep Tryz.prog ⟨none,1⟩ o149_6 11 (st149_6 l n io q c0 c1 c2 c3 c4 c5 c6 c7 c8 c9 c10 false false false false false) (st149_6 l n io q c0 c1 c2 c3 c4 c5 c6 c7 c8 c9 c10 true false false false false):=by
 refine AStep.to (AStep.read (o:=o149_6.getD 11 default) (b:=true) (v:=iI q) (by kernel_rfl) (by kernel_rfl) (fun _ h=>by cases h) (by kernel_rfl) ?_) (by kernel_rfl)
 rfl
theorem sp149_6_12(l:List Pair)(n:Nat)(io:Int)(q:Int)(h1:0≤q-1)(h2:q<(n:Int))(h3:inR .i64 (q-1)=true)(c0 c1 c2 c3 c4 c5 c6 c7 c8 c9:Bool):AStep Tryz.prog ⟨none,1⟩ o149_6 12 (st149_6 l n io q c0 c1 c2 c3 c4 c5 c6 c7 c8 c9 true true false false false false) (st149_6 l n io q c0 c1 c2 c3 c4 c5 c6 c7 c8 c9 true true true false false false):=by
 refine AStep.to (AStep.read (o:=o149_6.getD 12 default) (b:=((decide (0≤q)&&decide (q<(n:Int)))&&decide (n≤n))) (v:=.ref 0 ((q).toNat) 0) (by kernel_rfl) (by kernel_rfl) (fun _ h=>by cases h) (by kernel_rfl) ?_) (by kernel_rfl)
 first|assumption|rfl|(simp[*];done)|(simp;omega)|(simp only[Bool.and_eq_true,decide_eq_true_eq];omega)
theorem sp149_6_13(l:List Pair)(n:Nat)(io:Int)(q:Int)(h1:0≤q-1)(h2:q<(n:Int))(h3:inR .i64 (q-1)=true)(c0 c1 c2 c3 c4 c5 c6 c7 c8 c9:Bool):AStep Tryz.prog ⟨none,1⟩ o149_6 13 (st149_6 l n io q c0 c1 c2 c3 c4 c5 c6 c7 c8 c9 true true true false false false) (st149_6 l n io q c0 c1 c2 c3 c4 c5 c6 c7 c8 c9 true true true true false false):=by
 refine AStep.to (AStep.read (o:=o149_6.getD 13 default) (b:=(decide ((q).toNat<n)&&decide (0+2≤2))) (v:=.agg [iI ((l.getD (q).toNat tPair.zero).a),iI ((l.getD (q).toNat tPair.zero).b)]) (by kernel_rfl) (by kernel_rfl) (fun _ h=>by cases h) (by kernel_rfl) ?_) (by kernel_rfl)
 first|assumption|rfl|(simp[*];done)|(simp;omega)|(simp only[Bool.and_eq_true,decide_eq_true_eq];omega)
theorem sp149_6_14(l:List Pair)(n:Nat)(io:Int)(q:Int)(h1:0≤q-1)(h2:q<(n:Int))(h3:inR .i64 (q-1)=true)(c2 c3 c4:Bool):AStep Tryz.prog ⟨none,1⟩ o149_6 14 (st149_6 l n io q true true c2 c3 c4 true true true true true true true true true false false) (st149_6 l n io q true true c2 c3 c4 true true true true true true true true true true false):=by
 refine AStep.to (AStep.read (o:=o149_6.getD 14 default) (b:=((decide (0≤q)&&decide (q<(n:Int)))&&decide (n≤n))) (v:=.ref 0 ((q).toNat) 0) (by kernel_rfl) (by kernel_rfl) (fun _ h=>by cases h) (by kernel_rfl) ?_) (by kernel_rfl)
 first|assumption|rfl|(simp[*];done)|(simp;omega)|(simp only[Bool.and_eq_true,decide_eq_true_eq];omega)
theorem sp149_6_15(l:List Pair)(n:Nat)(io:Int)(q:Int)(h1:0≤q-1)(h2:q<(n:Int))(h3:inR .i64 (q-1)=true)(c2 c3 c4:Bool):AStep Tryz.prog ⟨none,1⟩ o149_6 15 (st149_6 l n io q true true c2 c3 c4 true true true true true true true true true true false) (st149_6 l n io q true true c2 c3 c4 true true true true true true true true true true true):=by
 refine AStep.tree (g:=(.need ((decide ((q).toNat<n)&&decide (0+([iI ((l.getD ((q-(1:Int))).toNat tPair.zero).a),iI ((l.getD ((q-(1:Int))).toNat tPair.zero).b)]:List V).length≤2))&&underL 0 ([iI ((l.getD ((q-(1:Int))).toNat tPair.zero).a),iI ((l.getD ((q-(1:Int))).toNat tPair.zero).b)]:List V)) (.done .normal (st149_6 l n io q true true c2 c3 c4 true true true true true true true true true true true)))) (by kernel_rfl) ?_
 simp only[DT.holds]
 repeat' (first|assumption|exact rfl|(with_reducible refine And.intro ?_ ?_))
 all_goals first|(simp[*];done)|(simp only[Bool.and_eq_true,decide_eq_true_eq];refine⟨⟨by omega,by simp⟩,rfl⟩)
theorem ov149_6(l:List Pair)(n:Nat)(io:Int)(q:Int)(h1:0≤q-1)(h2:q<(n:Int))(h3:inR .i64 (q-1)=true):AWP Tryz.prog ⟨none,1⟩ (regionOf Tryz.f149 6) ⟨[.row 0 n,iI 0,iI (n:Int),fF 118,uU,uU,uU,uU,iI io,iI q,uU,uU,uU,uU,uU,uU,uU,uU,uU,uU,uU,uU,uU,uU,uU,uU,uU,uU,uU,uU,uU,uU,uU,uU,uU,uU,uU,uU,uU,uU,uU,uU,uU,uU,uU,uU,uU,uU,uU,uU,uU,uU,uU],[.rows 95 2 n (rowsOf tPair l)],[]⟩ (fun e T=>e=.normal∧T=⟨[.row 0 n,iI 0,iI (n:Int),fF 118,uU,uU,uU,uU,iI io,iI q,uU,uU,uU,uU,uU,uU,uU,uU,uU,uU,uU,uU,uU,uU,uU,uU,uU,uU,uU,uU,uU,uU,uU,uU,uU,uU,uU,.row 0 n,iI q,.row 0 n,iI q,iI (q-(1:Int)),.row 0 n,iI q,iI (q-(1:Int)),.ref 0 (((q-(1:Int))).toNat) 0,.agg [iI ((l.getD ((q-(1:Int))).toNat tPair.zero).a),iI ((l.getD ((q-(1:Int))).toNat tPair.zero).b)],.row 0 n,iI q,.ref 0 ((q).toNat) 0,.agg [iI ((l.getD (q).toNat tPair.zero).a),iI ((l.getD (q).toNat tPair.zero).b)],.ref 0 ((q).toNat) 0,.ref 0 (((q-(1:Int))).toNat) 0],[.rows 95 2 n (fun r' j=>if r'=((q-(1:Int))).toNat∧0≤j∧j<0+([iI ((l.getD (q).toNat tPair.zero).a),iI ((l.getD (q).toNat tPair.zero).b)]:List V).length then([iI ((l.getD (q).toNat tPair.zero).a),iI ((l.getD (q).toNat tPair.zero).b)]:List V).getD (j-0) uU else(fun r' j=>if r'=(q).toNat∧0≤j∧j<0+([iI ((l.getD ((q-(1:Int))).toNat tPair.zero).a),iI ((l.getD ((q-(1:Int))).toNat tPair.zero).b)]:List V).length then([iI ((l.getD ((q-(1:Int))).toNat tPair.zero).a),iI ((l.getD ((q-(1:Int))).toNat tPair.zero).b)]:List V).getD (j-0) uU else(rowsOf tPair l) r' j) r' j)],[]⟩):=by
 have z_sz:o149_6.size=18:=by kernel_rfl
 refine AWP.region_anyC (ops:=o149_6) 16 mx (by kernel_rfl) (by omega) (fun j_ z_1 z_2=> ?_) (fun l_=>st149_6 l n io q (l_.getD 0 false) (l_.getD 1 false) (l_.getD 2 false) (l_.getD 3 false) (l_.getD 4 false) (l_.getD 5 false) (l_.getD 6 false) (l_.getD 7 false) (l_.getD 8 false) (l_.getD 9 false) (l_.getD 10 false) (l_.getD 11 false) (l_.getD 12 false) (l_.getD 13 false) (l_.getD 14 false) (l_.getD 15 false)) (fun β_ G_ K_ a_ w_ r_=>⟨_,Homes.le_append β_ (List.replicate 0 Hm.void),?_⟩) (fun l_ i_ z_l z_i z_li z_j z_c z_r=> ?_) (fun l_ z_l z_1 z_2=> ?_)
 ·rcases show j_=16∨j_=17 by omega with rfl|rfl
  all_goals kernel_rfl
 ·rw[z_sz];exact r_.reserve 0
 ·have z_lt:i_<l_.size:=by omega
  simp only[gset7 z_lt]
  rcases show i_=0∨i_=1∨i_=2∨i_=3∨i_=4∨i_=5∨i_=6∨i_=7∨i_=8∨i_=9∨i_=10∨i_=11∨i_=12∨i_=13∨i_=14∨i_=15 by omega with rfl|rfl|rfl|rfl|rfl|rfl|rfl|rfl|rfl|rfl|rfl|rfl|rfl|rfl|rfl|rfl
  ·have z_g14:=reach_not (ops:=o149_6) (i:=0) (j:=14) (by kernel_rfl) z_c z_li
   have z_g15:=reach_not (ops:=o149_6) (i:=0) (j:=15) (by kernel_rfl) z_c z_li
   simp only[Nat.reduceEqDiff,if_true,if_false,reduceIte,z_li,z_g14,z_g15]
   exact sp149_6_0 l n io q h1 h2 h3 _ _ _ _ _ _ _ _ _ _ _ _ _
  ·have z_g14:=reach_not (ops:=o149_6) (i:=1) (j:=14) (by kernel_rfl) z_c z_li
   have z_g15:=reach_not (ops:=o149_6) (i:=1) (j:=15) (by kernel_rfl) z_c z_li
   simp only[Nat.reduceEqDiff,if_true,if_false,reduceIte,z_li,z_g14,z_g15]
   exact sp149_6_1 l n io q h1 h2 h3 _ _ _ _ _ _ _ _ _ _ _ _ _
  ·simp only[Nat.reduceEqDiff,if_true,if_false,reduceIte,z_li]
   exact sp149_6_2 l n io q h1 h2 h3 _ _ _ _ _ _ _ _ _ _ _ _ _ _ _
  ·have z_g4:=reach_not (ops:=o149_6) (i:=3) (j:=4) (by kernel_rfl) z_c z_li
   simp only[Nat.reduceEqDiff,if_true,if_false,reduceIte,z_li,z_g4]
   exact sp149_6_3 l n io q h1 h2 h3 _ _ _ _ _ _ _ _ _ _ _ _ _ _
  ·have z_g3:=reach_ready (ops:=o149_6) (i:=3) (j:=4) (by kernel_rfl) z_c z_r
   simp only[Nat.reduceEqDiff,if_true,if_false,reduceIte,z_li,z_g3]
   exact sp149_6_4 l n io q h1 h2 h3 _ _ _ _ _ _ _ _ _ _ _ _ _ _
  ·have z_g8:=reach_not (ops:=o149_6) (i:=5) (j:=8) (by kernel_rfl) z_c z_li
   have z_g9:=reach_not (ops:=o149_6) (i:=5) (j:=9) (by kernel_rfl) z_c z_li
   have z_g14:=reach_not (ops:=o149_6) (i:=5) (j:=14) (by kernel_rfl) z_c z_li
   have z_g15:=reach_not (ops:=o149_6) (i:=5) (j:=15) (by kernel_rfl) z_c z_li
   simp only[Nat.reduceEqDiff,if_true,if_false,reduceIte,z_li,z_g8,z_g9,z_g14,z_g15]
   exact sp149_6_5 l n io q h1 h2 h3 _ _ _ _ _ _ _ _ _ _ _
  ·have z_g7:=reach_not (ops:=o149_6) (i:=6) (j:=7) (by kernel_rfl) z_c z_li
   have z_g8:=reach_not (ops:=o149_6) (i:=6) (j:=8) (by kernel_rfl) z_c z_li
   have z_g9:=reach_not (ops:=o149_6) (i:=6) (j:=9) (by kernel_rfl) z_c z_li
   have z_g14:=reach_not (ops:=o149_6) (i:=6) (j:=14) (by kernel_rfl) z_c z_li
   have z_g15:=reach_not (ops:=o149_6) (i:=6) (j:=15) (by kernel_rfl) z_c z_li
   simp only[Nat.reduceEqDiff,if_true,if_false,reduceIte,z_li,z_g7,z_g8,z_g9,z_g14,z_g15]
   exact sp149_6_6 l n io q h1 h2 h3 _ _ _ _ _ _ _ _ _ _
  ·have z_g6:=reach_ready (ops:=o149_6) (i:=6) (j:=7) (by kernel_rfl) z_c z_r
   have z_g8:=reach_not (ops:=o149_6) (i:=7) (j:=8) (by kernel_rfl) z_c z_li
   have z_g9:=reach_not (ops:=o149_6) (i:=7) (j:=9) (by kernel_rfl) z_c z_li
   have z_g14:=reach_not (ops:=o149_6) (i:=7) (j:=14) (by kernel_rfl) z_c z_li
   have z_g15:=reach_not (ops:=o149_6) (i:=7) (j:=15) (by kernel_rfl) z_c z_li
   simp only[Nat.reduceEqDiff,if_true,if_false,reduceIte,z_li,z_g6,z_g8,z_g9,z_g14,z_g15]
   exact sp149_6_7 l n io q h1 h2 h3 _ _ _ _ _ _ _ _ _ _
  ·have z_g5:=reach_ready (ops:=o149_6) (i:=5) (j:=8) (by kernel_rfl) z_c z_r
   have z_g6:=reach_ready (ops:=o149_6) (i:=6) (j:=8) (by kernel_rfl) z_c z_r
   have z_g7:=reach_ready (ops:=o149_6) (i:=7) (j:=8) (by kernel_rfl) z_c z_r
   have z_g9:=reach_not (ops:=o149_6) (i:=8) (j:=9) (by kernel_rfl) z_c z_li
   have z_g14:=reach_not (ops:=o149_6) (i:=8) (j:=14) (by kernel_rfl) z_c z_li
   have z_g15:=reach_not (ops:=o149_6) (i:=8) (j:=15) (by kernel_rfl) z_c z_li
   simp only[Nat.reduceEqDiff,if_true,if_false,reduceIte,z_li,z_g5,z_g6,z_g7,z_g9,z_g14,z_g15]
   exact sp149_6_8 l n io q h1 h2 h3 _ _ _ _ _ _ _ _ _
  ·have z_g5:=reach_ready (ops:=o149_6) (i:=5) (j:=9) (by kernel_rfl) z_c z_r
   have z_g6:=reach_ready (ops:=o149_6) (i:=6) (j:=9) (by kernel_rfl) z_c z_r
   have z_g7:=reach_ready (ops:=o149_6) (i:=7) (j:=9) (by kernel_rfl) z_c z_r
   have z_g8:=reach_ready (ops:=o149_6) (i:=8) (j:=9) (by kernel_rfl) z_c z_r
   have z_g14:=reach_not (ops:=o149_6) (i:=9) (j:=14) (by kernel_rfl) z_c z_li
   have z_g15:=reach_not (ops:=o149_6) (i:=9) (j:=15) (by kernel_rfl) z_c z_li
   simp only[Nat.reduceEqDiff,if_true,if_false,reduceIte,z_li,z_g5,z_g6,z_g7,z_g8,z_g14,z_g15]
   exact sp149_6_9 l n io q h1 h2 h3 _ _ _ _ _ _ _ _ _
  ·have z_g12:=reach_not (ops:=o149_6) (i:=10) (j:=12) (by kernel_rfl) z_c z_li
   have z_g13:=reach_not (ops:=o149_6) (i:=10) (j:=13) (by kernel_rfl) z_c z_li
   have z_g14:=reach_not (ops:=o149_6) (i:=10) (j:=14) (by kernel_rfl) z_c z_li
   have z_g15:=reach_not (ops:=o149_6) (i:=10) (j:=15) (by kernel_rfl) z_c z_li
   simp only[Nat.reduceEqDiff,if_true,if_false,reduceIte,z_li,z_g12,z_g13,z_g14,z_g15]
   exact sp149_6_10 l n io q h1 h2 h3 _ _ _ _ _ _ _ _ _ _ _
  ·have z_g12:=reach_not (ops:=o149_6) (i:=11) (j:=12) (by kernel_rfl) z_c z_li
   have z_g13:=reach_not (ops:=o149_6) (i:=11) (j:=13) (by kernel_rfl) z_c z_li
   have z_g14:=reach_not (ops:=o149_6) (i:=11) (j:=14) (by kernel_rfl) z_c z_li
   have z_g15:=reach_not (ops:=o149_6) (i:=11) (j:=15) (by kernel_rfl) z_c z_li
   simp only[Nat.reduceEqDiff,if_true,if_false,reduceIte,z_li,z_g12,z_g13,z_g14,z_g15]
   exact sp149_6_11 l n io q h1 h2 h3 _ _ _ _ _ _ _ _ _ _ _
  ·have z_g10:=reach_ready (ops:=o149_6) (i:=10) (j:=12) (by kernel_rfl) z_c z_r
   have z_g11:=reach_ready (ops:=o149_6) (i:=11) (j:=12) (by kernel_rfl) z_c z_r
   have z_g13:=reach_not (ops:=o149_6) (i:=12) (j:=13) (by kernel_rfl) z_c z_li
   have z_g14:=reach_not (ops:=o149_6) (i:=12) (j:=14) (by kernel_rfl) z_c z_li
   have z_g15:=reach_not (ops:=o149_6) (i:=12) (j:=15) (by kernel_rfl) z_c z_li
   simp only[Nat.reduceEqDiff,if_true,if_false,reduceIte,z_li,z_g10,z_g11,z_g13,z_g14,z_g15]
   exact sp149_6_12 l n io q h1 h2 h3 _ _ _ _ _ _ _ _ _ _
  ·have z_g10:=reach_ready (ops:=o149_6) (i:=10) (j:=13) (by kernel_rfl) z_c z_r
   have z_g11:=reach_ready (ops:=o149_6) (i:=11) (j:=13) (by kernel_rfl) z_c z_r
   have z_g12:=reach_ready (ops:=o149_6) (i:=12) (j:=13) (by kernel_rfl) z_c z_r
   have z_g14:=reach_not (ops:=o149_6) (i:=13) (j:=14) (by kernel_rfl) z_c z_li
   have z_g15:=reach_not (ops:=o149_6) (i:=13) (j:=15) (by kernel_rfl) z_c z_li
   simp only[Nat.reduceEqDiff,if_true,if_false,reduceIte,z_li,z_g10,z_g11,z_g12,z_g14,z_g15]
   exact sp149_6_13 l n io q h1 h2 h3 _ _ _ _ _ _ _ _ _ _
  ·have z_g0:=reach_ready (ops:=o149_6) (i:=0) (j:=14) (by kernel_rfl) z_c z_r
   have z_g1:=reach_ready (ops:=o149_6) (i:=1) (j:=14) (by kernel_rfl) z_c z_r
   have z_g5:=reach_ready (ops:=o149_6) (i:=5) (j:=14) (by kernel_rfl) z_c z_r
   have z_g6:=reach_ready (ops:=o149_6) (i:=6) (j:=14) (by kernel_rfl) z_c z_r
   have z_g7:=reach_ready (ops:=o149_6) (i:=7) (j:=14) (by kernel_rfl) z_c z_r
   have z_g8:=reach_ready (ops:=o149_6) (i:=8) (j:=14) (by kernel_rfl) z_c z_r
   have z_g9:=reach_ready (ops:=o149_6) (i:=9) (j:=14) (by kernel_rfl) z_c z_r
   have z_g10:=reach_ready (ops:=o149_6) (i:=10) (j:=14) (by kernel_rfl) z_c z_r
   have z_g11:=reach_ready (ops:=o149_6) (i:=11) (j:=14) (by kernel_rfl) z_c z_r
   have z_g12:=reach_ready (ops:=o149_6) (i:=12) (j:=14) (by kernel_rfl) z_c z_r
   have z_g13:=reach_ready (ops:=o149_6) (i:=13) (j:=14) (by kernel_rfl) z_c z_r
   have z_g15:=reach_not (ops:=o149_6) (i:=14) (j:=15) (by kernel_rfl) z_c z_li
   simp only[Nat.reduceEqDiff,if_true,if_false,reduceIte,z_li,z_g0,z_g1,z_g5,z_g6,z_g7,z_g8,z_g9,z_g10,z_g11,z_g12,z_g13,z_g15]
   exact sp149_6_14 l n io q h1 h2 h3 _ _ _
  ·have z_g0:=reach_ready (ops:=o149_6) (i:=0) (j:=15) (by kernel_rfl) z_c z_r
   have z_g1:=reach_ready (ops:=o149_6) (i:=1) (j:=15) (by kernel_rfl) z_c z_r
   have z_g5:=reach_ready (ops:=o149_6) (i:=5) (j:=15) (by kernel_rfl) z_c z_r
   have z_g6:=reach_ready (ops:=o149_6) (i:=6) (j:=15) (by kernel_rfl) z_c z_r
   have z_g7:=reach_ready (ops:=o149_6) (i:=7) (j:=15) (by kernel_rfl) z_c z_r
   have z_g8:=reach_ready (ops:=o149_6) (i:=8) (j:=15) (by kernel_rfl) z_c z_r
   have z_g9:=reach_ready (ops:=o149_6) (i:=9) (j:=15) (by kernel_rfl) z_c z_r
   have z_g10:=reach_ready (ops:=o149_6) (i:=10) (j:=15) (by kernel_rfl) z_c z_r
   have z_g11:=reach_ready (ops:=o149_6) (i:=11) (j:=15) (by kernel_rfl) z_c z_r
   have z_g12:=reach_ready (ops:=o149_6) (i:=12) (j:=15) (by kernel_rfl) z_c z_r
   have z_g13:=reach_ready (ops:=o149_6) (i:=13) (j:=15) (by kernel_rfl) z_c z_r
   have z_g14:=reach_ready (ops:=o149_6) (i:=14) (j:=15) (by kernel_rfl) z_c z_r
   simp only[Nat.reduceEqDiff,if_true,if_false,reduceIte,z_li,z_g0,z_g1,z_g5,z_g6,z_g7,z_g8,z_g9,z_g10,z_g11,z_g12,z_g13,z_g14]
   exact sp149_6_15 l n io q h1 h2 h3 _ _ _
 ·simp only[z_1 0 (by omega),z_1 1 (by omega),z_1 2 (by omega),z_1 3 (by omega),z_1 4 (by omega),z_1 5 (by omega),z_1 6 (by omega),z_1 7 (by omega),z_1 8 (by omega),z_1 9 (by omega),z_1 10 (by omega),z_1 11 (by omega),z_1 12 (by omega),z_1 13 (by omega),z_1 14 (by omega),z_1 15 (by omega)]
  rw[z_sz]
  refine AOps.tree (g:=(.need ((decide (0≤(q-(1:Int)))&&decide ((q-(1:Int))<(n:Int)))&&decide (n≤n)) (.need ((decide (((q-(1:Int))).toNat<n)&&decide (0+([iI ((l.getD (q).toNat tPair.zero).a),iI ((l.getD (q).toNat tPair.zero).b)]:List V).length≤2))&&underL 0 ([iI ((l.getD (q).toNat tPair.zero).a),iI ((l.getD (q).toNat tPair.zero).b)]:List V)) (.done .normal ⟨[.row 0 n,iI 0,iI (n:Int),fF 118,uU,uU,uU,uU,iI io,iI q,uU,uU,uU,uU,uU,uU,uU,uU,uU,uU,uU,uU,uU,uU,uU,uU,uU,uU,uU,uU,uU,uU,uU,uU,uU,uU,uU,.row 0 n,iI q,.row 0 n,iI q,iI (q-(1:Int)),.row 0 n,iI q,iI (q-(1:Int)),.ref 0 (((q-(1:Int))).toNat) 0,.agg [iI ((l.getD ((q-(1:Int))).toNat tPair.zero).a),iI ((l.getD ((q-(1:Int))).toNat tPair.zero).b)],.row 0 n,iI q,.ref 0 ((q).toNat) 0,.agg [iI ((l.getD (q).toNat tPair.zero).a),iI ((l.getD (q).toNat tPair.zero).b)],.ref 0 ((q).toNat) 0,.ref 0 (((q-(1:Int))).toNat) 0],[.rows 95 2 n (fun r' j=>if r'=((q-(1:Int))).toNat∧0≤j∧j<0+([iI ((l.getD (q).toNat tPair.zero).a),iI ((l.getD (q).toNat tPair.zero).b)]:List V).length then([iI ((l.getD (q).toNat tPair.zero).a),iI ((l.getD (q).toNat tPair.zero).b)]:List V).getD (j-0) uU else(fun r' j=>if r'=(q).toNat∧0≤j∧j<0+([iI ((l.getD ((q-(1:Int))).toNat tPair.zero).a),iI ((l.getD ((q-(1:Int))).toNat tPair.zero).b)]:List V).length then([iI ((l.getD ((q-(1:Int))).toNat tPair.zero).a),iI ((l.getD ((q-(1:Int))).toNat tPair.zero).b)]:List V).getD (j-0) uU else(rowsOf tPair l) r' j) r' j)],[]⟩)))) (by kernel_rfl) ?_
  simp only[DT.holds]
  repeat' (first|exact rfl|refine And.intro ?_ ?_)
  all_goals first|(simp;done)|(simp;omega)|(simp only[Bool.and_eq_true,decide_eq_true_eq];refine⟨⟨by omega,by simp⟩,rfl⟩)
inductive P149
 |e
 |l0 (x0_8:Int) (a0_0:List Pair)
 |l1 (x0_8:Int) (x1_9:Int) (a1_0:List Pair)
inductive R149
 |r0 (r0:List Pair)
noncomputable def T149(n:Nat)(l:List Pair):P149→Tr P149 R149
 |.e=>(.need (inR .i64 ((0:Int)+(1:Int))) (.go (.l0 ((0:Int)+(1:Int)) l)))
 |.l0 x0_8 a0_0=>(.br (decide (x0_8<(n:Int))) (.go (.l1 x0_8 x0_8 a0_0)) (.out (.r0 a0_0)))
 |.l1 x0_8 x1_9 a1_0=>let c2:=a1_0.getD (x1_9).toNat tPair.zero;let c3:=x1_9-(1:Int);let c1:=a1_0.getD (c3).toNat tPair.zero;let c4:List V:=[iI (c2.a),iI (c2.b)];let c5:List V:=[iI (c1.a),iI (c1.b)];let c6:Tr P149 R149:=.need (inR .i64 (x0_8+(1:Int))) (.go (.l0 (x0_8+(1:Int)) a1_0));let c7:=decide (x1_9>(0:Int));let c8:=(a1_0.set ((x1_9).toNat) c1).set ((c3).toNat) c2;let c9:=rowsOf tPair a1_0;let c10:=(c5:List V);let c11:=(c4:List V);(.br c7 (.front [(14,118,[.agg c4,.agg c5],iI (cmpP c2 c1))] [(3,true)] (((c7==true)&&(((decide (0≤x1_9)&&decide (x1_9<(n:Int)))&&decide (n≤n))&&((decide ((x1_9).toNat<n)&&decide (0+2≤2))&&((inR .i64 c3)&&(((decide (0≤c3)&&decide (c3<(n:Int)))&&decide (n≤n))&&((decide ((c3).toNat<n)&&decide (0+2≤2))&&true))))))&&true) true (.br (decide ((cmpP c2 c1)<(0:Int))) (.wait 3 (.drop ⟨[.nil,.nil,.nil,.nil,uU,uU,uU,uU,.nil,.nil,uU,uU,uU,uU,uU,uU,uU,uU,uU,uU,uU,uU,uU,uU,uU,uU,uU,uU,uU,uU,uU,uU,uU,uU,uU,uU,uU,uU,uU,uU,uU,uU,uU,uU,uU,uU,uU,uU,uU,uU,uU,uU,uU],[.void],[]⟩ (.over (regionOf Tryz.f149 6) ⟨[.row 0 n,iI 0,iI (n:Int),fF 118,uU,uU,uU,uU,iI x0_8,iI x1_9,uU,uU,uU,uU,uU,uU,uU,uU,uU,uU,uU,uU,uU,uU,uU,uU,uU,uU,uU,uU,uU,uU,uU,uU,uU,uU,uU,uU,uU,uU,uU,uU,uU,uU,uU,uU,uU,uU,uU,uU,uU,uU,uU],[.rows 95 2 n c9],[]⟩ .normal ⟨[.row 0 n,iI 0,iI (n:Int),fF 118,uU,uU,uU,uU,iI x0_8,iI x1_9,uU,uU,uU,uU,uU,uU,uU,uU,uU,uU,uU,uU,uU,uU,uU,uU,uU,uU,uU,uU,uU,uU,uU,uU,uU,uU,uU,.row 0 n,iI x1_9,.row 0 n,iI x1_9,iI c3,.row 0 n,iI x1_9,iI c3,.ref 0 ((c3).toNat) 0,.agg c5,.row 0 n,iI x1_9,.ref 0 ((x1_9).toNat) 0,.agg c4,.ref 0 ((x1_9).toNat) 0,.ref 0 ((c3).toNat) 0],[.rows 95 2 n (fun r' j=>if r'=(c3).toNat∧0≤j∧j<0+c11.length then c11.getD (j-0) uU else(fun r' j=>if r'=(x1_9).toNat∧0≤j∧j<0+c10.length then c10.getD (j-0) uU else c9 r' j) r' j)],[]⟩ true (.telb 0 2 n (fun r' j=>if r'=(c3).toNat∧0≤j∧j<0+c11.length then c11.getD (j-0) uU else(fun r' j=>if r'=(x1_9).toNat∧0≤j∧j<0+c10.length then c10.getD (j-0) uU else c9 r' j) r' j) (rowsOf tPair c8) (.need (inR .i64 c3) (.go (.l1 x0_8 c3 c8))))))) c6)) (.front [] [(3,false)] (((c7==false)&&true)&&true) true (.lit false c6)))
noncomputable def g149(n:Nat)(l:List Pair):P149→List Item × St
 |.e=>([.code (Tryz.f149.body.getD .skip)],⟨[.row 0 n,iI 0,iI (n:Int),fF 118]++List.replicate 49 uU,[.rows 95 2 n (rowsOf tPair l)],[]⟩)
 |.l0 x0_8 a0_0=>(cutOf Tryz.f149 0,⟨mk 53 [(0,.row 0 n),(1,iI 0),(2,iI (n:Int)),(3,fF 118),(8,iI x0_8)],[.rows 95 2 n (rowsOf tPair a0_0)],[]⟩)
 |.l1 x0_8 x1_9 a1_0=>(cutOf Tryz.f149 1,⟨mk 53 [(0,.row 0 n),(1,iI 0),(2,iI (n:Int)),(3,fF 118),(8,iI x0_8),(9,iI x1_9)],[.rows 95 2 n (rowsOf tPair a1_0)],[]⟩)
noncomputable def n149(n:Nat)(l:List Pair):R149→Exit × St
 |.r0 r0=>(.normal,⟨mk 53 [],[.rows 95 2 n (rowsOf tPair r0)],[]⟩)
theorem s149(n:Nat)(l:List Pair):Sm 1 (g149 n l) (T149 n l) (n149 n l)
 |.e=>⟨400,by kernel_rfl⟩
 |.l0 _ _=>⟨400,by kernel_rfl⟩
 |.l1 _ _ _=>⟨400,by kernel_rfl⟩
noncomputable def hh149(n:Nat)(l:List Pair):R149→List Blk
 |.r0 r0=>[.rows 95 2 n (rowsOf tPair r0)]
noncomputable def v149(n:Nat)(l:List Pair):R149→V
 |.r0 r0=>.tuple []
theorem q149(n:Nat)(l:List Pair):∀r,((n149 n l r).1=.normal∨(n149 n l r).1=.ret)∧(n149 n l r).2.d=[]∧(n149 n l r).2.h=hh149 n l r∧resultV Tryz.prog Tryz.f149 (n149 n l r).2=some (v149 n l r)
 |.r0 r0=>⟨.inl rfl,rfl,rfl,by kernel_rfl⟩
theorem w149(n:Nat)(l:List Pair){V0:V}{h':List Blk}(h:WP Tryz.prog ⟨none,1⟩ (T149 n l) (Ends' fun r=>v149 n l r=V0∧hh149 n l r=h') .e):HCalls Tryz.prog 149 [.row 0 n,iI 0,iI (n:Int),fF 118] V0 [.rows 95 2 n (rowsOf tPair l)] h':=
 HCalls.wp mx Tryz.func149 (by kernel_rfl) (by kernel_rfl) (T149 n l) (g149 n l) (n149 n l) .e rfl (s149 n l) h fun r hr=>by rw[←hr.1,←hr.2];exact q149 n l r
theorem w149_in(l0:List Pair)(n i:Nat)(φ:P149⊕R149→Prop)(hn:n≤1000):∀(j:Nat) (l:List Pair),l.length=n→j<n→WP Tryz.prog ⟨none,1⟩ (T149 n l0) φ (.l0 ((i:Int)+1) (sift j l))→i<n→WP Tryz.prog ⟨none,1⟩ (T149 n l0) φ (.l1 (i:Int) (j:Int) l)
 |0,l,hl,hj,hend,hi=>by
  have hr:inR .i64 ((i:Int)+1)=true:=inR64 (by omega) (by omega)
  refine WP.step ?_
  have h0:¬((0:Nat):Int)>0:=by omega
  simp only[T149,Tr.sure,h0,decide_false,Bool.false_eq_true,false_imp_iff,true_and,true_imp_iff,hr,Go]
  exact⟨rfl,fun c hc=>by simp at hc,hend⟩
 |j+1,l,hl,hj,hend,hi=>by
  have hr:inR .i64 ((i:Int)+1)=true:=inR64 (by omega) (by omega)
  have hr2:inR .i64 (((j+1:Nat):Int)-1)=true:=inR64 (by omega) (by omega)
  have e1:(((j+1:Nat):Int)).toNat=j+1:=Int.toNat_natCast _
  have e2:((j+1:Nat):Int)-1=(j:Int):=by omega
  have e3:((j:Int)).toNat=j:=Int.toNat_natCast _
  have q1:((j+1:Nat):Int)>0:=by omega
  have q2:((j+1:Nat):Int)<(n:Int):=by omega
  have q3:(0:Int)≤((j+1:Nat):Int):=by omega
  have q4:(j:Int)<(n:Int):=by omega
  have q5:(0:Int)≤(j:Int):=by omega
  have q6:j+1<n:=hj
  have q7:j<n:=by omega
  have k118:=c118 (l.getD (j+1) zPair) (l.getD j zPair)
  have kov:=ov149_6 l n (i:Int) ((j+1:Nat):Int) (by omega) (by omega) hr2
  have hset:((l.set (j+1) (l.getD j zPair)).set j (l.getD (j+1) zPair)).length=n:=by simpa using hl
  have hln:=hl.symm
  have hc:=cmpP_lt (l.getD (j+1) zPair) (l.getD j zPair)
  rw[e2]at hr2
  simp only[e1,e2,e3,z8]at kov
  unfold sift at hend
  by_cases hb:beforeR (l.getD (j+1) zPair) (l.getD j zPair)=true
  ·rw[if_pos hb]at hend
   have ih:=w149_in l0 n i φ hn j _ hset q7 hend hi
   have hc':cmpP (l.getD (j+1) zPair) (l.getD j zPair)<0:=hc.2 hb
   refine WP.step ?_
   simp only[T149,Go,Ends',v149,Tr.sure,SS,e1,e2,e3,q1,q2,z8,hc']
   repeat' with_reducible first|intro _|apply And.intro
   all_goals first|exact(by with_reducible assumption)|exact(by omega)|exact k118|exact(by with_reducible exact tel_pair2 _ _ _ _ _ hln _ _ ‹_› ‹_›)
  ·rw[if_neg hb]at hend
   have hc':¬cmpP (l.getD (j+1) zPair) (l.getD j zPair)<0:=fun h=>hb (hc.1 h)
   refine WP.step ?_
   simp only[T149,Go,Ends',v149,Tr.sure,SS,e1,e2,e3,q1,q2,z8,hc']
   repeat' with_reducible first|intro _|apply And.intro
   all_goals first|exact(by with_reducible assumption)|exact(by omega)|exact k118
theorem c149(n:Nat)(l:List Pair)(hl:l.length=n)(h0:0<n)(hn:n≤1000):HCalls Tryz.prog 149 [.row 0 n,iI 0,iI (n:Int),fF 118] (.tuple []) [.rows 95 2 n (rowsOf tPair l)] [.rows 95 2 n (rowsOf tPair (isortN l n))]:=by
 have r0:inR .i64 ((0:Int)+1)=true:=by decide
 have hmain:WP Tryz.prog ⟨none,1⟩ (T149 n l) (Ends' fun r=>v149 n l r=.tuple []∧hh149 n l r=[.rows 95 2 n (rowsOf tPair (isortN l n))]) (.l0 (0+1) l):=by
  refine WP.count (fun k=>.l0 (0+1+(k:Int)) (isortN l (k+1))) (by simp;rfl) (n-1) (fun _=>True) trivial (fun k hk _=> ?_) fun _=> ?_
  ·have hk':(0:Int)+1+(k:Int)<n:=by omega
   have e:(0:Int)+1+(k:Int)=((k+1:Nat):Int):=by omega
   have e2:(0:Int)+1+((k+1:Nat):Int)=((k+1:Nat):Int)+1:=by omega
   have es:isortN l (k+1+1)=sift (k+1) (isortN l (k+1)):=rfl
   have hw:=w149_in l n (k+1) (fun x=>(x=.inl (.l0 (((k+1:Nat):Int)+1) (isortN l (k+1+1)))∧True)∨Go Tryz.prog ⟨none,1⟩ (T149 n l) (Ends' fun r=>v149 n l r=.tuple []∧hh149 n l r=[.rows 95 2 n (rowsOf tPair (isortN l n))]) x) hn (k+1) (isortN l (k+1)) (by rw[isortN_len,hl]) (by omega) (by rw[es];exact WP.stop (.inl ⟨rfl,trivial⟩)) (by omega)
   rw[e]at hk'⊢
   rw[e2]
   refine WP.step ?_
   simp only[T149,Tr.sure,hk',decide_true,true_imp_iff,Bool.true_eq_false,false_imp_iff,and_true,Go]
   exact hw.mono fun x hx=>by
    rcases hx with⟨h,_⟩|h
    ·exact .inl h
    ·exact .inr h
  ·have e:(0:Int)+1+((n-1:Nat):Int)=n:=by omega
   have e2:n-1+1=n:=by omega
   rw[e,e2]
   refine WP.step ?_
   simp only[T149,Tr.sure,Int.lt_irrefl,decide_false,Bool.false_eq_true,false_imp_iff,true_and,true_imp_iff]
   exact⟨rfl,rfl⟩
 refine w149 n l (WP.step ?_)
 simp only[T149,Tr.sure]
 exact⟨r0,fun _=>hmain⟩
inductive P141
 |e
 |l0
inductive R141
 |r0 (r0:List Pair)
noncomputable def T141(n:Nat)(l:List Pair)(lim:Int):P141→Tr P141 R141
 |.e=>(.go (.l0))
 |.l0=>(.need (inR .i64 ((n:Int)-(0:Int))) (.br (decide (((n:Int)-(0:Int))≤(12:Int))) (.hcall 149 [.row 0 n,iI 0,iI (n:Int),fF 118] (.tuple []) [.rows 95 2 n (rowsOf tPair l)] [.rows 95 2 n (rowsOf tPair (isortN l n))] true (.out (.r0 (isortN l n)))) (.wait 3 .never)))
noncomputable def g141(n:Nat)(l:List Pair)(lim:Int):P141→List Item × St
 |.e=>([.code (Tryz.f141.body.getD .skip)],⟨[.row 0 n,iI 0,iI (n:Int),iI lim,fF 118]++List.replicate 143 uU,[.rows 95 2 n (rowsOf tPair l)],[]⟩)
 |.l0=>(cutOf Tryz.f141 0,⟨mk 148 [(0,.row 0 n),(1,iI 0),(2,iI (n:Int)),(3,iI lim),(4,fF 118),(10,.bool true),(11,.bool true)],[.rows 95 2 n (rowsOf tPair l)],[]⟩)
noncomputable def n141(n:Nat)(l:List Pair):R141→Exit × St
 |.r0 r0=>(.ret,⟨mk 148 [],[.rows 95 2 n (rowsOf tPair r0)],[]⟩)
theorem s141(n:Nat)(l:List Pair)(lim:Int):Sm 1 (g141 n l lim) (T141 n l lim) (n141 n l)
 |.e=>⟨400,by kernel_rfl⟩
 |.l0=>⟨400,by kernel_rfl⟩
noncomputable def hh141(n:Nat)(l:List Pair):R141→List Blk
 |.r0 r0=>[.rows 95 2 n (rowsOf tPair r0)]
noncomputable def v141(n:Nat)(l:List Pair):R141→V
 |.r0 r0=>.tuple []
theorem q141(n:Nat)(l:List Pair):∀r,((n141 n l r).1=.normal∨(n141 n l r).1=.ret)∧(n141 n l r).2.d=[]∧(n141 n l r).2.h=hh141 n l r∧resultV Tryz.prog Tryz.f141 (n141 n l r).2=some (v141 n l r)
 |.r0 r0=>⟨.inr rfl,rfl,rfl,by kernel_rfl⟩
theorem w141(n:Nat)(l:List Pair)(lim:Int){V0:V}{h':List Blk}(h:WP Tryz.prog ⟨none,1⟩ (T141 n l lim) (Ends' fun r=>v141 n l r=V0∧hh141 n l r=h') .e):HCalls Tryz.prog 141 [.row 0 n,iI 0,iI (n:Int),iI lim,fF 118] V0 [.rows 95 2 n (rowsOf tPair l)] h':=
 HCalls.wp mx Tryz.func141 (by kernel_rfl) (by kernel_rfl) (T141 n l lim) (g141 n l lim) (n141 n l) .e rfl (s141 n l lim) h fun r hr=>by rw[←hr.1,←hr.2];exact q141 n l r
theorem c141(n:Nat)(l:List Pair)(lim:Int)(hl:l.length=n)(h0:0<n)(hn:n≤12):HCalls Tryz.prog 141 [.row 0 n,iI 0,iI (n:Int),iI lim,fF 118] (.tuple []) [.rows 95 2 n (rowsOf tPair l)] [.rows 95 2 n (rowsOf tPair (isortN l n))]:=by
 have k:=c149 n l hl h0 (by omega)
 have hr:inR .i64 ((n:Int)-0)=true:=inR64 (by omega) (by omega)
 have hle:(n:Int)-0≤12:=by omega
 have hmain:WP Tryz.prog ⟨none,1⟩ (T141 n l lim) (Ends' fun r=>v141 n l r=.tuple []∧hh141 n l r=[.rows 95 2 n (rowsOf tPair (isortN l n))]) .l0:=by
  refine WP.step ?_
  simp only[T141,Tr.sure,hle,decide_true,true_imp_iff,Bool.true_eq_false,false_imp_iff,and_true]
  exact⟨hr,fun _=>⟨k,rfl,rfl⟩⟩
 refine w141 n l lim (WP.step ?_)
 simp only[T141,Tr.sure]
 exact hmain
end
noncomputable section
def len8:ByteArray:=ByteArray.mk #[0,1,2,2,3,3,3,3,4,4,4,4,4,4,4,4,5,5,5,5,5,5,5,5,5,5,5,5,5,5,5,5,6,6,6,6,6,6,6,6,6,6,6,6,6,6,6,6,6,6,6,6,6,6,6,6,6,6,6,6,6,6,6,6,7,7,7,7,7,7,7,7,7,7,7,7,7,7,7,7,7,7,7,7,7,7,7,7,7,7,7,7,7,7,7,7,7,7,7,7,7,7,7,7,7,7,7,7,7,7,7,7,7,7,7,7,7,7,7,7,7,7,7,7,7,7,7,7,8,8,8,8,8,8,8,8,8,8,8,8,8,8,8,8,8,8,8,8,8,8,8,8,8,8,8,8,8,8,8,8,8,8,8,8,8,8,8,8,8,8,8,8,8,8,8,8,8,8,8,8,8,8,8,8,8,8,8,8,8,8,8,8,8,8,8,8,8,8,8,8,8,8,8,8,8,8,8,8,8,8,8,8,8,8,8,8,8,8,8,8,8,8,8,8,8,8,8,8,8,8,8,8,8,8,8,8,8,8,8,8,8,8,8,8,8,8,8,8,8,8,8,8,8,8,8,8]
inductive P140
 |e
inductive R140
 |r0 (r0:Int)
noncomputable def T140(s:Int):P140→Tr P140 R140
 |.e=>let c1:=((len8.data.getD ((IntKind.wrap .u8 s)).toNat 0).toNat:Int);let c2:Tr P140 R140:=.wait 1 .never;(.br (decide (s≥(4294967296:Int))) c2 (.br (decide (s≥(65536:Int))) c2 (.br (decide (s≥(256:Int))) c2 (.need true (.need (decide (0≤(IntKind.wrap .u8 s))&&decide ((IntKind.wrap .u8 s)<(len8.size:Int))) (.need (inR .i64 c1) (.need (inR .i64 ((0:Int)+c1)) (.out (.r0 ((0:Int)+c1))))))))))
noncomputable def g140(s:Int):P140→List Item × St
 |.e=>bd Tryz.f140 [.int .u64 s] 24
noncomputable def n140:R140→Exit × St
 |.r0 r0=>(.ret,⟨mk 25 [(2,iI r0)],[],[]⟩)
noncomputable def v140:R140→V
 |.r0 r0=>iI r0
theorem s140(s:Int):Sm 0 (g140 s) (T140 s) (n140)
 |.e=>⟨400,by kernel_rfl⟩
theorem q140:∀r,bodyQ Tryz.prog Tryz.f140 (·=v140 r) (n140 r).1 (n140 r).2
 |.r0 r0=>bq (iI r0) (by kernel_rfl)
theorem w140(s:Int){post:V→Prop}(h:WQ (T140 s) v140 post .e):PC 140 [.int .u64 s] post:=
 PCalls.wq Tryz.func140 (s140 s) q140 h
def lenB(s:Int):Int:=0+((len8.data.getD (IntKind.wrap .u8 s).toNat 0).toNat:Int)
theorem lenB_small:∀k:Fin 13,IntKind.wrap .u8 ((k:Nat):Int)=((k:Nat):Int)∧0≤lenB ((k:Nat):Int)∧lenB ((k:Nat):Int)≤255:=by decide
theorem c140(s:Int)(h:0≤s∧s≤12):PC 140 [.int .u64 s] (·=iI (lenB s)):=by
 obtain⟨k,rfl⟩:∃k:Fin 13,s=((k:Nat):Int):=⟨⟨s.toNat,by omega⟩,by simp only;omega⟩
 obtain⟨h1,h2,h3⟩:=lenB_small k
 have hr:inR .i64 (lenB ((k:Nat):Int))=true:=inR64 (by omega) (by omega)
 have hs:(len8.size:Int)=256:=by decide
 have q1:¬((k:Nat):Int)≥4294967296:=by omega
 have q2:¬((k:Nat):Int)≥65536:=by omega
 have q3:¬((k:Nat):Int)≥256:=by omega
 have q4:(0:Int)≤IntKind.wrap .u8 ((k:Nat):Int):=by omega
 have q5:IntKind.wrap .u8 ((k:Nat):Int)<(len8.size:Int):=by omega
 refine w140 _ (WP.step ?_)
 simp only[T140,Tr.sure,q1,q2,q3,decide_false,Bool.false_eq_true,false_imp_iff,true_imp_iff,true_and,q4,q5,decide_true,Bool.and_self]
 have hr1:inR .i64 ((len8.data.getD (IntKind.wrap .u8 ((k:Nat):Int)).toNat 0).toNat:Int)=true:=by unfold lenB at hr;rwa[Int.zero_add]at hr
 exact⟨hr1,fun _=>⟨hr,fun _=>rfl⟩⟩
inductive P114
 |e
inductive R114
 |r0 (r0:Int)
noncomputable def T114(s:Int):P114→Tr P114 R114
 |.e=>(.lit false (.call 140 [.int .u64 s] (iI (lenB s)) true true (.out (.r0 (lenB s)))))
noncomputable def g114(s:Int):P114→List Item × St
 |.e=>bd Tryz.f114 [.int .u64 s] 7
noncomputable def n114:R114→Exit × St
 |.r0 r0=>(.ret,⟨mk 8 [(2,iI r0)],[],[]⟩)
noncomputable def v114:R114→V
 |.r0 r0=>iI r0
theorem s114(s:Int):Sm 0 (g114 s) (T114 s) (n114)
 |.e=>⟨400,by kernel_rfl⟩
theorem q114:∀r,bodyQ Tryz.prog Tryz.f114 (·=v114 r) (n114 r).1 (n114 r).2
 |.r0 r0=>bq (iI r0) (by kernel_rfl)
theorem w114(s:Int){post:V→Prop}(h:WQ (T114 s) v114 post .e):PC 114 [.int .u64 s] post:=
 PCalls.wq Tryz.func114 (s114 s) q114 h
theorem c114(s:Int)(h:0≤s∧s≤12):PC 114 [.int .u64 s] (·=iI (lenB s)):=by
 refine w114 _ (WP.step ?_)
 simp only[T114,Go,Ends',v114,Tr.sure,SS]
 repeat' with_reducible first|intro _|apply And.intro
 all_goals exact c140 s h
inductive P117
 |e
inductive R117
 |r0 (r0:List Pair)
noncomputable def T117(n:Nat)(l:List Pair):P117→Tr P117 R117
 |.e=>let c1:=IntKind.wrap .u64 (n:Int);(.need true (.call 114 [.int .u64 c1] (iI (lenB c1)) true true (.hcall 141 [.row 0 n,iI 0,iI (n:Int),iI (lenB c1),fF 118] (.tuple []) [.rows 95 2 n (rowsOf tPair l)] [.rows 95 2 n (rowsOf tPair (isortN l n))] true (.out (.r0 (isortN l n))))))
noncomputable def g117(n:Nat)(l:List Pair):P117→List Item × St
 |.e=>([.code (Tryz.f117.body.getD .skip)],⟨[.row 0 n,fF 118]++List.replicate 12 uU,[.rows 95 2 n (rowsOf tPair l)],[]⟩)
noncomputable def n117(n:Nat)(l:List Pair):R117→Exit × St
 |.r0 r0=>(.normal,⟨mk 14 [],[.rows 95 2 n (rowsOf tPair r0)],[]⟩)
theorem s117(n:Nat)(l:List Pair):Sm 1 (g117 n l) (T117 n l) (n117 n l)
 |.e=>⟨400,by kernel_rfl⟩
noncomputable def hh117(n:Nat)(l:List Pair):R117→List Blk
 |.r0 r0=>[.rows 95 2 n (rowsOf tPair r0)]
noncomputable def v117(n:Nat)(l:List Pair):R117→V
 |.r0 r0=>.tuple []
theorem q117(n:Nat)(l:List Pair):∀r,((n117 n l r).1=.normal∨(n117 n l r).1=.ret)∧(n117 n l r).2.d=[]∧(n117 n l r).2.h=hh117 n l r∧resultV Tryz.prog Tryz.f117 (n117 n l r).2=some (v117 n l r)
 |.r0 r0=>⟨.inl rfl,rfl,rfl,by kernel_rfl⟩
theorem w117(n:Nat)(l:List Pair){V0:V}{h':List Blk}(h:WP Tryz.prog ⟨none,1⟩ (T117 n l) (Ends' fun r=>v117 n l r=V0∧hh117 n l r=h') .e):HCalls Tryz.prog 117 [.row 0 n,fF 118] V0 [.rows 95 2 n (rowsOf tPair l)] h':=
 HCalls.wp mx Tryz.func117 (by kernel_rfl) (by kernel_rfl) (T117 n l) (g117 n l) (n117 n l) .e rfl (s117 n l) h fun r hr=>by rw[←hr.1,←hr.2];exact q117 n l r
theorem c117(n:Nat)(l:List Pair)(hl:l.length=n)(h0:0<n)(hn:n≤12):HCalls Tryz.prog 117 [.row 0 n,fF 118] (.tuple []) [.rows 95 2 n (rowsOf tPair l)] [.rows 95 2 n (rowsOf tPair (isortN l n))]:=by
 have hw:=wrap64 (s:=(n:Int)) ⟨by omega,by omega⟩
 have k1:=c114 (n:Int) ⟨by omega,by omega⟩
 have k2:=fun lim=>c141 n l lim hl h0 hn
 refine w117 n l (WP.step ?_)
 simp only[T117,Tr.sure,hw,true_imp_iff,true_and]
 exact⟨k1,k2 _,rfl,rfl⟩
theorem c117at(n:Nat)(l:List Pair)(hl:l.length=n)(h0:0<n)(hn:n≤12)(h:List Blk)(q:Nat)(hq:h[q]? =some (.rows 95 2 n (rowsOf tPair l))):HCalls Tryz.prog 117 [.row q n,fF 118] (.tuple []) h (h.set q (.rows 95 2 n (rowsOf tPair (isortN l n)))):=
 (c117 n l hl h0 hn).atRow (fun j=>match j with
  |0=>.inr (.inl ⟨n,rfl⟩)
  |1=>.inr (.inr rfl)
  |j+2=>.inr (.inr rfl)) (.inr rfl) h0 hq
inductive P124
 |e
inductive R124
 |r0 (r0_0:Int) (r0_1:Int)
noncomputable def T124(n:Int)(m:Int):P124→Tr P124 R124
 |.e=>(.out (.r0 (min n m) (max n m)))
noncomputable def g124(n:Int)(m:Int):P124→List Item × St
 |.e=>bd Tryz.f124 [iI n,iI m] 10
noncomputable def n124:R124→Exit × St
 |.r0 r0_0 r0_1=>(.ret,⟨mk 12 [(4,.ref 0 0 0)],[.cells [iI r0_0,iI r0_1]],[]⟩)
noncomputable def v124:R124→V
 |.r0 r0_0 r0_1=>.agg [iI r0_0,iI r0_1]
theorem s124(n:Int)(m:Int):Sm 0 (g124 n m) (T124 n m) (n124)
 |.e=>⟨400,by kernel_rfl⟩
theorem q124:∀r,bodyQ Tryz.prog Tryz.f124 (·=v124 r) (n124 r).1 (n124 r).2
 |.r0 r0_0 r0_1=>bq (.agg [iI r0_0,iI r0_1]) (by kernel_rfl)
theorem w124(n:Int)(m:Int){post:V→Prop}(h:WQ (T124 n m) v124 post .e):PC 124 [iI n,iI m] post:=
 PCalls.wq Tryz.func124 (s124 n m) q124 h
theorem c124(n m:Int):PC 124 [iI n,iI m] (·=.agg (tPair.cells (pairR n m))):=by
 refine w124 _ _ (WP.step ?_)
 simp only[T124,Go,Ends',v124,Tr.sure,SS]
 repeat' with_reducible first|intro _|apply And.intro
 all_goals simp[pairR,tPair,Go,Ends',v124,-List.getD_eq_getElem?_getD, *]
def allP(s:Int):List Pair:=(List.range 5).flatMap fun k=>(List.range k).filterMap fun i=>if bitH s i=true∧bitH s k=true then some ⟨(i:Int),(k:Int)⟩else none
def pairsP(x:Line):List Pair:=if x.kind=0 then[pairR x.a x.b]else if x.kind=1 then[pairR x.a x.b,pairR x.c x.d]else if x.kind=2 then allP x.set else[zPair]
inductive P122
 |e
inductive R122
 |r0
noncomputable def T122(x:Line):P122→Tr P122 R122
 |.e=>(.out (.r0))
noncomputable def g122(x:Line):P122→List Item × St
 |.e=>bd Tryz.f122 [.agg [iI x.day,iI x.kind,iI x.a,iI x.b,iI x.c,iI x.d,iI x.set]] 4
noncomputable def n122(x:Line):R122→Exit × St
 |.r0=>(.ret,⟨mk 5 [(2,.row 1 1)],[.gone,.rows 95 2 1 (litC 2 1 [iI 0,iI 0])],[]⟩)
theorem s122(x:Line):Sm 0 (g122 x) (T122 x) (n122 x)
 |.e=>⟨400,by kernel_rfl⟩
noncomputable def hh122(x:Line):R122→List Blk
 |.r0=>[.gone,.rows 95 2 1 (litC 2 1 [iI 0,iI 0])]
noncomputable def v122(x:Line):R122→V
 |.r0=>.row 1 1
theorem q122(x:Line):∀r,((n122 x r).1=.normal∨(n122 x r).1=.ret)∧(n122 x r).2.d=[]∧(n122 x r).2.h=hh122 x r∧resultV Tryz.prog Tryz.f122 (n122 x r).2=some (v122 x r)
 |.r0=>⟨.inr rfl,rfl,rfl,by kernel_rfl⟩
theorem w122(x:Line){V0:V}{h':List Blk}(h:WP Tryz.prog ⟨none,0⟩ (T122 x) (Ends' fun r=>v122 x r=V0∧hh122 x r=h') .e):HCalls Tryz.prog 122 [.agg [iI x.day,iI x.kind,iI x.a,iI x.b,iI x.c,iI x.d,iI x.set]] V0 [] h':=
 HCalls.wp mx Tryz.func122 (by kernel_rfl) (by kernel_rfl) (T122 x) (g122 x) (n122 x) .e rfl (s122 x) h fun r hr=>by rw[←hr.1,←hr.2];exact q122 x r
inductive P123
 |e
inductive R123
 |r0
noncomputable def T123(x:Line):P123→Tr P123 R123
 |.e=>(.call 124 [iI x.a,iI x.b] (.agg [iI ((pairR x.a x.b).a),iI ((pairR x.a x.b).b)]) true true (.out (.r0)))
noncomputable def g123(x:Line):P123→List Item × St
 |.e=>bd Tryz.f123 [.agg [iI x.day,iI x.kind,iI x.a,iI x.b,iI x.c,iI x.d,iI x.set]] 8
noncomputable def n123(x:Line):R123→Exit × St
 |.r0=>(.ret,⟨mk 9 [(2,.row 1 1)],[.gone,.rows 95 2 1 (litC 2 1 [iI ((pairR x.a x.b).a),iI ((pairR x.a x.b).b)])],[]⟩)
theorem s123(x:Line):Sm 0 (g123 x) (T123 x) (n123 x)
 |.e=>⟨400,by kernel_rfl⟩
noncomputable def hh123(x:Line):R123→List Blk
 |.r0=>[.gone,.rows 95 2 1 (litC 2 1 [iI ((pairR x.a x.b).a),iI ((pairR x.a x.b).b)])]
noncomputable def v123(x:Line):R123→V
 |.r0=>.row 1 1
theorem q123(x:Line):∀r,((n123 x r).1=.normal∨(n123 x r).1=.ret)∧(n123 x r).2.d=[]∧(n123 x r).2.h=hh123 x r∧resultV Tryz.prog Tryz.f123 (n123 x r).2=some (v123 x r)
 |.r0=>⟨.inr rfl,rfl,rfl,by kernel_rfl⟩
theorem w123(x:Line){V0:V}{h':List Blk}(h:WP Tryz.prog ⟨none,0⟩ (T123 x) (Ends' fun r=>v123 x r=V0∧hh123 x r=h') .e):HCalls Tryz.prog 123 [.agg [iI x.day,iI x.kind,iI x.a,iI x.b,iI x.c,iI x.d,iI x.set]] V0 [] h':=
 HCalls.wp mx Tryz.func123 (by kernel_rfl) (by kernel_rfl) (T123 x) (g123 x) (n123 x) .e rfl (s123 x) h fun r hr=>by rw[←hr.1,←hr.2];exact q123 x r
inductive P125
 |e
inductive R125
 |r0
noncomputable def T125(x:Line):P125→Tr P125 R125
 |.e=>(.front [(4,124,[iI x.a,iI x.b],.agg [iI ((pairR x.a x.b).a),iI ((pairR x.a x.b).b)])] [] true true (.call 124 [iI x.c,iI x.d] (.agg [iI ((pairR x.c x.d).a),iI ((pairR x.c x.d).b)]) true true (.out (.r0))))
noncomputable def g125(x:Line):P125→List Item × St
 |.e=>bd Tryz.f125 [.agg [iI x.day,iI x.kind,iI x.a,iI x.b,iI x.c,iI x.d,iI x.set]] 13
noncomputable def n125(x:Line):R125→Exit × St
 |.r0=>(.ret,⟨mk 14 [(2,.row 1 2)],[.gone,.rows 95 2 2 (litC 2 2 [iI ((pairR x.a x.b).a),iI ((pairR x.a x.b).b),iI ((pairR x.c x.d).a),iI ((pairR x.c x.d).b)])],[]⟩)
theorem s125(x:Line):Sm 0 (g125 x) (T125 x) (n125 x)
 |.e=>⟨400,by kernel_rfl⟩
noncomputable def hh125(x:Line):R125→List Blk
 |.r0=>[.gone,.rows 95 2 2 (litC 2 2 [iI ((pairR x.a x.b).a),iI ((pairR x.a x.b).b),iI ((pairR x.c x.d).a),iI ((pairR x.c x.d).b)])]
noncomputable def v125(x:Line):R125→V
 |.r0=>.row 1 2
theorem q125(x:Line):∀r,((n125 x r).1=.normal∨(n125 x r).1=.ret)∧(n125 x r).2.d=[]∧(n125 x r).2.h=hh125 x r∧resultV Tryz.prog Tryz.f125 (n125 x r).2=some (v125 x r)
 |.r0=>⟨.inr rfl,rfl,rfl,by kernel_rfl⟩
theorem w125(x:Line){V0:V}{h':List Blk}(h:WP Tryz.prog ⟨none,0⟩ (T125 x) (Ends' fun r=>v125 x r=V0∧hh125 x r=h') .e):HCalls Tryz.prog 125 [.agg [iI x.day,iI x.kind,iI x.a,iI x.b,iI x.c,iI x.d,iI x.set]] V0 [] h':=
 HCalls.wp mx Tryz.func125 (by kernel_rfl) (by kernel_rfl) (T125 x) (g125 x) (n125 x) .e rfl (s125 x) h fun r hr=>by rw[←hr.1,←hr.2];exact q125 x r
theorem one_row(p:Pair)(r j:Nat)(hr:r<1):VLe (litC 2 1 (tPair.cells p) r j) (rowsOf tPair [p] r j):=by
 obtain rfl:r=0:=by omega
 exact VLe.refl _
theorem c122(x:Line)(hk:x.kind=3∨x.kind=4):HCalls Tryz.prog 122 [.agg (tLine.cells x)] (.row 1 (pairsP x).length) [] [.gone,.rows 95 2 (pairsP x).length (rowsOf tPair (pairsP x))]:=by
 have e:pairsP x=[zPair]:=by unfold pairsP;rw[if_neg (by omega),if_neg (by omega),if_neg (by omega)]
 have h1:HCalls Tryz.prog 122 [.agg (tLine.cells x)] (.row 1 1) [] [.gone,.rows 95 2 1 (litC 2 1 [iI 0,iI 0])]:=by
  refine w122 x (WP.step ?_)
  simp only[T122,Tr.sure]
  exact⟨rfl,rfl⟩
 rw[e]
 exact h1.telR (q:=1) (c':=rowsOf tPair [zPair]) rfl fun r j hr _=>one_row zPair r j hr
theorem c123(x:Line)(hk:x.kind=0):HCalls Tryz.prog 123 [.agg (tLine.cells x)] (.row 1 (pairsP x).length) [] [.gone,.rows 95 2 (pairsP x).length (rowsOf tPair (pairsP x))]:=by
 have e:pairsP x=[pairR x.a x.b]:=by unfold pairsP;rw[if_pos hk]
 have k:=c124 x.a x.b
 have h1:HCalls Tryz.prog 123 [.agg (tLine.cells x)] (.row 1 1) [] [.gone,.rows 95 2 1 (litC 2 1 (tPair.cells (pairR x.a x.b)))]:=by
  refine w123 x (WP.step ?_)
  simp only[T123,Tr.sure,true_and]
  exact⟨k,rfl,rfl⟩
 rw[e]
 exact h1.telR (q:=1) (c':=rowsOf tPair [pairR x.a x.b]) rfl fun r j hr _=>one_row _ r j hr
theorem c125(x:Line)(hk:x.kind=1):HCalls Tryz.prog 125 [.agg (tLine.cells x)] (.row 1 (pairsP x).length) [] [.gone,.rows 95 2 (pairsP x).length (rowsOf tPair (pairsP x))]:=by
 have e:pairsP x=[pairR x.a x.b,pairR x.c x.d]:=by unfold pairsP;rw[if_neg (by omega),if_pos hk]
 have k1:=c124 x.a x.b
 have k2:=c124 x.c x.d
 have h1:HCalls Tryz.prog 125 [.agg (tLine.cells x)] (.row 1 2) [] [.gone,.rows 95 2 2 (litC 2 2 (tPair.cells (pairR x.a x.b)++tPair.cells (pairR x.c x.d)))]:=by
  refine w125 x (WP.step ?_)
  simp only[T125,Tr.sure,true_and,List.forall_mem_cons,List.not_mem_nil,false_imp_iff,implies_true,and_true]
  exact⟨k1,k2,rfl,rfl⟩
 rw[e]
 refine h1.telR (q:=1) (c':=rowsOf tPair [pairR x.a x.b,pairR x.c x.d]) rfl fun r j hr hj=> ?_
 have hr:r<2:=hr
 rw[litC_eq (len:=2) hr]
 rcases show r=0∨r=1 by omega with rfl|rfl<;>rcases show j=0∨j=1 by omega with rfl|rfl<;>exact VLe.refl _
def rowP(s:Int)(k i:Nat):List Pair:=(List.range i).filterMap fun i=>if bitH s i=true∧bitH s k=true then some ⟨(i:Int),(k:Int)⟩else none
def allTo(s:Int)(k:Nat):List Pair:=(List.range k).flatMap fun k=>rowP s k k
theorem rowP_next(s:Int)(k i:Nat):rowP s k (i+1)=if bitH s i=true∧bitH s k=true then rowP s k i++ [⟨(i:Int),(k:Int)⟩]else rowP s k i:=by
 unfold rowP
 rw[List.range_succ,List.filterMap_append]
 by_cases h:bitH s i=true∧bitH s k=true
 ·rw[if_pos h];simp[h]
 ·rw[if_neg h];simp[h]
theorem rowP_len(s:Int)(k i:Nat):(rowP s k i).length≤i:=by
 unfold rowP
 have:=List.length_filterMap_le (fun i:Nat=>if bitH s i=true∧bitH s k=true then some (⟨(i:Int),(k:Int)⟩:Pair)else none) (List.range i)
 rwa[List.length_range]at this
theorem allTo_next(s:Int)(k:Nat):allTo s (k+1)=allTo s k++rowP s k k:=by
 unfold allTo;rw[List.range_succ,List.flatMap_append];simp
theorem allTo_len(s:Int):∀k,(allTo s k).length≤k*k
 |0=>by simp[allTo]
 |k+1=>by
  rw[allTo_next,List.length_append]
  have h1:=allTo_len s k
  have h2:=rowP_len s k k
  have h3:(k+1)*(k+1)=k*k+2*k+1:=by rw[Nat.add_mul,Nat.mul_add];omega
  omega
def bitP(s i:Int):Bool:=(bitsOf .and .i64 (s.fdiv (2^(min i.toNat 64))) (1:Int))==(1:Int)
theorem bitP_small:∀(s:Fin 32) (i:Fin 5),bitP ((s:Nat):Int) ((i:Nat):Int)=bitH ((s:Nat):Int) i:=by decide
inductive P127
 |e
 |l0 (x0_5:Int) (a0_0:List Pair)
 |l1 (x0_5:Int) (x1_9:Int) (a1_0:List Pair)
inductive R127
 |r0 (r0:List Pair) (r1:Nat)
noncomputable def T127(s:Int):P127→Tr P127 R127
 |.e=>(.wait 2 (.own 2 95 2 (.go (.l0 0 ([])))))
 |.l0 x0_5 a0_0=>(.br (decide (x0_5<(5:Int))) (.go (.l1 x0_5 0 a0_0)) (.out (.r0 a0_0 a0_0.length)))
 |.l1 x0_5 x1_9 a1_0=>let c1:=x1_9+(1:Int);let c2:Tr P127 R127:=.need (inR .i64 c1) (.go (.l1 x0_5 c1 a1_0));(.br (decide (x1_9<x0_5)) (.need (decide (0≤x1_9)) (.br ((bitsOf .and .i64 (s.fdiv (2^(min (x1_9).toNat 64))) (1:Int))==(1:Int)) (.need (decide (0≤x0_5)) (.br ((bitsOf .and .i64 (s.fdiv (2^(min (x0_5).toNat 64))) (1:Int))==(1:Int)) (.need ((decide (a1_0.length=a1_0.length)&&decide (a1_0.length+1≤4294967296))&&decide (1≤1)) (.scal (fun _=>true) (.need (inR .i64 c1) (.go (.l1 x0_5 c1 ((⟨x1_9,x0_5⟩:Pair)::a1_0)))))) c2)) (.lit false c2))) (.need (inR .i64 (x0_5+(1:Int))) (.go (.l0 (x0_5+(1:Int)) a1_0))))
noncomputable def g127(s:Int):P127→List Item × St
 |.e=>bd Tryz.f127 [iI s] 32
 |.l0 x0_5 a0_0=>(cutOf Tryz.f127 0,⟨mk 33 [(0,iI s),(2,.row 0 a0_0.length),(5,iI x0_5)],[.rows 95 2 a0_0.length (rowsRev tPair a0_0)],[]⟩)
 |.l1 x0_5 x1_9 a1_0=>(cutOf Tryz.f127 1,⟨mk 33 [(0,iI s),(2,.row 0 a1_0.length),(3,iI x0_5),(5,iI x0_5),(8,iI x0_5),(9,iI x1_9)],[.rows 95 2 a1_0.length (rowsRev tPair a1_0)],[]⟩)
noncomputable def n127(s:Int):R127→Exit × St
 |.r0 r0 r1=>(.ret,⟨mk 33 [(2,.row 0 r1)],[.rows 95 2 r0.length (rowsRev tPair r0)],[]⟩)
theorem s127(s:Int):Sm 0 (g127 s) (T127 s) (n127 s)
 |.e=>⟨400,by kernel_rfl⟩
 |.l0 _ _=>⟨400,by kernel_rfl⟩
 |.l1 _ _ _=>⟨400,by kernel_rfl⟩
noncomputable def hh127(s:Int):R127→List Blk
 |.r0 r0 r1=>[.rows 95 2 r0.length (rowsRev tPair r0)]
noncomputable def v127(s:Int):R127→V
 |.r0 r0 r1=>.row 0 r1
theorem q127(s:Int):∀r,((n127 s r).1=.normal∨(n127 s r).1=.ret)∧(n127 s r).2.d=[]∧(n127 s r).2.h=hh127 s r∧resultV Tryz.prog Tryz.f127 (n127 s r).2=some (v127 s r)
 |.r0 r0 r1=>⟨.inr rfl,rfl,rfl,by kernel_rfl⟩
theorem w127(s:Int){V0:V}{h':List Blk}(h:WP Tryz.prog ⟨none,0⟩ (T127 s) (Ends' fun r=>v127 s r=V0∧hh127 s r=h') .e):HCalls Tryz.prog 127 [iI s] V0 [] h':=
 HCalls.wp mx Tryz.func127 (by kernel_rfl) (by kernel_rfl) (T127 s) (g127 s) (n127 s) .e rfl (s127 s) h fun r hr=>by rw[←hr.1,←hr.2];exact q127 s r
theorem c127(s:Int)(h:0≤s∧s≤31):HCalls Tryz.prog 127 [iI s] (.row 0 (allP s).length) [] [.rows 95 2 (allP s).length (rowsOf tPair (allP s))]:=by
 obtain⟨z,rfl⟩:∃z:Fin 32,s=((z:Nat):Int):=⟨⟨s.toNat,by omega⟩,by simp only;omega⟩
 have hbit:∀i:Nat,i<5→bitP ((z:Nat):Int) (i:Int)=bitH ((z:Nat):Int) i:=fun i hi=>bitP_small z ⟨i,hi⟩
 generalize((z:Nat):Int)=s at*
 have hmain:WP Tryz.prog ⟨none,0⟩ (T127 s) (Ends' fun r=>v127 s r=.row 0 (allP s).reverse.length∧hh127 s r=[.rows 95 2 (allP s).reverse.length (rowsRev tPair (allP s).reverse)]) (.l0 0 []):=by
  have eA:allP s=allTo s 5:=rfl
  rw[eA]
  refine WP.run (fun k=>.l0 (k:Int) (allTo s k).reverse) rfl 5 (fun k hk=> ?_) ?_
  ·have hr:inR .i64 ((k:Int)+1)=true:=inR64 (by omega) (by omega)
   have hk':(k:Int)<5:=by omega
   have hal:=allTo_len s k
   have hkk:k*k≤25:=by rcases show k=0∨k=1∨k=2∨k=3∨k=4 by omega with rfl|rfl|rfl|rfl|rfl<;>decide
   rw[allTo_next,List.reverse_append]
   refine WP.step ?_
   simp only[T127,Go,Ends',v127,Tr.sure,SS,hk']
   repeat' with_reducible first|intro _|apply And.intro
   refine WP.run (fun i=>.l1 (k:Int) (i:Int) ((rowP s k i).reverse++(allTo s k).reverse)) rfl k (fun i hi=> ?_) ?_
   ·have hr2:inR .i64 ((i:Int)+1)=true:=inR64 (by omega) (by omega)
    have hi':(i:Int)<k:=by omega
    have hrl:=rowP_len s k i
    have hlen:((rowP s k i).reverse++(allTo s k).reverse).length+1≤4294967296:=by simp only[List.length_append,List.length_reverse];omega
    have b1:=hbit i (by omega)
    have b2:=hbit k hk
    unfold bitP at b1 b2
    rw[Int.toNat_natCast]at b1 b2
    rw[rowP_next,←b1,←b2]
    generalize hA:(rowP s k i).reverse++(allTo s k).reverse=A at*
    have hA2:((rowP s k i++ [(⟨(i:Int),(k:Int)⟩:Pair)]).reverse++(allTo s k).reverse)=(⟨(i:Int),(k:Int)⟩:Pair)::A:=by rw[←hA];simp
    cases g1:(bitsOf .and .i64 (s.fdiv (2^(min i 64))) (1:Int))==(1:Int)with
    |false=>
     simp only[Bool.false_eq_true,false_and,if_false,hA]
     refine WP.once ?_
     simp only[T127,Tr.sure,SS,hi',g1]
     repeat' with_reducible first|intro _|apply And.intro
     all_goals simp[hr2,hlen,Go,Ends',v127,-List.getD_eq_getElem?_getD, *]
    |true=>
     cases g2:(bitsOf .and .i64 (s.fdiv (2^(min k 64))) (1:Int))==(1:Int)with
     |false=>
      simp only[Bool.false_eq_true,and_false,if_false,hA]
      refine WP.once ?_
      simp only[T127,Tr.sure,SS,hi',g1,g2]
      repeat' with_reducible first|intro _|apply And.intro
      all_goals simp[hr2,hlen,Go,Ends',v127,-List.getD_eq_getElem?_getD, *]
     |true=>
      simp only[true_and,if_true,hA2]
      refine WP.once ?_
      simp only[T127,Tr.sure,SS,hi',g1,g2]
      repeat' with_reducible first|intro _|apply And.intro
      all_goals simp[hr2,hlen,Go,Ends',v127,-List.getD_eq_getElem?_getD, *]
   ·refine WP.once ?_
    simp only[T127,Tr.sure,SS,Int.lt_irrefl]
    repeat' with_reducible first|intro _|apply And.intro
    all_goals simp[hr,Go,Ends',v127,-List.getD_eq_getElem?_getD, *]
  ·refine WP.step ?_
   simp only[T127,Go,Ends',v127,Tr.sure,SS,Int.lt_irrefl]
   repeat' with_reducible first|intro _|apply And.intro
   all_goals first|exact rfl|(simp_all [hh127,Go,Ends',v127,-List.getD_eq_getElem?_getD];done)
 have h1:HCalls Tryz.prog 127 [iI s] (.row 0 (allP s).reverse.length) [] [.rows 95 2 (allP s).reverse.length (rowsRev tPair (allP s).reverse)]:=by
  refine w127 s (WP.step ?_)
  simp only[T127,Tr.sure]
  exact hmain
 rw[List.length_reverse]at h1
 refine h1.telR (q:=0) (c':=rowsOf tPair (allP s)) rfl fun r j hr hj=> ?_
 have:=rowsRev_get tPair (allP s).reverse r j (by rw[List.length_reverse];exact hr)
 rw[List.reverse_reverse]at this
 rw[this];exact VLe.refl _
inductive P126
 |e
inductive R126
 |r0 (r0:List Pair)
noncomputable def T126(x:Line):P126→Tr P126 R126
 |.e=>let c1:List V:=[iI x.day,iI x.kind,iI x.a,iI x.b,iI x.c,iI x.d,iI x.set];let c2:=allP x.set;(.hcall 127 [iI x.set] (.row 1 (c2.length)) [.cells c1] [.cells c1,.rows 95 2 (c2.length) (rowsOf tPair c2)] true (.out (.r0 c2)))
noncomputable def g126(x:Line):P126→List Item × St
 |.e=>bd Tryz.f126 [.agg [iI x.day,iI x.kind,iI x.a,iI x.b,iI x.c,iI x.d,iI x.set]] 5
noncomputable def n126(x:Line):R126→Exit × St
 |.r0 r0=>(.ret,⟨mk 6 [(2,.row 1 ((allP x.set).length))],[.gone,.rows 95 2 r0.length (rowsOf tPair r0)],[]⟩)
theorem s126(x:Line):Sm 0 (g126 x) (T126 x) (n126 x)
 |.e=>⟨400,by kernel_rfl⟩
noncomputable def hh126(x:Line):R126→List Blk
 |.r0 r0=>[.gone,.rows 95 2 r0.length (rowsOf tPair r0)]
noncomputable def v126(x:Line):R126→V
 |.r0 r0=>.row 1 ((allP x.set).length)
theorem q126(x:Line):∀r,((n126 x r).1=.normal∨(n126 x r).1=.ret)∧(n126 x r).2.d=[]∧(n126 x r).2.h=hh126 x r∧resultV Tryz.prog Tryz.f126 (n126 x r).2=some (v126 x r)
 |.r0 r0=>⟨.inr rfl,rfl,rfl,by kernel_rfl⟩
theorem w126(x:Line){V0:V}{h':List Blk}(h:WP Tryz.prog ⟨none,0⟩ (T126 x) (Ends' fun r=>v126 x r=V0∧hh126 x r=h') .e):HCalls Tryz.prog 126 [.agg [iI x.day,iI x.kind,iI x.a,iI x.b,iI x.c,iI x.d,iI x.set]] V0 [] h':=
 HCalls.wp mx Tryz.func126 (by kernel_rfl) (by kernel_rfl) (T126 x) (g126 x) (n126 x) .e rfl (s126 x) h fun r hr=>by rw[←hr.1,←hr.2];exact q126 x r
theorem c126(x:Line)(hk:x.kind=2)(hs:0≤x.set∧x.set≤31):HCalls Tryz.prog 126 [.agg (tLine.cells x)] (.row 1 (pairsP x).length) [] [.gone,.rows 95 2 (pairsP x).length (rowsOf tPair (pairsP x))]:=by
 have e:pairsP x=allP x.set:=by unfold pairsP;rw[if_neg (by omega),if_neg (by omega),if_pos hk]
 have k:=(c127 x.set hs).frame rfl rfl [.cells (tLine.cells x)]
 rw[e]
 refine w126 x (WP.step ?_)
 simp only[T126,Tr.sure,true_and]
 exact⟨k,rfl,rfl⟩
end
end Go.Proofs.YtemgodefhcbleaaGreat
