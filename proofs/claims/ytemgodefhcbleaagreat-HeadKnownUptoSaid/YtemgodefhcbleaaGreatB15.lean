/-
  Part of the proof of the Head laws. Conditions: those that stand in each theorem.
-/
import Derived.Test.YtemgodefhcbleaaGreatB14
set_option linter.unusedSimpArgs false
set_option linter.unusedVariables false
set_option maxRecDepth 100000
namespace Go.Proofs.YtemgodefhcbleaaGreat
open Ab Go Go.Sort Go.Shelf Go.Proofs
noncomputable section
def bts(x:ByteArray):List UInt8:=x.toList
def unb(l:List UInt8):ByteArray:=⟨l.toArray⟩
theorem unb_bts(x:ByteArray):unb (bts x)=x:=by
 unfold unb bts
 rw[ByteArray.toList_eq]
theorem bts_unb(l:List UInt8):bts (unb l)=l:=by
 unfold unb bts
 rw[ByteArray.toList_eq]
def vS(l:List UInt8):V:=.str (unb l)
theorem encS:EncV encStr vS where
 of:=fun h=>by cases h;rfl
 to:=fun x=>.str _
def leS(x y:List UInt8):Bool:=decide (x≤y)
def sortT(l:List ByteArray):List ByteArray:=((l.map bts).mergeSort leS).map unb
def compT(l:List ByteArray):List ByteArray:=(Lib.compact (l.map bts)).map unb
def padT(l:List ByteArray)(n:Nat):List ByteArray:=l++List.replicate (n-l.length) ByteArray.empty
theorem sortT_len(l:List ByteArray):(sortT l).length=l.length:=by unfold sortT;rw[List.length_map,List.length_mergeSort,List.length_map]
theorem rowS_of{c:Nat→Nat→V}{l:List ByteArray}(h:∀r,r<l.length→c r 0=.str (l.getD r ByteArray.empty)):RowE vS c (l.map bts):=fun r hr=>by
 rw[List.length_map]at hr
 rw[h r hr,List.getD_eq_getElem?_getD,List.getD_eq_getElem?_getD,List.getElem?_map,List.getElem?_eq_getElem hr]
 show V.str l[r]=V.str (unb (bts l[r]))
 rw[unb_bts]
theorem rowS_to{l:List (List UInt8)}:RowE vS (rowsOf tstr (l.map unb)) l:=fun r hr=>by
 unfold rowsOf
 rw[List.getD_eq_getElem?_getD (l:=l.map unb),List.getD_eq_getElem?_getD (l:=l),List.getElem?_map,List.getElem?_eq_getElem hr];rfl
theorem c82(h:List Blk)(q:Nat)(l:List ByteArray)(c:Nat→Nat→V)(hi:h[q]? =some (.rows 9 1 l.length c))(hc:∀r,r<l.length→c r 0=.str (l.getD r ByteArray.empty)):HCalls Tryz.prog 82 [.row q l.length] (.tuple []) h (h.set q (.rows 9 1 l.length (rowsOf tstr (sortT l)))):=by
 have:=HCalls.sortE (le:=leS) encS (PCalls.enters Tryz.func82 (c:=Tryz.f82.body.getD .skip) (by kernel_rfl) (by kernel_rfl)) Tryz.slices_Sort_string Tryz.slices_Sort_string_none (l:=l.map bts) (c':=rowsOf tstr (sortT l)) (by rw[List.length_map];exact hi) (rowS_of hc) rowS_to
 rwa[List.length_map]at this
theorem c83(h:List Blk)(q:Nat)(l:List ByteArray)(c:Nat→Nat→V)(hi:h[q]? =some (.rows 9 1 l.length c))(hc:∀r,r<l.length→c r 0=.str (l.getD r ByteArray.empty)):HCalls Tryz.prog 83 [.row q l.length] (.row q (compT l).length) h (h.set q (.rows 9 1 l.length (rowsOf tstr (padT (compT l) l.length)))):=by
 have e:padT (compT l) l.length=(padE (Lib.compact (l.map bts)) (l.map bts).length).map unb:=by
  unfold padT compT padE
  rw[List.map_append,List.length_map,List.length_map,List.map_replicate];rfl
 have:=HCalls.compactE encS (PCalls.enters Tryz.func83 (c:=Tryz.f83.body.getD .skip) (by kernel_rfl) (by kernel_rfl)) Tryz.slices_Compact_string Tryz.slices_Compact_string_empty (l:=l.map bts) (c':=rowsOf tstr (padT (compT l) l.length)) (by rw[List.length_map];exact hi) (rowS_of hc) (by rw[e];exact rowS_to)
 rw[List.length_map]at this
 have e2:(compT l).length=(Lib.compact (l.map bts)).length:=by unfold compT;rw[List.length_map]
 rw[e2];exact this
theorem c82r(h:List Blk)(q:Nat)(a:List ByteArray)(hi:h[q]? =some (.rows 9 1 a.length (rowsRev tstr a))):HCalls Tryz.prog 82 [.row q a.length] (.tuple []) h (h.set q (.rows 9 1 a.length (rowsOf tstr (sortT a.reverse)))):=by
 have:=c82 h q a.reverse (rowsRev tstr a) (by rw[List.length_reverse];exact hi) (fun r hr=>by
  rw[List.length_reverse]at hr
  rw[rowsRev_get tstr a r 0 hr];rfl)
 rwa[List.length_reverse]at this
theorem c83r(h:List Blk)(q:Nat)(l:List ByteArray)(n:Nat)(hn:n=l.length)(hi:h[q]? =some (.rows 9 1 n (rowsOf tstr l))):HCalls Tryz.prog 83 [.row q n] (.row q (compT l).length) h (h.set q (.rows 9 1 n (rowsOf tstr (padT (compT l) n)))):=by
 subst hn
 exact c83 h q l _ hi (fun r hr=>rfl)
theorem leS_eq(x y:List UInt8):leS x y= !(Op.bytesLess y x):=by
 unfold leS
 rw[bytesLess_eq,Bool.eq_iff_iff]
 simp only[decide_eq_true_eq,Bool.not_eq_true',decide_eq_false_iff_not]
 exact Iff.rfl
theorem map_bu:∀L:List (List UInt8),(L.map unb).map bts=L
 |[]=>rfl
 |x::L=>by rw[List.map_cons,List.map_cons,bts_unb,map_bu L]
theorem map_ub:∀L:List ByteArray,(L.map bts).map unb=L
 |[]=>rfl
 |x::L=>by rw[List.map_cons,List.map_cons,unb_bts,map_ub L]
theorem mem_sortT{l:List ByteArray}{x:ByteArray}:x∈sortT l↔x∈l:=by
 unfold sortT
 rw[List.mem_map]
 constructor
 ·rintro⟨z,hz,rfl⟩
  obtain⟨y,hy,rfl⟩:=List.mem_map.1 (List.mem_mergeSort.1 hz)
  rw[unb_bts];exact hy
 ·intro h
  exact⟨bts x,List.mem_mergeSort.2 (List.mem_map.2 ⟨x,h,rfl⟩),unb_bts x⟩
theorem sortT_up(l:List ByteArray):((l.map bts).mergeSort leS).Pairwise fun a b=>leS a b=true:=by
 refine List.pairwise_mergeSort (fun a b c h1 h2=> ?_) (fun a b=> ?_) _
 ·rw[leS_eq]at*
  cases hca:Op.bytesLess c a with
  |false=>rfl
  |true=>
   rcases bl_tri a b with q|q|q
   ·have:=bl_trans c a b hca q
    rw[this]at h2;cases h2
   ·subst q;rw[hca]at h2;cases h2
   ·rw[q]at h1;cases h1
 ·rw[leS_eq,leS_eq]
  rcases bl_tri a b with q|q|q
  ·have:Op.bytesLess b a=false:=by
    cases z:Op.bytesLess b a with
    |false=>rfl
    |true=>have:=bl_trans a b a q z;rw[bl_irr]at this;cases this
   rw[this];rfl
  ·subst q;rw[bl_irr];rfl
  ·have:Op.bytesLess a b=false:=by
    cases z:Op.bytesLess a b with
    |false=>rfl
    |true=>have:=bl_trans a b a z q;rw[bl_irr]at this;cases this
   rw[this];simp
theorem keeps_backS(d:Array (List UInt8)):∀j,j<d.size→∃i,i<d.size∧Lib.keeps d i=true∧d[i]! =d[j]!
 |0,h=>⟨0,h,Lib.keeps_lt_one d 0 (by omega),rfl⟩
 |j+1,h=>by
  by_cases e:d[j+1]! =d[j]!
  ·obtain⟨i,h1,h2,h3⟩:=keeps_backS d j (by omega)
   exact⟨i,h1,h2,by rw[h3,e]⟩
  ·exact⟨j+1,h,Lib.keeps_pos (by simpa using e),rfl⟩
theorem mem_compactS{l:List (List UInt8)}{x:List UInt8}:x∈Lib.compact l↔x∈l:=by
 simp only[Lib.compact,Lib.compactUpTo,List.mem_map,List.mem_filter,List.mem_range]
 have hg:∀i,i<l.length→l.toArray[i]! =l.getD i []:=fun i hi=>by simp[hi,List.getD_eq_getElem?_getD]
 constructor
 ·rintro⟨i,⟨h1,_⟩,rfl⟩
  rw[hg i h1];exact getD_mem [] l i h1
 ·intro h
  obtain⟨j,hj,rfl⟩:=List.getElem_of_mem h
  obtain⟨i,h1,h2,h3⟩:=keeps_backS l.toArray j (by simpa using hj)
  have h1':i<l.length:=by simpa using h1
  exact⟨i,⟨h1',h2⟩,by rw[h3,hg j hj];simp[List.getD_eq_getElem?_getD,hj]⟩
theorem compact_up{l:List (List UInt8)}(h:l.Pairwise fun a b=>leS a b=true):(Lib.compact l).Pairwise fun a b=>Op.bytesLess a b=true:=by
 have hg:∀i,i<l.length→l.toArray[i]! =l.getD i []:=fun i hi=>by simp[hi,List.getD_eq_getElem?_getD]
 have hle:∀i j,i≤j→j<l.length→Op.bytesLess (l.getD j []) (l.getD i [])=false:=fun i j hij hj=>by
  rcases Nat.lt_or_ge i j with q|q
  ·have:=List.pairwise_iff_getElem.1 h i j (by omega) hj q
   rw[leS_eq]at this
   rw[List.getD_eq_getElem?_getD,List.getD_eq_getElem?_getD,List.getElem?_eq_getElem hj,List.getElem?_eq_getElem (by omega)]
   simpa using this
  ·rw[show i=j by omega,bl_irr]
 unfold Lib.compact Lib.compactUpTo
 rw[List.pairwise_map]
 refine List.Pairwise.imp_of_mem (fun {i j} hi hj hij=> ?_) ((List.pairwise_lt_range (n:=l.length)).filter _)
 rw[List.mem_filter,List.mem_range]at hi hj
 have hk:=hj.2
 unfold Lib.keeps at hk
 rw[decide_eq_true_eq]at hk
 have hne:l.getD j []≠l.getD (j-1) []:=by
  rcases hk with q|q
  ·omega
  ·rwa[hg j hj.1,hg (j-1) (by omega)]at q
 rw[hg i hi.1,hg j hj.1]
 have h1:=hle i (j-1) (by omega) (by omega)
 have h2:=hle (j-1) j (by omega) hj.1
 have h3:Op.bytesLess (l.getD (j-1) []) (l.getD j [])=true:=by
  rcases bl_tri (l.getD (j-1) []) (l.getD j [])with q|q|q
  ·exact q
  ·exact absurd q.symm hne
  ·rw[q]at h2;cases h2
 rcases bl_tri (l.getD i []) (l.getD (j-1) [])with q|q|q
 ·exact bl_trans _ _ _ q h3
 ·rw[q];exact h3
 ·rw[q]at h1;cases h1
theorem compT_up(l:List ByteArray):Up (compT (sortT l)):=by
 unfold Up compT sortT
 have e:(((l.map bts).mergeSort leS).map unb).map bts=(l.map bts).mergeSort leS:=map_bu _
 rw[e,List.pairwise_map]
 exact(compact_up (sortT_up l)).imp fun {a b} h=>by unfold blt;rw[show(unb a).toList=a from bts_unb a,show(unb b).toList=b from bts_unb b];exact h
theorem mem_compT{l:List ByteArray}{x:ByteArray}:x∈compT (sortT l)↔x∈l:=by
 unfold compT
 rw[List.mem_map]
 constructor
 ·rintro⟨z,hz,rfl⟩
  obtain⟨y,hy,rfl⟩:=List.mem_map.1 (mem_compactS.1 hz)
  rw[unb_bts];exact mem_sortT.1 hy
 ·intro h
  exact⟨bts x,mem_compactS.2 (List.mem_map.2 ⟨x,mem_sortT.2 h,rfl⟩),unb_bts x⟩
theorem up_ext:∀ {l m:List ByteArray},Up l→Up m→(∀x,x∈l↔x∈m)→l=m
 |[],[],_,_,_=>rfl
 |[],y::m,_,_,h=>by have:=(h y).2 List.mem_cons_self;cases this
 |x::l,[],_,_,h=>by have:=(h x).1 List.mem_cons_self;cases this
 |x::l,y::m,hl,hm,h=>by
  obtain⟨l1,l2⟩:=List.pairwise_cons.1 hl
  obtain⟨m1,m2⟩:=List.pairwise_cons.1 hm
  have hxy:x=y:=by
   rcases List.mem_cons.1 ((h x).1 List.mem_cons_self)with q|q
   ·exact q
   ·rcases List.mem_cons.1 ((h y).2 List.mem_cons_self)with z|z
    ·exact z.symm
    ·have a1:=m1 x q
     have a2:=l1 y z
     have:=blt_trans a1 a2
     rw[blt_irr]at this;cases this
  subst hxy
  refine congrArg (x::·) (up_ext l2 m2 fun z=> ?_)
  have hz:=h z
  rw[List.mem_cons,List.mem_cons]at hz
  constructor
  ·intro q
   rcases hz.1 (.inr q)with e|e
   ·subst e;have:=l1 _ q;rw[blt_irr]at this;cases this
   ·exact e
  ·intro q
   rcases hz.2 (.inr q)with e|e
   ·subst e;have:=m1 _ q;rw[blt_irr]at this;cases this
   ·exact e
theorem compT_sortU(l:List ByteArray):compT (sortT l)=sortU l:=up_ext (compT_up l) (sortU_up l) fun x=>by rw[mem_compT,mem_sortU]
theorem sort_same{l:List ByteArray}(hn:l.Nodup):sortT l=sortU l:=by
 have hp:(sortT l).Perm l:=by
  have h1:=(List.mergeSort_perm (l.map bts) leS).map unb
  have e:(l.map bts).map unb=l:=map_ub l
  rw[e]at h1;exact h1
 have hnd:(sortT l).Nodup:=hp.nodup_iff.2 hn
 refine up_ext ?_ (sortU_up l) fun x=>by rw[mem_sortT,mem_sortU]
 unfold Up
 have hle:(sortT l).Pairwise fun a b=>blt b a=false:=by
  unfold sortT
  rw[List.pairwise_map]
  exact(sortT_up l).imp fun {a b} h=>by
   rw[leS_eq]at h
   unfold blt
   rw[show(unb a).toList=a from bts_unb a,show(unb b).toList=b from bts_unb b]
   simpa using h
 exact(hle.and hnd).imp fun {a b} h=>by
  rcases blt_tri a b with q|q|q
  ·exact q
  ·exact absurd q h.2
  ·rw[q]at h;exact absurd h.1 (by decide)
end
end Go.Proofs.YtemgodefhcbleaaGreat
namespace Go.Proofs.YtemgodefhcbleaaGreat
open Ab Go
noncomputable section
theorem c81x(x:Look)(h:OkBook x.b)(body day:Int)(hb:0≤body∧body<x.b.bodies.length):PC 81 [lk x,iI body,iI day] (·=.str (namedR (x.b.bodies.getD body.toNat zBody) day)):=by
 have hsh:(x.b.bodies.getD body.toNat zBody).shown.length≤3:=by
  have:=h.shown (i:=body.toNat) (by omega)
  unfold shownErr at this
  split at this
  ·cases this
  ·omega
 have hzb:tBody.zero=zBody:=rfl
 generalize hx:x.b.bodies.getD body.toNat zBody=y at*
 have hmain:WP Tryz.prog ⟨none,0⟩ (T81 x body day) (Ends' fun r=>v81 r=.str (namedR y day)) (.l0 (ByteArray.mk #[]) 0):=by
  refine WP.run (fun i=>.l0 (namedTo y day i) (i:Int)) rfl y.shown.length (fun i hi=> ?_) ?_
  ·have hr:inR .i64 ((i:Int)+1)=true:=inR64 (by omega) (by omega)
   have hi':(i:Int)<y.shown.length:=by omega
   have e:namedTo y day (i+1)=if(y.shown.getD i zShown).day≤day then(y.shown.getD i zShown).as_ else namedTo y day i:=rfl
   rw[e]
   by_cases hd:(y.shown.getD i zShown).day≤day
   ·rw[if_pos hd]
    refine WP.once ?_
    simp only[T81,Tr.sure,SS,hzb,hx,hi',z3,hd]
    repeat' with_reducible first|intro _|apply And.intro
    all_goals simp[hr,Go,Ends',v81,-List.getD_eq_getElem?_getD, *]
   ·rw[if_neg hd]
    refine WP.once ?_
    simp only[T81,Tr.sure,SS,hzb,hx,hi',z3,hd]
    repeat' with_reducible first|intro _|apply And.intro
    all_goals simp[hr,Go,Ends',v81,-List.getD_eq_getElem?_getD, *]
  ·have e:namedR y day=namedTo y day y.shown.length:=rfl
   rw[e]
   refine WP.step ?_
   simp only[T81,Go,Ends',v81,Tr.sure,SS,hzb,hx,Int.lt_irrefl]
   repeat' with_reducible first|intro _|apply And.intro
 have hb1:=hb.1
 have hb2:=hb.2
 refine w81 x body day (WP.step ?_)
 simp only[T81,Go,Ends',v81,Tr.sure,SS,hb1,hb2]
 repeat' with_reducible first|intro _|apply And.intro
 all_goals exact hmain
theorem VLe.crefs{n:Nat}{f g:Nat→V}(h:∀j,j<n→VLe (f j) (g j)):VLe (.cref n f) (.cref n g):=fun G β x hx=>by
 cases hx with
 |cref hG hl hc=>exact .cref hG hl fun j hj=>h j hj _ _ _ (hc j hj)
theorem c81n(b:Book)(h:OkBook b)(body day:Int)(hb:0≤body∧body<b.bodies.length):PC 81 [.cref 4 fun q=>([tBody.lst b.bodies,tstr.lst b.heads,tLine.lst b.lines,.nils]:List V).getD q uU,iI body,iI day] (·=.str (namedR (b.bodies.getD body.toNat zBody) day)):=
 PCalls.arg (pre:=[]) (c81x ⟨b,[]⟩ h body day hb) (VLe.crefs fun j hj=>by
  rcases show j=0∨j=1∨j=2∨j=3 by omega with rfl|rfl|rfl|rfl
  ·exact VLe.refl _
  ·exact VLe.refl _
  ·exact VLe.refl _
  ·exact VLe.nils)
theorem padT_len{l:List ByteArray}{n:Nat}(h:l.length≤n):(padT l n).length=n:=by simp[padT];omega
theorem VLe.padS(l:List ByteArray)(n:Nat):VLe (.list 1 l.length (rowsOf tstr (padT l n))) (tstr.lst l):=
 VLe.list fun i j hi _=>by
  simp only[rowsOf,padT,List.getD_eq_getElem?_getD,List.getElem?_append_left hi]
theorem VLe.padN{l:List ByteArray}{n:Nat}(h:l.length≤n):VLe (.list 1 n (rowsOf tstr (padT l n))) (tstr.lst (padT l n)):=by
 have:=padT_len h
 generalize padT l n=z at*
 subst this;exact VLe.refl _
theorem compT_len(l:List ByteArray):(compT (sortT l)).length≤l.length:=by
 unfold compT
 rw[List.length_map]
 refine Nat.le_trans (Ab.compactE_len _) ?_
 rw[List.length_map,sortT_len];exact Nat.le_refl _
inductive P29
 |e
 |l0 (x0_28:Int) (a0_1:List ByteArray)
inductive R29
 |r0 (r0:List ByteArray) (r1:Int)
 |r1 (r0:List ByteArray) (r1:Int)
noncomputable def T29(b:Book)(head:Int)(day:Int):P29→Tr P29 R29
 |.e=>let c1:=whereR b head day;(.wait 2 (.own 6 9 1 (.call 22 [.agg (cC b),iI head,iI day] (.tuple [tint.lst (c1.1),iI (c1.2)]) true true (.br (c1.2 !=(0:Int)) (.wait 2 (.own 6 9 1 (.out (.r0 ([]) (c1.2))))) (.go (.l0 0 ([])))))))
 |.l0 x0_28 a0_1=>let c1:=compT (sortT a0_1.reverse);let c2:=namedR (b.bodies.getD ((((whereR b head day).1).getD (x0_28).toNat tint.zero)).toNat zBody) day;let c3:List Blk:=[.gone,.rows 9 1 a0_1.length (rowsOf tstr (sortT a0_1.reverse)),.cells [tBody.lst b.bodies,tstr.lst b.heads,tLine.lst b.lines,.nils]];let c4:=rowsOf tstr (padT c1 a0_1.length);let c5:=x0_28+(1:Int);let c6:=x0_28<(((whereR b head day).1.length):Int);let c7:=decide (a0_1.length≤a0_1.length);let c8:=decide (c1.length≤a0_1.length);let c9:=tstr.lst (padT c1 a0_1.length);(.br (decide c6) (.need (decide (0≤x0_28)&&decide c6) (.call 81 [.cref 4 fun q=>([tBody.lst b.bodies,tstr.lst b.heads,tLine.lst b.lines,.nils]:List V).getD q uU,iI (((whereR b head day).1).getD (x0_28).toNat tint.zero),iI day] (.str c2) true true (.br (!(c2.toList==(ByteArray.mk #[]).toList)) (.need ((decide (a0_1.length=a0_1.length)&&decide (a0_1.length+1≤4294967296))&&decide (1≤1)) (.scal (fun _=>true) (.need (inR .i64 c5) (.go (.l0 c5 (c2::a0_1)))))) (.need (inR .i64 c5) (.go (.l0 c5 a0_1)))))) (.hcall 82 [.row 1 a0_1.length] (.tuple []) [.gone,.rows 9 1 a0_1.length (rowsRev tstr a0_1),.cells [tBody.lst b.bodies,tstr.lst b.heads,tLine.lst b.lines,.nils]] c3 true (.hcall 83 [.row 1 a0_1.length] (.row 1 (c1.length)) c3 [.gone,.rows 9 1 a0_1.length c4,.cells [tBody.lst b.bodies,tstr.lst b.heads,tLine.lst b.lines,.nils]] true (.frz 1 (c8&&(c7&&(c7&&(c8&&true)))) (.vle 6 (.list 1 (c1.length) c4) (tstr.lst c1) (.vle 43 (.list 1 a0_1.length c4) c9 (.vle 45 (.list 1 a0_1.length c4) c9 (.vle 46 (.list 1 (c1.length) c4) (tstr.lst c1) (.out (.r1 c1 0))))))))))
noncomputable def g29(b:Book)(head:Int)(day:Int):P29→List Item × St
 |.e=>bd Tryz.f29 [.agg (cC b),iI head,iI day] 44
 |.l0 x0_28 a0_1=>(cutOf Tryz.f29 0,⟨mk 47 [(2,iI day),(6,.row 1 a0_1.length),(9,.ref 2 0 0),(26,tint.lst ((whereR b head day).1)),(27,iI (((whereR b head day).1.length):Int)),(28,iI x0_28)],[.gone,.rows 9 1 a0_1.length (rowsRev tstr a0_1),.cells [tBody.lst b.bodies,tstr.lst b.heads,tLine.lst b.lines,.nils]],[]⟩)
noncomputable def n29:R29→Exit × St
 |.r0 r0 r1=>(.ret,⟨mk 47 [(6,.row 2 r0.length),(7,iI r1)],[.gone,.gone,.rows 9 1 r0.length (rowsRev tstr r0)],[]⟩)
 |.r1 r0 r1=>(.ret,⟨mk 47 [(6,tstr.lst r0),(7,iI r1)],[],[]⟩)
noncomputable def v29:R29→V
 |.r0 r0 r1=>.tuple [tstr.lst r0.reverse,iI r1]
 |.r1 r0 r1=>.tuple [tstr.lst r0,iI r1]
theorem s29(b:Book)(head:Int)(day:Int):Sm 0 (g29 b head day) (T29 b head day) (n29)
 |.e=>⟨400,by kernel_rfl⟩
 |.l0 _ _=>⟨400,by kernel_rfl⟩
theorem q29:∀r,bodyQ Tryz.prog Tryz.f29 (·=v29 r) (n29 r).1 (n29 r).2
 |.r0 r0 r1=>⟨.inr rfl,by simp[n29],(.tuple [.row 2 r0.length,iI r1]),(.tuple [tstr.lst r0.reverse,iI r1]),by kernel_rfl,(.tuple rfl fun j hj=>match j,hj with|0,_=>.weak (.row rfl (Nat.le_refl _)) (VLe.rev tstr r0)|1,_=>.imm rfl),rfl⟩
 |.r1 r0 r1=>bq (.tuple [tstr.lst r0,iI r1]) (by kernel_rfl)
theorem w29(b:Book)(head:Int)(day:Int){post:V→Prop}(h:WQ (T29 b head day) v29 post .e):PC 29 [.agg (cC b),iI head,iI day] post:=
 PCalls.wq Tryz.func29 (s29 b head day) q29 h
def namesW(b:Book)(day:Int)(W:List Int):List ByteArray:=(W.map fun i=>namedR (b.bodies.getD i.toNat zBody) day).filter fun s=> !(s.toList==(ByteArray.mk #[]).toList)
theorem named_mem(x:Body)(day:Int):namedR x day=ByteArray.empty∨namedR x day∈x.shown.map (·.as_):=by
 have:∀k,k≤x.shown.length→namedTo x day k=ByteArray.empty∨namedTo x day k∈x.shown.map (·.as_):=by
  intro k
  induction k with
  |zero=>intro _;exact .inl rfl
  |succ k ih=>
   intro hk
   show(if(x.shown.getD k zShown).day≤day then(x.shown.getD k zShown).as_ else namedTo x day k)=_∨(if(x.shown.getD k zShown).day≤day then(x.shown.getD k zShown).as_ else namedTo x day k)∈_
   split
   ·right;exact List.mem_map.2 ⟨_,getD_mem zShown _ k (by omega),rfl⟩
   ·exact ih (by omega)
 exact this _ (Nat.le_refl _)
theorem asR_eq{b:Book}{head day:Int}(h0:(toldR b [head] day).2=0):sortU (namesW b day (whereR b head day).1)=(asR b head day).1:=by
 obtain⟨hok,hns,hday,hne,htl⟩:=told_ok h0
 have hv:=hns head (by simp)
 have hW:(whereR b head day).1=((List.range b.bodies.length).filter fun i=>anyT b day (truthsR b []) i head).map fun(i:Nat)=>(i:Int):=by unfold whereR;rw[if_neg (fun q=>q h0)]
 have hA:(asR b head day).1=(personsR b).filter fun s=>(truthsR b []).any fun t=>same (seenR b t head day) s:=by unfold asR;rw[if_neg (fun q=>q h0)]
 rw[hA]
 refine up_ext (sortU_up _) ((sortU_up _).filter _) fun s=> ?_
 have hln:=lineN_in b day
 have hperm:∀t∈truthsR b [],(atR b t day).Perm (firstH b):=fun t ht=>have_in hok ht (by omega)
 have hin:∀t∈truthsR b [],head∈atR b t day:=fun t ht=>(hperm t ht).mem_iff.2 (by
  unfold firstH
  rw[List.mem_map];exact⟨head.toNat,List.mem_range.2 (by omega),by omega⟩)
 have hse:∀z:ByteArray,(!(z.toList==(ByteArray.mk #[]).toList))=true↔z≠ByteArray.empty:=fun z=>by
  rw[isEmpty_eq];simp
 have hss:∀x y:ByteArray,same x y=true↔x=y:=fun x y=>by
  unfold same
  rw[beq_iff_eq]
  exact⟨ba_inj,fun e=>by rw[e]⟩
 rw[mem_sortU,namesW,List.mem_filter,hse,hW,List.map_map,List.mem_map,List.mem_filter,List.any_eq_true]
 constructor
 ·rintro⟨⟨k,hk,hks⟩,hs⟩
  obtain⟨hk1,hk2⟩:=List.mem_filter.1 hk
  rw[List.mem_range]at hk1
  obtain⟨t,ht,hth⟩:=List.any_eq_true.1 hk2
  rw[beq_iff_eq]at hth
  obtain⟨b1,b2,b3⟩:=bodyOf_in (hin t ht)
  obtain⟨p1,p2,p3,p4⟩:=perm_get (hperm t ht)
  have hbk:(bodyOf (atR b t day) head).toNat=k:=nodup_get p2 (by omega) (by omega) (b3.trans hth.symm)
  have hks':namedR (b.bodies.getD k zBody) day=s:=by simpa using hks
  refine⟨?_,t,ht,(hss _ _).2 ?_⟩
  ·unfold personsR
   rw[mem_sortU]
   unfold allNames
   rw[List.mem_flatMap]
   refine⟨b.bodies.getD k zBody,getD_mem zBody _ k hk1,?_⟩
   rcases named_mem (b.bodies.getD k zBody) day with q|q
   ·rw[hks']at q;exact absurd q hs
   ·rw[←hks'];exact q
  ·unfold seenR;rw[hbk];exact hks'
 ·rintro⟨hs,t,ht,hst⟩
  rw[hss]at hst
  have hne2:=allNames_ne hok s (mem_sortU.1 hs)
  obtain⟨b1,b2,b3⟩:=bodyOf_in (hin t ht)
  obtain⟨p1,p2,p3,p4⟩:=perm_get (hperm t ht)
  refine⟨⟨(bodyOf (atR b t day) head).toNat,List.mem_filter.2 ⟨List.mem_range.2 (by omega),List.any_eq_true.2 ⟨t,ht,by rw[beq_iff_eq];exact b3⟩⟩,?_⟩,hne2⟩
  rw[←hst]
  unfold seenR
  show namedR (b.bodies.getD (((bodyOf (atR b t day) head).toNat:Nat):Int).toNat zBody) day=_
  rw[Int.toNat_natCast]
theorem c29(b:Book)(head day:Int):PC 29 [.agg (tBook.cells b),iI head,iI day] (·=.tuple [tstr.lst (asR b head day).1,iI (asR b head day).2]):=by
 have k22:=c22 b head day
 by_cases h0:(toldR b [head] day).2=0
 ·obtain⟨hok,hns,hday,hne,htl⟩:=told_ok h0
  have hnb:=hok.nb
  have hW2:(whereR b head day).2=0:=by unfold whereR;rw[if_neg (fun q=>q h0)]
  have hA2:(asR b head day).2=0:=by unfold asR;rw[if_neg (fun q=>q h0)]
  have hae:=asR_eq h0
  have hWin:∀i∈(whereR b head day).1,0≤i∧i<b.bodies.length:=fun i hi=>by
   unfold whereR at hi
   rw[if_neg (fun q=>q h0)]at hi
   obtain⟨k,hk,rfl⟩:=List.mem_map.1 hi
   have:=List.mem_range.1 (List.mem_filter.1 hk).1
   omega
  have hWl:(whereR b head day).1.length≤5:=by
   unfold whereR
   rw[if_neg (fun q=>q h0),List.length_map]
   exact Nat.le_trans (List.length_filter_le _ _) (by simp;omega)
  rw[hW2]at k22
  rw[hA2,←hae,←compT_sortU]
  generalize hW:(whereR b head day).1=W at*
  have hmain:WP Tryz.prog ⟨none,0⟩ (T29 b head day) (Ends' fun r=>v29 r=.tuple [tstr.lst (compT (sortT (namesW b day W))),iI 0]) (.l0 0 []):=by
   refine WP.run (fun i=>.l0 (i:Int) (namesW b day (W.take i)).reverse) rfl W.length (fun i hi=> ?_) ?_
   ·have hr:inR .i64 ((i:Int)+1)=true:=inR64 (by omega) (by omega)
    have hi':(i:Int)<W.length:=by omega
    have k81:=c81n b hok (W.getD i 0) day (hWin _ (getD_mem 0 W i hi))
    have hlen:(namesW b day (W.take i)).reverse.length+1≤4294967296:=by
     rw[List.length_reverse]
     unfold namesW
     have:=List.length_filter_le (fun s:ByteArray=> !(s.toList==(ByteArray.mk #[]).toList)) ((W.take i).map fun i=>namedR (b.bodies.getD i.toNat zBody) day)
     rw[List.length_map,List.length_take]at this
     omega
    have hnx:(namesW b day (W.take (i+1))).reverse=if(!((namedR (b.bodies.getD (W.getD i 0).toNat zBody) day).toList==(ByteArray.mk #[]).toList))=true then namedR (b.bodies.getD (W.getD i 0).toNat zBody) day::(namesW b day (W.take i)).reverse else(namesW b day (W.take i)).reverse:=by
     unfold namesW
     rw[take_snoc 0 W i hi,List.map_append,List.filter_append,List.reverse_append]
     show(([namedR (b.bodies.getD (W.getD i 0).toNat zBody) day]:List ByteArray).filter _).reverse++_=_
     rw[List.filter_cons]
     split<;>rfl
    rw[hnx]
    generalize(namesW b day (W.take i)).reverse=A at*
    cases he:((namedR (b.bodies.getD (W.getD i 0).toNat zBody) day).toList==(ByteArray.mk #[]).toList)with
    |true=>
     refine WP.once ?_
     simp only[T29,Tr.sure,SS,hW,hi',z1,he,Bool.not_true,Bool.false_eq_true,↓reduceIte]
     repeat' with_reducible first|intro _|apply And.intro
     all_goals first|exact k81|(simp[hr,hlen,Go,Ends',v29,-List.getD_eq_getElem?_getD, *];done)
    |false=>
     refine WP.once ?_
     simp only[T29,Tr.sure,SS,hW,hi',z1,he,Bool.not_false,↓reduceIte]
     repeat' with_reducible first|intro _|apply And.intro
     all_goals first|exact k81|(simp[hr,hlen,Go,Ends',v29,-List.getD_eq_getElem?_getD, *];done)
   ·rw[List.take_length]
    have e:(namesW b day W).reverse.reverse=namesW b day W:=List.reverse_reverse _
    generalize(namesW b day W).reverse=A at*
    rw[←e]
    have hcl:(compT (sortT A.reverse)).length≤A.length:=by have:=compT_len A.reverse;rwa[List.length_reverse]at this
    have k82:=fun(h:List Blk) (q:Nat) hi=>c82r h q A hi
    have k83:=fun(h:List Blk) (q:Nat) hi=>c83r h q (sortT A.reverse) A.length (by rw[sortT_len,List.length_reverse]) hi
    have v1:=VLe.padS (compT (sortT A.reverse)) A.length
    have v2:=VLe.padN hcl
    refine WP.step ?_
    simp only[T29,Go,Ends',v29,Tr.sure,SS,hW,Int.lt_irrefl]
    repeat' with_reducible first|intro _|apply And.intro
    all_goals first|exact(k82 _ 1 rfl)|exact(k83 _ 1 rfl)|exact v1|exact v2|(simp[hcl,Go,Ends',v29,-List.getD_eq_getElem?_getD, *];done)|(simp_all [hcl,Go,Ends',v29,-List.getD_eq_getElem?_getD];done)
  refine w29 b head day (WP.step ?_)
  simp only[T29,Go,Ends',v29,Tr.sure,SS,hW2,hW]
  repeat' with_reducible first|intro _|apply And.intro
  all_goals first|exact k22|exact hmain
 ·have hW2:whereR b head day=([],(toldR b [head] day).2):=by unfold whereR;rw[if_pos h0]
  have hA2:asR b head day=([],(toldR b [head] day).2):=by unfold asR;rw[if_pos h0]
  rw[hW2]at k22
  rw[hA2]
  refine w29 b head day (WP.step ?_)
  simp only[T29,Go,Ends',v29,Tr.sure,SS,hW2,h0]
  repeat' with_reducible first|intro _|apply And.intro
  all_goals first|exact k22|(simp[h0,Go,Ends',v29,-List.getD_eq_getElem?_getD, *];done)
end
noncomputable section
def nmd(b:Book)(j:Nat)(day:Int):ByteArray:=namedR (b.bodies.getD j zBody) day
structure GoodS(b:Book)(d:Int)(x:Stretch):Prop where
 body:∃j:Nat,j<b.bodies.length∧x.body=(j:Int)
 lo:0≤x.span.lo
 le:x.span.lo≤x.span.hi
 hi:x.span.hi≤d
 ne:x.as_≠ByteArray.empty
 all:∀day:Int,x.span.lo≤day→day≤x.span.hi→lineN b day=x.line∧nmd b x.body.toNat day=x.as_
def HitS(b:Book)(j:Nat)(day:Int)(x:Stretch):Prop:=x.line=lineN b day∧x.body=(j:Int)∧x.as_=nmd b j day∧x.span.lo≤day∧day≤x.span.hi
structure InvS(b:Book)(d k:Nat)(l:List Stretch):Prop where
 good:∀x∈l,GoodS b d x
 cover:∀(day j:Nat),(day<d∧j<b.bodies.length∨day=d∧j<k)→nmd b j (day:Int)≠ByteArray.empty→∃x∈l,HitS b j (day:Int) x
theorem firstI_get{τ:Type}{p:τ→Bool}(dflt:τ):∀ {l:List τ} {k i:Nat},firstI p k l=some i→k≤i∧i-k<l.length∧p (l.getD (i-k) dflt)=true
 |[],_,_,h=>by cases h
 |x::l,k,i,h=>by
  simp only[firstI]at h
  split at h
  ·rename_i hp
   cases h
   exact⟨Nat.le_refl _,by simp,by rw[Nat.sub_self];exact hp⟩
  ·obtain⟨h1,h2,h3⟩:=firstI_get dflt h
   refine⟨by omega,by simp only[List.length_cons];omega,?_⟩
   rw[show i-k=(i-(k+1))+1 by omega];exact h3
theorem goesOn_iff{s:Stretch}{dy:Int}{y:Stretch}:goesOn s dy y=true↔y.line=s.line∧y.body=s.body∧y.as_=s.as_∧y.span.hi=dy-1:=by
 unfold goesOn
 simp only[Bool.and_eq_true,beq_iff_eq,and_true,true_and]
 constructor
 ·rintro⟨h1,h2,h3,h4⟩;exact⟨h1,h2,ba_inj h3,h4⟩
 ·rintro⟨h1,h2,h3,h4⟩;exact⟨h1,h2,by rw[h3],h4⟩
theorem inv_stepS{b:Book}{d k:Nat}{l:List Stretch}(h:InvS b d k l)(hk:k<b.bodies.length):InvS b d (k+1) (stepS b (d:Int) k l):=by
 have hnm:namedR (b.bodies.getD k zBody) (d:Int)=nmd b k (d:Int):=rfl
 unfold stepS
 rw[hnm]
 by_cases he:((nmd b k (d:Int)).toList==(ByteArray.mk #[]).toList)=true
 ·rw[if_pos he]
  rw[isEmpty_eq,decide_eq_true_eq]at he
  refine⟨h.good,fun day j hj hne=>h.cover day j ?_ hne⟩
  rcases hj with q|⟨q1,q2⟩
  ·exact .inl q
  ·by_cases hjk:j=k
   ·subst hjk;rw[q1]at hne;exact absurd he hne
   ·exact .inr ⟨q1,by omega⟩
 ·rw[if_neg he]
  have hne0:nmd b k (d:Int)≠ByteArray.empty:=by
   rw[isEmpty_eq,decide_eq_true_eq]at he;exact he
  by_cases hx:0≤idxS (oneS b (d:Int) k) (d:Int) l
  ·rw[if_pos hx]
   unfold idxS at hx⊢
   cases hf:firstI (goesOn (oneS b (d:Int) k) (d:Int)) 0 l with
   |none=>rw[hf]at hx;simp at hx
   |some i=>
    simp only
    obtain⟨-,i1,i2⟩:=firstI_get zStretch hf
    rw[Nat.sub_zero]at i1 i2
    obtain⟨g1,g2,g3,g4⟩:=goesOn_iff.1 i2
    have hgi:=h.good _ (getD_mem zStretch l i i1)
    unfold setL
    rw[Int.toNat_natCast]
    generalize hy:l.getD i zStretch=y at*
    have hyi:l[i]? =some y:=by rw[List.getD_eq_getElem?_getD,List.getElem?_eq_getElem i1]at hy;rw[List.getElem?_eq_getElem i1];exact congrArg some hy
    have gl:y.line=lineN b (d:Int):=g1
    have gb:y.body=(k:Int):=g2
    have ga:y.as_=nmd b k (d:Int):=g3
    have hnew:GoodS b d {y with span:=⟨y.span.lo,(d:Int)⟩}:=⟨hgi.body,hgi.lo,by have:=hgi.le;simp only;omega,Int.le_refl _,hgi.ne,fun day h1 h2=>by
     by_cases hd:day=(d:Int)
     ·subst hd
      exact⟨gl.symm,by simp only;rw[gb,Int.toNat_natCast];exact ga.symm⟩
     ·have h2':day≤(d:Int):=h2
      exact hgi.all day h1 (by omega)⟩
    have hset:(l.set i {y with span:=⟨y.span.lo,(d:Int)⟩})[i]? =some {y with span:=⟨y.span.lo,(d:Int)⟩}:=List.getElem?_set_self i1
    refine⟨fun x hx=> ?_,fun day j hj hne=> ?_⟩
    ·rcases List.mem_or_eq_of_mem_set hx with q|rfl
     ·exact h.good x q
     ·exact hnew
    ·have keep:∀x∈l,HitS b j (day:Int) x→∃x∈l.set i {y with span:=⟨y.span.lo,(d:Int)⟩},HitS b j (day:Int) x:=fun x hx hh=>by
      obtain⟨q,hq,rfl⟩:=List.getElem_of_mem hx
      by_cases hqi:i=q
      ·subst hqi
       have:y=l[i]:=by rw[List.getElem?_eq_getElem hq]at hyi;exact(Option.some.inj hyi).symm
       rw[←this]at hh
       obtain⟨e1,e2,e3,e4,e5⟩:=hh
       exact⟨_,List.mem_of_getElem? hset,e1,e2,e3,e4,by have:=g4;simp only;omega⟩
      ·exact⟨l[q],List.mem_of_getElem? (i:=q) (by rw[List.getElem?_set_ne hqi];exact List.getElem?_eq_getElem hq),hh⟩
     by_cases hnew2:day=d∧j=k
     ·obtain⟨rfl,rfl⟩:=hnew2
      exact⟨_,List.mem_of_getElem? hset,gl,gb,ga,by have:=hgi.le;simp only;omega,Int.le_refl _⟩
     ·obtain⟨x,hx,hh⟩:=h.cover day j (by omega) hne
      exact keep x hx hh
  ·rw[if_neg hx]
   refine⟨fun x hx=> ?_,fun day j hj hne=> ?_⟩
   ·rcases List.mem_append.1 hx with q|q
    ·exact h.good x q
    ·rw[List.mem_singleton.1 q]
     refine⟨⟨k,hk,rfl⟩,Int.natCast_nonneg _,Int.le_refl _,Int.le_refl _,hne0,fun day h1 h2=> ?_⟩
     have h1':(d:Int)≤day:=h1
     have h2':day≤(d:Int):=h2
     obtain rfl:day=(d:Int):=by omega
     exact⟨rfl,rfl⟩
   ·by_cases hnew2:day=d∧j=k
    ·obtain⟨rfl,rfl⟩:=hnew2
     exact⟨oneS b (day:Int) j,by simp,rfl,rfl,rfl,Int.le_refl _,Int.le_refl _⟩
    ·obtain⟨x,hx,hh⟩:=h.cover day j (by omega) hne
     exact⟨x,List.mem_append_left _ hx,hh⟩
theorem inv_strB{b:Book}{d:Nat}{l:List Stretch}(h:InvS b d 0 l):∀k,k≤b.bodies.length→InvS b d k (strB b (d:Int) l k)
 |0,_=>h
 |k+1,hk=>inv_stepS (inv_strB h k (by omega)) (by omega)
theorem inv_strD(b:Book):∀d,InvS b d 0 (strD b d)
 |0=>⟨fun x hx=>absurd hx List.not_mem_nil,fun day j hj=>by omega⟩
 |d+1=>by
  have:=inv_strB (inv_strD b d) b.bodies.length (Nat.le_refl _)
  have e:strD b (d+1)=strB b (d:Int) (strD b d) b.bodies.length:=rfl
  rw[e]
  refine⟨fun x hx=> ?_,fun day j hj hne=>this.cover day j (by omega) hne⟩
  obtain⟨g1,g2,g3,g4,g5,g6⟩:=this.good x hx
  exact⟨g1,g2,g3,by omega,g5,g6⟩
theorem stretch_seen{b:Book}(h:OkBook b){t:Truth}(ht:t∈truthsR b []){head:Int}(hh:0≤head∧head<b.bodies.length){day:Int}(hd:0≤day∧day≤364){s:ByteArray}(hs:s≠ByteArray.empty):
  seenR b t head day=s↔∃x∈stretchesR b,x.as_=s∧(t.haves.getD x.line.toNat []).getD x.body.toNat 0=head∧x.span.lo≤day∧day≤x.span.hi:=by
 have hinv:=inv_strD b 365
 have hln:=lineN_in b day
 have hperm:(atR b t day).Perm (firstH b):=have_in h ht (by omega)
 obtain⟨p1,p2,p3,p4⟩:=perm_get hperm
 have hin:head∈atR b t day:=hperm.mem_iff.2 (by
  unfold firstH
  rw[List.mem_map];exact⟨head.toNat,List.mem_range.2 (by omega),by omega⟩)
 obtain⟨b1,b2,b3⟩:=bodyOf_in hin
 constructor
 ·intro e
  have hcov:=hinv.cover day.toNat (bodyOf (atR b t day) head).toNat (.inl ⟨by omega,by omega⟩)
  have hdn:((day.toNat:Nat):Int)=day:=Int.toNat_of_nonneg hd.1
  rw[hdn]at hcov
  have hnm:nmd b (bodyOf (atR b t day) head).toNat day=s:=e
  rw[hnm]at hcov
  obtain⟨x,hx,h1,h2,h3,h4,h5⟩:=hcov hs
  refine⟨x,hx,by rw[h3,hnm],?_,h4,h5⟩
  rw[h1,h2,Int.toNat_natCast];exact b3
 ·rintro⟨x,hx,h1,h2,h3,h4⟩
  obtain⟨g1,g2,g3,g4,g5,g6⟩:=hinv.good x hx
  obtain⟨j,hj,hjb⟩:=g1
  obtain⟨q1,q2⟩:=g6 day h3 h4
  have hat:(atR b t day).getD j 0=head:=by
   unfold atR
   rw[q1]
   rw[hjb,Int.toNat_natCast]at h2;exact h2
  have hbj:(bodyOf (atR b t day) head).toNat=j:=nodup_get p2 (by omega) (by omega) (b3.trans hat.symm)
  show nmd b (bodyOf (atR b t day) head).toNat day=s
  rw[hbj,←h1,←q2,hjb,Int.toNat_natCast]
end
noncomputable section
inductive P86
 |e
inductive R86
 |r0 (r0:Bool)
noncomputable def T86(s:ByteArray)(y:Stretch):P86→Tr P86 R86
 |.e=>(.out (.r0 (!(y.as_.toList==s.toList))))
noncomputable def g86(s:ByteArray)(y:Stretch):P86→List Item × St
 |.e=>bd Tryz.f86 [.agg [iI y.line,iI y.body,.str y.as_,iI y.span.lo,iI y.span.hi],rR (.str s)] 6
noncomputable def n86:R86→Exit × St
 |.r0 r0=>(.ret,⟨mk 8 [(3,.bool r0)],[],[]⟩)
noncomputable def v86:R86→V
 |.r0 r0=>.bool r0
theorem s86(s:ByteArray)(y:Stretch):Sm 0 (g86 s y) (T86 s y) (n86)
 |.e=>⟨400,by kernel_rfl⟩
theorem q86:∀r,bodyQ Tryz.prog Tryz.f86 (·=v86 r) (n86 r).1 (n86 r).2
 |.r0 r0=>bq (.bool r0) (by kernel_rfl)
theorem w86(s:ByteArray)(y:Stretch){post:V→Prop}(h:WQ (T86 s y) v86 post .e):PC 86 [.agg [iI y.line,iI y.body,.str y.as_,iI y.span.lo,iI y.span.hi],rR (.str s)] post:=
 PCalls.wq Tryz.func86 (s86 s y) q86 h
def delS(s:ByteArray)(y:Stretch):Bool:= !(y.as_.toList==s.toList)
theorem c86(s:ByteArray)(y:Stretch):PC 86 [.agg (tStretch.cells y),rR (.str s)] (·=.bool (delS s y)):=by
 refine w86 s y (WP.step ?_)
 simp only[T86,Go,Ends',v86,Tr.sure,SS]
 repeat' with_reducible first|intro _|apply And.intro
 all_goals simp[delS,Go,Ends',v86,-List.getD_eq_getElem?_getD, *]
 all_goals exact rfl
inductive P115d
 |e
 |l0 (x0_8:Int)
inductive R115d
 |r0 (r0:Int)
noncomputable def T115d(s:ByteArray)(l:List Stretch):P115d→Tr P115d R115d
 |.e=>(.go (.l0 0))
 |.l0 x0_8=>let c1:=l.getD (x0_8).toNat tStretch.zero;(.br (decide (x0_8<(l.length:Int))) (.need (decide (0≤x0_8)&&decide (x0_8<(l.length:Int))) (.call 86 [.agg [iI (c1.line),iI (c1.body),.str (c1.as_),iI (c1.span.lo),iI (c1.span.hi)],rR (.str s)] (.bool (delS s c1)) true true (.br (delS s c1) (.out (.r0 x0_8)) (.need (inR .i64 (x0_8+(1:Int))) (.go (.l0 (x0_8+(1:Int)))))))) (.out (.r0 (-1))))
noncomputable def g115d(s:ByteArray)(l:List Stretch):P115d→List Item × St
 |.e=>bd Tryz.f115 [tStretch.lst l,fG 86 [rR (.str s)]] 17
 |.l0 x0_8=>(cutOf Tryz.f115 0,⟨mk 19 [(0,tStretch.lst l),(1,fG 86 [rR (.str s)]),(7,iI (l.length:Int)),(8,iI x0_8)],[],[]⟩)
noncomputable def n115d:R115d→Exit × St
 |.r0 r0=>(.ret,⟨mk 19 [(4,iI r0)],[],[]⟩)
noncomputable def v115d:R115d→V
 |.r0 r0=>iI r0
theorem s115d(s:ByteArray)(l:List Stretch):Sm 0 (g115d s l) (T115d s l) (n115d)
 |.e=>⟨400,by kernel_rfl⟩
 |.l0 _=>⟨400,by kernel_rfl⟩
theorem q115d:∀r,bodyQ Tryz.prog Tryz.f115 (·=v115d r) (n115d r).1 (n115d r).2
 |.r0 r0=>bq (iI r0) (by kernel_rfl)
theorem w115d(s:ByteArray)(l:List Stretch){post:V→Prop}(h:WQ (T115d s l) v115d post .e):PC 115 [tStretch.lst l,fG 86 [rR (.str s)]] post:=
 PCalls.wq Tryz.func115 (s115d s l) q115d h
def idxD(s:ByteArray)(l:List Stretch):Int:=match firstI (delS s) 0 l with|some i=>(i:Int)|none=> -1
theorem c115d(s:ByteArray)(l:List Stretch)(hl:l.length≤1000000):PC 115 [tStretch.lst l,fG 86 [rR (.str s)]] (·=iI (idxD s l)):=by
 have hz:tStretch.zero=zStretch:=rfl
 refine w115d s l (WP.step ?_)
 simp only[T115d,Go,Ends',v115d,Tr.sure,SS]
 repeat' with_reducible first|intro _|apply And.intro
 refine WP.findI (fun i=>.l0 i) rfl l zStretch (delS s) (fun i hi=> ?_) fun hI=> ?_
 ·have hr1:inR .i64 ((i:Int)+1)=true:=inR64 (by omega) (by omega)
  have k86:=c86 s (l.getD i zStretch)
  refine WP.once ?_
  simp only[T115d,Tr.sure,SS,hi,hz]
  repeat' with_reducible first|intro _|apply And.intro
  all_goals first|exact k86|(simp[hr1,idxD,Go,Ends',v115d,-List.getD_eq_getElem?_getD, *];done)|(simp_all [hr1,idxD,Go,Ends',v115d,-List.getD_eq_getElem?_getD];done)
 ·refine WP.step ?_
  simp only[T115d,Go,Ends',v115d,Tr.sure,SS]
  repeat' with_reducible first|intro _|apply And.intro
  all_goals simp[hI,idxD,Go,Ends',v115d,-List.getD_eq_getElem?_getD, *]
def padD(l:List Stretch)(n:Nat):List Stretch:=l++List.replicate (n-l.length) zStretch
inductive P85
 |e
 |l0 (x0_5:Int) (x0_6:Int) (a0_0:List Stretch)
inductive R85
 |r0 (r0:List Stretch)
 |r1 (r0:List Stretch) (r1:Nat)
noncomputable def T85(n:Nat)(s:ByteArray)(l:List Stretch):P85→Tr P85 R85
 |.e=>(.call 115 [.list 5 n (rowsOf tStretch l),fG 86 [rR (.str s)]] (iI (idxD s l)) ((decide (n≤n))&&true) true (.br ((idxD s l)==(-1)) (.out (.r0 l)) (.need (inR .i64 ((idxD s l)+(1:Int))) (.go (.l0 (idxD s l) ((idxD s l)+(1:Int)) l)))))
 |.l0 x0_5 x0_6 a0_0=>let c2:=a0_0.getD (x0_6).toNat tStretch.zero;let c1:List V:=[iI (c2.line),iI (c2.body),.str (c2.as_),iI (c2.span.lo),iI (c2.span.hi)];let c3:=((n:Int)).toNat-(x0_5).toNat;let c4:=rowsOf tStretch a0_0;let c5:=([iI 0,iI 0,.str (ByteArray.mk #[]),iI 0,iI 0]:List V);let c6:=x0_6+(1:Int);let c7:=(x0_5).toNat;let c8:=padD (a0_0.take (x0_5).toNat) n;let c9:=(c1:List V);(.br (decide (x0_6<(n:Int))) (.need ((decide (0≤x0_6)&&decide (x0_6<(n:Int)))&&decide (n≤n)) (.need (decide ((x0_6).toNat<n)&&decide (0+5≤5)) (.call 86 [.agg c1,rR (.str s)] (.bool (delS s c2)) true true (.br (!(delS s c2)) (.need ((decide (0≤x0_5)&&decide (x0_5<(n:Int)))&&decide (n≤n)) (.need ((decide ((x0_5).toNat<n)&&decide (0+c9.length≤5))&&underL 0 c9) (.telb 0 5 n (fun r' j=>if r'=(x0_5).toNat∧0≤j∧j<0+c9.length then c9.getD (j-0) uU else c4 r' j) (rowsOf tStretch (a0_0.set c7 c2)) (.need (inR .i64 (x0_5+(1:Int))) (.need (inR .i64 c6) (.go (.l0 (x0_5+(1:Int)) c6 (a0_0.set c7 c2)))))))) (.need (inR .i64 c6) (.go (.l0 x0_5 c6 a0_0))))))) (.need (((decide (0≤x0_5)&&decide (x0_5≤(n:Int)))&&decide ((n:Int)≤(n:Int)))&&decide (n≤n)) (.sem (opAt Tryz.f85 11 3) [(.tmp 38,.sub 0 c7 0 5 c3)] [.rows 142 5 n c4] (.tuple []) [.rows 142 5 n (fun q j=>if(x0_5).toNat≤q∧q<(x0_5).toNat+c3 then c5.getD j uU else c4 q j)] true (.wait 1 (.telb 0 5 n (fun q j=>if(x0_5).toNat≤q∧q<(x0_5).toNat+c3 then c5.getD j uU else c4 q j) (rowsOf tStretch c8) (.need (((decide (0≤(0:Int))&&decide ((0:Int)≤x0_5))&&decide (x0_5≤(n:Int)))&&decide (n≤n)) (.out (.r1 c8 c7))))))))
noncomputable def g85(n:Nat)(s:ByteArray)(l:List Stretch):P85→List Item × St
 |.e=>([.code (Tryz.f85.body.getD .skip)],⟨[.row 0 n,fG 86 [rR (.str s)]]++List.replicate 40 uU,[.rows 142 5 n (rowsOf tStretch l)],[]⟩)
 |.l0 x0_5 x0_6 a0_0=>(cutOf Tryz.f85 0,⟨mk 42 [(0,.row 0 n),(1,fG 86 [rR (.str s)]),(5,iI x0_5),(6,iI x0_6)],[.rows 142 5 n (rowsOf tStretch a0_0)],[]⟩)
noncomputable def n85(n:Nat)(s:ByteArray)(l:List Stretch):R85→Exit × St
 |.r0 r0=>(.ret,⟨mk 42 [(4,.row 0 n)],[.rows 142 5 n (rowsOf tStretch r0)],[]⟩)
 |.r1 r0 r1=>(.ret,⟨mk 42 [(4,.row 0 r1)],[.rows 142 5 n (rowsOf tStretch r0)],[]⟩)
theorem s85(n:Nat)(s:ByteArray)(l:List Stretch):Sm 1 (g85 n s l) (T85 n s l) (n85 n s l)
 |.e=>⟨400,by kernel_rfl⟩
 |.l0 _ _ _=>⟨400,by kernel_rfl⟩
noncomputable def hh85(n:Nat)(s:ByteArray)(l:List Stretch):R85→List Blk
 |.r0 r0=>[.rows 142 5 n (rowsOf tStretch r0)]
 |.r1 r0 r1=>[.rows 142 5 n (rowsOf tStretch r0)]
noncomputable def v85(n:Nat)(s:ByteArray)(l:List Stretch):R85→V
 |.r0 r0=>.row 0 n
 |.r1 r0 r1=>.row 0 r1
theorem q85(n:Nat)(s:ByteArray)(l:List Stretch):∀r,((n85 n s l r).1=.normal∨(n85 n s l r).1=.ret)∧(n85 n s l r).2.d=[]∧(n85 n s l r).2.h=hh85 n s l r∧resultV Tryz.prog Tryz.f85 (n85 n s l r).2=some (v85 n s l r)
 |.r0 r0=>⟨.inr rfl,rfl,rfl,by kernel_rfl⟩
 |.r1 r0 r1=>⟨.inr rfl,rfl,rfl,by kernel_rfl⟩
theorem w85(n:Nat)(s:ByteArray)(l:List Stretch){V0:V}{h':List Blk}(h:WP Tryz.prog ⟨none,1⟩ (T85 n s l) (Ends' fun r=>v85 n s l r=V0∧hh85 n s l r=h') .e):HCalls Tryz.prog 85 [.row 0 n,fG 86 [rR (.str s)]] V0 [.rows 142 5 n (rowsOf tStretch l)] h':=
 HCalls.wp mx Tryz.func85 (by kernel_rfl) (by kernel_rfl) (T85 n s l) (g85 n s l) (n85 n s l) .e rfl (s85 n s l) h fun r hr=>by rw[←hr.1,←hr.2];exact q85 n s l r
def kept(s:ByteArray)(l:List Stretch)(j:Nat):List Stretch:=(l.take j).filter fun x=> !(delS s x)
def lay85(s:ByteArray)(l:List Stretch)(j:Nat):List Stretch:=kept s l j++l.drop (kept s l j).length
theorem kept_len(s:ByteArray)(l:List Stretch)(j:Nat):(kept s l j).length≤j:=by
 unfold kept
 exact Nat.le_trans (List.length_filter_le _ _) (by rw[List.length_take];omega)
theorem kept_le(s:ByteArray)(l:List Stretch)(j:Nat):(kept s l j).length≤l.length:=by
 unfold kept
 exact Nat.le_trans (List.length_filter_le _ _) (by rw[List.length_take];omega)
theorem kept_y{s:ByteArray}{l:List Stretch}{j:Nat}(hj:j<l.length)(h:delS s (l.getD j zStretch)=false):kept s l (j+1)=kept s l j++ [l.getD j zStretch]:=by
 unfold kept;rw[take_snoc zStretch l j hj,List.filter_append,List.filter_cons,h];rfl
theorem kept_n{s:ByteArray}{l:List Stretch}{j:Nat}(hj:j<l.length)(h:delS s (l.getD j zStretch)=true):kept s l (j+1)=kept s l j:=by
 unfold kept;rw[take_snoc zStretch l j hj,List.filter_append,List.filter_cons,h];simp
theorem lay_len(s:ByteArray)(l:List Stretch)(j:Nat):(lay85 s l j).length=l.length:=by
 have:=kept_le s l j
 unfold lay85;rw[List.length_append,List.length_drop];omega
theorem lay_get{s:ByteArray}{l:List Stretch}{j:Nat}(hj:j<l.length):(lay85 s l j).getD j zStretch=l.getD j zStretch:=by
 have:=kept_len s l j
 unfold lay85
 rw[List.getD_eq_getElem?_getD,List.getElem?_append_right this,List.getElem?_drop,List.getD_eq_getElem?_getD,show(kept s l j).length+(j-(kept s l j).length)=j by omega]
theorem lay_y{s:ByteArray}{l:List Stretch}{j:Nat}(hj:j<l.length)(h:delS s (l.getD j zStretch)=false):(lay85 s l j).set (kept s l j).length (l.getD j zStretch)=lay85 s l (j+1):=by
 have hk:=kept_len s l j
 unfold lay85
 rw[kept_y hj h,List.set_append_right _ _ (Nat.le_refl _),Nat.sub_self,drop_cons zStretch l (kept s l j).length (by omega),List.set_cons_zero,List.length_append,List.length_singleton]
 simp
theorem lay_n{s:ByteArray}{l:List Stretch}{j:Nat}(hj:j<l.length)(h:delS s (l.getD j zStretch)=true):lay85 s l (j+1)=lay85 s l j:=by unfold lay85;rw[kept_n hj h]
theorem firstI_before{τ:Type}{p:τ→Bool}(dflt:τ):∀ {l:List τ} {k i:Nat},firstI p k l=some i→∀j,k+j<i→p (l.getD j dflt)=false
 |[],_,_,h=>by cases h
 |x::l,k,i,h=>fun j hj=>by
  simp only[firstI]at h
  split at h
  ·cases h;omega
  ·rename_i hp
   cases j with
   |zero=>simpa using hp
   |succ j=>exact firstI_before dflt h j (by omega)
theorem kept_all{s:ByteArray}{l:List Stretch}:∀j,j≤l.length→(∀i,i<j→delS s (l.getD i zStretch)=false)→kept s l j=l.take j
 |0,_,_=>rfl
 |j+1,hj,h=>by rw[kept_y (by omega) (h j (by omega)),kept_all j (by omega) (fun i hi=>h i (by omega)),←take_snoc zStretch l j (by omega)]
theorem tel_clear85(L:List Stretch)(n i:Nat)(hn:L.length=n)(hi:i≤n){q j:Nat}(hq:q<n)(hj:j<5):
  VLe (if i≤q∧q<i+(n-i)then([iI 0,iI 0,.str (ByteArray.mk #[]),iI 0,iI 0]:List V).getD j uU else rowsOf tStretch L q j) (rowsOf tStretch (padD (L.take i) n) q j):=by
 have hl:(L.take i).length=i:=by rw[List.length_take];omega
 unfold rowsOf padD
 rw[hl,List.getD_eq_getElem?_getD (l:=_++_)]
 by_cases h:i≤q
 ·rw[if_pos ⟨h,by omega⟩,List.getElem?_append_right (by omega),List.getElem?_replicate,if_pos (by omega)];exact VLe.refl _
 ·rw[if_neg (by omega),List.getElem?_append_left (by omega),List.getElem?_take_of_lt (by omega),←List.getD_eq_getElem?_getD];exact VLe.refl _
theorem tel_set85(L:List Stretch)(i:Nat)(x:Stretch){n r j:Nat}(hr:r<n)(hj:j<5)(hn:L.length=n):
  VLe (if r=i∧0≤j∧j<0+([iI x.line,iI x.body,.str x.as_,iI x.span.lo,iI x.span.hi]:List V).length then([iI x.line,iI x.body,.str x.as_,iI x.span.lo,iI x.span.hi]:List V).getD (j-0) uU else rowsOf tStretch L r j) (rowsOf tStretch (L.set i x) r j):=
 tel_set tStretch L i x (n:=n) (w:=5) [iI x.line,iI x.body,.str x.as_,iI x.span.lo,iI x.span.hi] rfl rfl hn.symm r j hr hj
theorem underS(x:Stretch):underL 0 [V.int .i64 x.line,iI x.body,.str x.as_,iI x.span.lo,iI x.span.hi]=true:=rfl
theorem sem85(L:List Stretch)(n i:Nat)(hi:i≤n):SemOK Tryz.prog (opAt Tryz.f85 11 3) [(.tmp 38,.sub 0 i 0 5 (n-i))] [.rows 142 5 n (rowsOf tStretch L)] (.tuple []) [.rows 142 5 n (fun q j=>if i≤q∧q<i+(n-i)then([iI 0,iI 0,.str (ByteArray.mk #[]),iI 0,iI 0]:List V).getD j uU else rowsOf tStretch L q j)]:=by
 have e:opAt Tryz.f85 11 3=.call {callee:=.builtin .clear,args:= #[.tmp 38],argTypes:= #[138]}:=by kernel_rfl
 rw[e]
 exact sem_clear (e:=142) (i:=0) (by kernel_rfl) (by kernel_rfl) rfl rfl rfl (by omega)
set_option maxHeartbeats 4000000 in
theorem c85(s:ByteArray)(l:List Stretch)(hl:l.length≤100000):HCalls Tryz.prog 85 [.row 0 l.length,fG 86 [rR (.str s)]] (.row 0 (l.filter fun x=> !(delS s x)).length) [.rows 142 5 l.length (rowsOf tStretch l)] [.rows 142 5 l.length (rowsOf tStretch (padD (l.filter fun x=> !(delS s x)) l.length))]:=by
 have hz:tStretch.zero=zStretch:=rfl
 have k115:=c115d s l (by omega)
 have hkf:kept s l l.length=l.filter fun x=> !(delS s x):=by unfold kept;rw[List.take_length]
 rw[←hkf]
 cases hf:firstI (delS s) 0 l with
 |none=>
  have hidx:idxD s l= -1:=by unfold idxD;rw[hf]
  have hall:∀i,i<l.length→delS s (l.getD i zStretch)=false:=fun i hi=>by
   have:=firstI_any (delS s) l 0
   rw[hf]at this
   have h2:=List.any_eq_false.1 this.symm (l.getD i zStretch) (getD_mem zStretch l i hi)
   simpa using h2
  have hk:=kept_all l.length (Nat.le_refl _) hall
  rw[List.take_length]at hk
  have hpd:padD l l.length=l:=by unfold padD;rw[Nat.sub_self];simp
  rw[hk,hpd]
  rw[hidx]at k115
  clear hk hkf hpd hall hf
  refine w85 l.length s l (WP.step ?_)
  simp only[T85,Go,Ends',v85,Tr.sure,SS,hidx]
  repeat' with_reducible first|intro _|apply And.intro
  all_goals first|exact k115|(simp[hidx,Go,Ends',v85,-List.getD_eq_getElem?_getD, *];done)|skip
  all_goals exact rfl
 |some i0=>
  obtain⟨-,i1,i2⟩:=firstI_get zStretch hf
  rw[Nat.sub_zero]at i1 i2
  have hbef:=fun j (hj:j<i0)=>firstI_before zStretch hf j (by omega)
  have hidx:idxD s l=(i0:Int):=by unfold idxD;rw[hf]
  have hk0:=kept_all i0 (by omega) hbef
  have hk1:kept s l (i0+1)=l.take i0:=by rw[kept_n i1 i2,hk0]
  have hk1l:(kept s l (i0+1)).length=i0:=by rw[hk1,List.length_take];omega
  have hL0:lay85 s l (i0+1)=l:=by unfold lay85;rw[hk1l,hk1,List.take_append_drop]
  have hne:((i0:Int)== -1)=false:=by rw[beq_eq_false_iff_ne];omega
  have hr0:inR .i64 ((i0:Int)+1)=true:=inR64 (by omega) (by omega)
  have hmain:WP Tryz.prog ⟨none,1⟩ (T85 l.length s l) (Ends' fun r=>v85 l.length s l r=.row 0 (kept s l l.length).length∧hh85 l.length s l r=[.rows 142 5 l.length (rowsOf tStretch (padD (kept s l l.length) l.length))]) (.l0 (i0:Int) ((i0:Int)+1) l):=by
   refine WP.run (fun k=>.l0 ((kept s l (i0+1+k)).length:Int) ((i0:Int)+1+(k:Int)) (lay85 s l (i0+1+k))) (by rw[Nat.add_zero,hk1l,hL0];simp) (l.length-(i0+1)) (fun k hk=> ?_) ?_
   ·obtain⟨j,hj⟩:∃j,j=i0+1+k:=⟨_,rfl⟩
    have ej:(i0:Int)+1+(k:Int)=(j:Int):=by omega
    have ej2:(i0:Int)+1+((k+1:Nat):Int)=(j:Int)+1:=by omega
    have ej3:i0+1+(k+1)=j+1:=by omega
    rw[ej2,ej3,ej,←hj]
    have hjl:j<l.length:=by omega
    have hj':(j:Int)<l.length:=by omega
    have hr:inR .i64 ((j:Int)+1)=true:=inR64 (by omega) (by omega)
    have hkl:=kept_len s l j
    have hr2:inR .i64 (((kept s l j).length:Int)+1)=true:=inR64 (by omega) (by omega)
    have hki:((kept s l j).length:Int)<l.length:=by omega
    have hki2:(kept s l j).length<l.length:=by omega
    have hget:=lay_get (s:=s) hjl
    have hln:=lay_len s l j
    have k86:=c86 s (l.getD j zStretch)
    cases hd:delS s (l.getD j zStretch)with
    |true=>
     rw[lay_n hjl hd,kept_n hjl hd]
     rw[hd]at k86
     generalize lay85 s l j=L at*
     clear hj ej ej2 ej3 hk1 hk1l hk0 hL0 hkf hbef hf i2 k115
     refine WP.once ?_
     simp only[T85,Tr.sure,SS,hj',hz,hget,hd,Int.toNat_natCast]
     repeat' with_reducible first|intro _|apply And.intro
     all_goals first|exact k86|(simp[hr,Go,Ends',v85,-List.getD_eq_getElem?_getD, *];done)
    |false=>
     have hky:((kept s l (j+1)).length:Int)=((kept s l j).length:Int)+1:=by rw[kept_y hjl hd,List.length_append,List.length_singleton];omega
     rw[hky,←lay_y hjl hd]
     rw[hd]at k86
     generalize lay85 s l j=L at*
     generalize kept s l j=Kp at*
     generalize l.getD j zStretch=X at*
     clear hj ej ej2 ej3 hk1 hk1l hk0 hL0 hkf hbef hf i2 k115 hky
     refine WP.once ?_
     simp only[T85,Tr.sure,SS,hj',hki,hki2,hz,hget,hd,Int.toNat_natCast]
     repeat' with_reducible first|intro _|apply And.intro
     all_goals first|exact k86|exact(by with_reducible exact tel_set85 _ _ _ (by assumption) (by assumption) (by assumption))|exact(by with_reducible exact underS _)|(simp[hr,hr2,Go,Ends',v85,-List.getD_eq_getElem?_getD, *];done)
   ·have hkl:=kept_le s l l.length
    have e1:i0+1+(l.length-(i0+1))=l.length:=by omega
    have e2:(i0:Int)+1+((l.length-(i0+1):Nat):Int)=l.length:=by omega
    rw[e1,e2]
    have hln:=lay_len s l l.length
    have htk:(lay85 s l l.length).take (kept s l l.length).length=kept s l l.length:=by unfold lay85;rw[List.take_append_of_le_length (Nat.le_refl _),List.take_length]
    have hle2:((kept s l l.length).length:Int)≤l.length:=by omega
    have ks:=sem85 (lay85 s l l.length) l.length (kept s l l.length).length hkl
    have kt:=fun {q j:Nat} (hq:q<l.length) (hj:j<5)=>tel_clear85 (lay85 s l l.length) l.length (kept s l l.length).length hln hkl hq hj
    rw[htk]at kt
    generalize lay85 s l l.length=L at*
    generalize kept s l l.length=Kp at*
    clear e1 e2 hk1 hk1l hk0 hL0 hkf hbef hf i2 k115
    refine WP.step ?_
    simp only[T85,Go,Ends',v85,Tr.sure,SS,Int.lt_irrefl,hle2,htk,Int.toNat_natCast]
    repeat' with_reducible first|intro _|apply And.intro
    all_goals first|exact ks|exact(by with_reducible exact kt (by assumption) (by assumption))|(simp[Go,Ends',v85,-List.getD_eq_getElem?_getD, *];done)|skip
    all_goals exact rfl
  rw[hidx]at k115
  clear hk1 hk1l hk0 hL0 hbef hf i2 hkf
  refine w85 l.length s l (WP.step ?_)
  simp only[T85,Go,Ends',v85,Tr.sure,SS,hidx,hne]
  repeat' with_reducible first|intro _|apply And.intro
  all_goals first|exact k115|exact hmain|(simp[hidx,hne,hr0,Go,Ends',v85,-List.getD_eq_getElem?_getD, *];done)
end
noncomputable section
inductive P84h
 |e
 |l0 (x0_10:Int) (a0_0:List Stretch)
 |l1 (x0_10:Int) (x1_19:Int) (a1_0:List Stretch)
inductive R84h
 |r0 (r0:Nat) (r1:List Stretch) (r2:Nat)
noncomputable def T84h(x:Look):P84h→Tr P84h R84h
 |.e=>(.wait 2 (.own 2 142 5 (.go (.l0 0 ([])))))
 |.l0 x0_10 a0_0=>(.br (decide (x0_10<(365:Int))) (.go (.l1 x0_10 0 a0_0)) (.wait 2 (.telb 0 5 a0_0.length (rowsRev tStretch a0_0) (rowsOf tStretch a0_0.reverse) (.out (.r0 a0_0.length a0_0.reverse a0_0.length)))))
 |.l1 x0_10 x1_19 a1_0=>let c2:=namedR (x.b.bodies.getD (x1_19).toNat zBody) x0_10;let c1:=idxS (⟨(lineN x.b x0_10),x1_19,c2,(⟨x0_10,x0_10⟩:Span)⟩:Stretch) x0_10 a1_0.reverse;let c3:List V:=[iI (lineN x.b x0_10),iI x1_19,.str c2,iI x0_10,iI x0_10];let c4:=x1_19+(1:Int);let c5:=setS a1_0 c1 x0_10;let c6:=(x.b.bodies.length:Int);(.br (decide (x1_19<c6)) (.front [(2,77,[lk x,iI x0_10],iI (lineN x.b x0_10)),(7,81,[lk x,iI x1_19,iI x0_10],.str c2)] [] true true (.call 115 [.list 5 a1_0.length (rowsRev tStretch a1_0),fG 116 [.cref 5 fun q=>(c3:List V).getD q uU,rR (iI x0_10)]] (iI c1) ((decide (a1_0.length≤a1_0.length))&&true) true (.br (c2.toList==(ByteArray.mk #[]).toList) (.need (inR .i64 c4) (.go (.l1 x0_10 c4 a1_0))) (.br (decide (c1≥(0:Int))) (.drop ⟨[.nil,uU,.nil,.nil,.nil,uU,uU,.nil,uU,uU,.nil,uU,uU,uU,uU,uU,uU,uU,.nil,.nil,uU,uU,uU,uU,uU,uU,uU,uU,uU,uU,uU,uU,uU,uU,uU,uU,uU,uU,uU,uU,uU,uU,uU,uU,uU,uU,uU,uU,uU,uU,uU,uU,uU,uU,uU,uU,uU],[.void,.void,.void],[]⟩ (.over (regionF Tryz.f84 13) ⟨[lk x,uU,.row 0 a1_0.length,.func (.func 81) [lk x] [],.ref 1 0 0,uU,uU,iI c1,uU,uU,iI x0_10,uU,uU,uU,uU,uU,uU,uU,iI c6,iI x1_19,uU,uU,uU,uU,uU,uU,uU,uU,uU,uU,uU,uU,uU,uU,uU,uU,uU,uU,uU,uU,uU,uU,uU,uU,uU,uU,uU,uU,uU,uU,uU,uU,uU,uU,uU,uU,uU],[.rows 142 5 a1_0.length (rowsRev tStretch a1_0),.cells [iI x0_10],.cells c3],[]⟩ .normal ⟨[lk x,uU,.row 0 (c5.length),.func (.func 81) [lk x] [],.ref 1 0 0,uU,uU,iI c1,uU,uU,iI x0_10,uU,uU,uU,uU,uU,uU,uU,iI c6,iI x1_19,uU,uU,uU,uU,uU,uU,uU,uU,uU,uU,uU,uU,uU,uU,uU,uU,uU,uU,uU,uU,uU,uU,uU,uU,uU,uU,uU,uU,uU,uU,uU,uU,uU,uU,uU,uU,uU],[.rows 142 5 (c5.length) (rowsRev tStretch c5),.cells [iI x0_10],.cells c3],[]⟩ true (.need (inR .i64 c4) (.go (.l1 x0_10 c4 c5))))) (.need ((decide (a1_0.length=a1_0.length)&&decide (a1_0.length+1≤4294967296))&&decide (1≤1)) (.scal (fun _=>true) (.need (inR .i64 c4) (.go (.l1 x0_10 c4 ((⟨(lineN x.b x0_10),x1_19,c2,(⟨x0_10,x0_10⟩:Span)⟩:Stretch)::a1_0)))))))))) (.need (inR .i64 (x0_10+(1:Int))) (.go (.l0 (x0_10+(1:Int)) a1_0))))
noncomputable def g84h(x:Look):P84h→List Item × St
 |.e=>bd Tryz.f84 [lk x] 56
 |.l0 x0_10 a0_0=>(cutOf Tryz.f84 0,⟨mk 57 [(0,lk x),(2,.row 0 a0_0.length),(3,.func (.func 81) [lk x] []),(10,iI x0_10)],[.rows 142 5 a0_0.length (rowsRev tStretch a0_0)],[]⟩)
 |.l1 x0_10 x1_19 a1_0=>(cutOf Tryz.f84 1,⟨mk 57 [(0,lk x),(2,.row 0 a1_0.length),(3,.func (.func 81) [lk x] []),(4,.ref 1 0 0),(10,iI x0_10),(18,iI (x.b.bodies.length:Int)),(19,iI x1_19)],[.rows 142 5 a1_0.length (rowsRev tStretch a1_0),.cells [iI x0_10]],[]⟩)
noncomputable def n84h:R84h→Exit × St
 |.r0 r0 r1 r2=>(.ret,⟨mk 57 [(2,.row 0 r2)],[.rows 142 5 r0 (rowsOf tStretch r1)],[]⟩)
theorem s84h(x:Look):Sm 0 (g84h x) (T84h x) (n84h)
 |.e=>⟨400,by kernel_rfl⟩
 |.l0 _ _=>⟨400,by kernel_rfl⟩
 |.l1 _ _ _=>⟨400,by kernel_rfl⟩
noncomputable def hh84h:R84h→List Blk
 |.r0 r0 r1 r2=>[.rows 142 5 r0 (rowsOf tStretch r1)]
noncomputable def v84h:R84h→V
 |.r0 r0 r1 r2=>.row 0 r2
theorem q84h:∀r,((n84h r).1=.normal∨(n84h r).1=.ret)∧(n84h r).2.d=[]∧(n84h r).2.h=hh84h r∧resultV Tryz.prog Tryz.f84 (n84h r).2=some (v84h r)
 |.r0 r0 r1 r2=>⟨.inr rfl,rfl,rfl,by kernel_rfl⟩
theorem w84h(x:Look){V0:V}{h':List Blk}(h:WP Tryz.prog ⟨none,0⟩ (T84h x) (Ends' fun r=>v84h r=V0∧hh84h r=h') .e):HCalls Tryz.prog 84 [lk x] V0 [] h':=
 HCalls.wp mx Tryz.func84 (by kernel_rfl) (by kernel_rfl) (T84h x) (g84h x) (n84h) .e rfl (s84h x) h fun r hr=>by rw[←hr.1,←hr.2];exact q84h r
set_option maxHeartbeats 4000000 in
theorem c84h(b:Book)(h:OkBook b):HCalls Tryz.prog 84 [lk (lookOf b)] (.row 0 (stretchesR b).length) [] [.rows 142 5 (stretchesR b).length (rowsOf tStretch (stretchesR b))]:=by
 have hnb:=h.nb
 have hmain:WP Tryz.prog ⟨none,0⟩ (T84h (lookOf b)) (Ends' fun r=>v84h r=.row 0 (stretchesR b).length∧hh84h r=[.rows 142 5 (stretchesR b).length (rowsOf tStretch (stretchesR b))]) (.l0 0 []):=by
  refine WP.run (fun d=>.l0 (d:Int) (strD b d).reverse) rfl 365 (fun d hd=> ?_) ?_
  ·have hr:inR .i64 ((d:Int)+1)=true:=inR64 (by omega) (by omega)
   have hrm:inR .i64 ((d:Int)-1)=true:=inR64 (by omega) (by omega)
   have hd':(d:Int)<365:=by omega
   have hdl:=strD_len h d
   have hci:((d+1:Nat):Int)=(d:Int)+1:=by omega
   have hnx:strD b (d+1)=strB b (d:Int) (strD b d) b.bodies.length:=rfl
   rw[hnx]
   generalize strD b d=D at*
   refine WP.step ?_
   simp only[T84h,Go,Ends',v84h,Tr.sure,SS,hd',lookOf_b,Int.toNat_natCast]
   repeat' with_reducible first|intro _|apply And.intro
   refine WP.run (fun k=>.l1 (d:Int) (k:Int) (strB b (d:Int) D k).reverse) rfl b.bodies.length (fun k hk=> ?_) ?_
   ·have hr2:inR .i64 ((k:Int)+1)=true:=inR64 (by omega) (by omega)
    have hk':(k:Int)<b.bodies.length:=by omega
    have hk0:(0:Int)≤k:=by omega
    have k77:=c77 b h (d:Int)
    have k81:=c81 b h (k:Int) (d:Int) ⟨by omega,by omega⟩
    rw[Int.toNat_natCast]at k81
    have hbl:=strB_len b (d:Int) D k
    have hst:strB b (d:Int) D (k+1)=stepS b (d:Int) k (strB b (d:Int) D k):=rfl
    rw[hst]
    generalize strB b (d:Int) D k=l at*
    have hll:l.length≤1000000:=by omega
    have hal:l.reverse.length+1≤4294967296:=by rw[List.length_reverse];omega
    have k115:=c115 (oneS b (d:Int) k) (d:Int) l hll hrm
    have kl:VLe (.list 5 l.reverse.length (rowsRev tStretch l.reverse)) (tStretch.lst l):=by
     have:=VLe.rev tStretch l.reverse
     rwa[List.reverse_reverse]at this
    have k115':=PCalls.arg (pre:=[]) k115 kl
    have hrr:l.reverse.reverse=l:=List.reverse_reverse _
    have hone:(⟨lineN b (d:Int),(k:Int),namedR (b.bodies.getD k zBody) (d:Int),(⟨(d:Int),(d:Int)⟩:Span)⟩:Stretch)=oneS b (d:Int) k:=rfl
    unfold stepS
    by_cases he:((namedR (b.bodies.getD k zBody) (d:Int)).toList==(ByteArray.mk #[]).toList)=true
    ·rw[if_pos he]
     refine WP.once ?_
     simp only[T84h,Tr.sure,SS,hk',hk0,lookOf_b,Int.toNat_natCast,he,hrr,hone]
     repeat' with_reducible first|intro _|apply And.intro
     all_goals first|exact k77|exact k81|exact k115'|(simp[hr2,Go,Ends',v84h,-List.getD_eq_getElem?_getD, *];done)
    ·rw[if_neg he]
     have he':((namedR (b.bodies.getD k zBody) (d:Int)).toList==(ByteArray.mk #[]).toList)=false:=by simpa using he
     by_cases hx:0≤idxS (oneS b (d:Int) k) (d:Int) l
     ·rw[if_pos hx]
      obtain⟨io,hio,hil⟩:=idxS_in _ _ _ hx
      rw[hio]at hx k115'⊢
      have hset:(setL l (io:Int) (d:Int)).reverse=setS l.reverse (io:Int) (d:Int):=by unfold setS;rw[List.reverse_reverse]
      rw[hset]
      have kov:=ov84_13 (lookOf b) l.reverse (d:Int) (b.bodies.length:Int) (k:Int) io (lineN b (d:Int)) (k:Int) (namedR (b.bodies.getD k zBody) (d:Int)) (d:Int) (d:Int) (by rw[List.length_reverse];exact hil)
      generalize l.reverse=A at*
      refine WP.once ?_
      simp only[T84h,Tr.sure,SS,hk',hk0,lookOf_b,Int.toNat_natCast,he',hrr,hone,hio,hx]
      repeat' with_reducible first|intro _|apply And.intro
      all_goals first|exact k77|exact k81|exact k115'|exact kov|(simp[hr2,Go,Ends',v84h,-List.getD_eq_getElem?_getD, *];done)
     ·rw[if_neg hx]
      have hx':¬idxS (oneS b (d:Int) k) (d:Int) l≥0:=hx
      have hap:(l++ [oneS b (d:Int) k]).reverse=oneS b (d:Int) k::l.reverse:=by simp
      rw[hap]
      generalize l.reverse=A at*
      refine WP.once ?_
      simp only[T84h,Tr.sure,SS,hk',hk0,lookOf_b,Int.toNat_natCast,he',hrr,hone,hx']
      repeat' with_reducible first|intro _|apply And.intro
      all_goals first|exact k77|exact k81|exact k115'|(simp[hr2,hal,Go,Ends',v84h,-List.getD_eq_getElem?_getD, *];done)
   ·rw[hci]
    generalize(strB b (d:Int) D b.bodies.length).reverse=A at*
    refine WP.once ?_
    simp only[T84h,Tr.sure,SS,Int.lt_irrefl,lookOf_b]
    repeat' with_reducible first|intro _|apply And.intro
    all_goals simp[hr,Go,Ends',v84h,-List.getD_eq_getElem?_getD, *]
  ·have e:(strD b 365).reverse.reverse=stretchesR b:=by rw[List.reverse_reverse];rfl
   have kt:=fun {r j:Nat} (hr:r<(strD b 365).reverse.length) (_:j<5)=>(show VLe (rowsRev tStretch (strD b 365).reverse r j) (rowsOf tStretch (strD b 365).reverse.reverse r j)from by rw[rowsRev_get tStretch _ r j hr];exact VLe.refl _)
   have el:(strD b 365).reverse.length=(stretchesR b).length:=by rw[List.length_reverse];rfl
   generalize(strD b 365).reverse=A at*
   refine WP.step ?_
   simp only[T84h,Go,Ends',v84h,Tr.sure,SS]
   repeat' with_reducible first|intro _|apply And.intro
   all_goals first|exact(by with_reducible exact kt (by assumption) (by assumption))|(simp[e,el,Go,Ends',v84h,-List.getD_eq_getElem?_getD, *];done)|(simp_all [e,el,Go,Ends',v84h,-List.getD_eq_getElem?_getD];done)|skip
   all_goals(show[Blk.rows 142 5 A.length (rowsOf tStretch A.reverse)]=_;rw[e,el])
 refine w84h (lookOf b) (WP.step ?_)
 simp only[T84h,Go,Ends',v84h,Tr.sure,SS]
 repeat' with_reducible first|intro _|apply And.intro
 all_goals exact hmain
end
noncomputable section
def keptB(b:Book)(s:ByteArray):List Stretch:=(stretchesR b).filter fun x=> !(delS s x)
theorem c84x(b:Book)(h:OkBook b)(hh:List Blk):HCalls Tryz.prog 84 [lk (lookOf b)] (.row hh.length (stretchesR b).length) hh (hh++ [.rows 142 5 (stretchesR b).length (rowsOf tStretch (stretchesR b))]):=by
 have:=(c84h b h).frame rfl rfl hh
 rw[show V.sh hh.length (V.row 0 (stretchesR b).length)=V.row hh.length (stretchesR b).length from by rw[V.sh,Nat.zero_add]]at this
 exact this
theorem c85x(s:ByteArray)(l:List Stretch)(hl:l.length≤100000)(hh:List Blk)(q:Nat)(hq:hh[q]? =some (.rows 142 5 l.length (rowsOf tStretch l))):HCalls Tryz.prog 85 [.row q l.length,fG 86 [rR (.str s)]] (.row q (l.filter fun x=> !(delS s x)).length) hh (hh.set q (.rows 142 5 l.length (rowsOf tStretch (padD (l.filter fun x=> !(delS s x)) l.length)))):=
 (c85 s l hl).atRowN (fun j=>match j with
  |0=>.inr (.inl ⟨_,rfl⟩)
  |1=>.inr (.inr rfl)
  |j+2=>.inr (.inr rfl)) ⟨_,rfl⟩ hq
inductive P34a
 |e
inductive R34a
 |r0 (r0:Int) (r1:Int) (r2:Int) (r3:Bool)
noncomputable def T34a(n:Nat)(P:List Pair)(H:List (Nat→Int))(K:List Stretch)(hd:Int)(lo:Int)(hi:Int)(f:Bool):P34a→Tr P34a R34a
 |.e=>(.out (.r0 hd lo hi f))
noncomputable def g34a(n:Nat)(P:List Pair)(H:List (Nat→Int))(K:List Stretch)(hd:Int)(lo:Int)(hi:Int)(f:Bool):P34a→List Item × St
 |.e=>([.code (asgOf (rangeOf Tryz.f34))],⟨[uU,uU,uU,uU,.ref 1 0 0,uU,.ref 3 0 0,uU,uU,rR (tStretch.lst K),.ref 7 0 0,uU,uU,uU,uU,uU,uU,uU,uU,uU,uU,uU,uU,uU,uU,uU,uU,uU,uU,uU,uU,uU,uU,uU,uU,uU,uU,.agg [.list 2 n (rowsOf tPair P),.list 5 (n+1) (rowsOf tHave H)],uU,uU,uU,uU,uU,uU,uU,uU,uU,uU,uU,uU,uU,uU,uU,uU,uU,uU,uU,uU,uU,uU,uU,uU,uU,uU,uU,uU,uU,uU,uU,uU,uU,uU,uU,uU,uU,uU,uU],[.gone,.cells [iI hd],.gone,.cells [iI lo,iI hi],.gone,.gone,.gone,.cells [.bool f]],[]⟩)
noncomputable def n34a(n:Nat)(P:List Pair)(H:List (Nat→Int))(K:List Stretch)(hd:Int)(lo:Int)(hi:Int)(f:Bool):R34a→Exit × St
 |.r0 r0 r1 r2 r3=>(.normal,⟨mk 77 [(4,.ref 1 0 0),(6,.ref 3 0 0),(9,rR (tStretch.lst K)),(10,.ref 7 0 0),(11,.ref 8 0 0)],[.gone,.cells [iI r0],.gone,.cells [iI r1,iI r2],.gone,.gone,.gone,.cells [.bool r3],.cells [.list 2 n (rowsOf tPair P),.list 5 (n+1) (rowsOf tHave H)]],[]⟩)
theorem s34a(n:Nat)(P:List Pair)(H:List (Nat→Int))(K:List Stretch)(hd:Int)(lo:Int)(hi:Int)(f:Bool):Sm 8 (g34a n P H K hd lo hi f) (T34a n P H K hd lo hi f) (n34a n P H K hd lo hi f)
 |.e=>⟨400,by kernel_rfl⟩
inductive P34b
 |e
 |l0 (x0_40:Int) (c0_3_0:Int) (c0_3_1:Int) (c0_7_0:Bool)
inductive R34b
 |r0 (r0:Int) (r1:Int) (r2:Int) (r3:Bool)
noncomputable def T34b(n:Nat)(P:List Pair)(H:List (Nat→Int))(K:List Stretch)(hd:Int)(lo:Int)(hi:Int)(f:Bool):P34b→Tr P34b R34b
 |.e=>(.go (.l0 0 lo hi f))
 |.l0 x0_40 c0_3_0 c0_3_1 c0_7_0=>let c1:=K.getD (x0_40).toNat tStretch.zero;let c3:Tr P34b R34b:=.need (inR .i64 (x0_40+(1:Int))) (.go (.l0 (x0_40+(1:Int)) c0_3_0 c0_3_1 c0_7_0));let c5:=decide (0≤c1.line)&&decide (c1.line<((n+1):Int));let c6:=H.getD (c1.line).toNat tHave.zero;let c7:=true&&(true&&true);let c8:=c1.span.lo;let c9:=c1.span.hi;let c2:Tr P34b R34b:=.br (!c0_7_0) (.need (inR .i64 (x0_40+(1:Int))) (.go (.l0 (x0_40+(1:Int)) (min c8 c8) (max c9 c9) true))) (.need (inR .i64 (x0_40+(1:Int))) (.go (.l0 (x0_40+(1:Int)) (min c0_3_0 c8) (max c0_3_1 c9) c0_7_0)));let c4:List V:=[iI (c1.line),iI (c1.body),.str (c1.as_),iI c8,iI c9];let c10:=x0_40<(K.length:Int);(.br (decide c10) (.need (decide (0≤x0_40)&&decide c10) (.wait 2 (.cas (decide (c1.body=0)) (.telc 9 c4 [iI (c1.line),iI 0,.str (c1.as_),iI c8,iI c9] (.front [] [] ((true&&(true&&(true&&(true&&(true&&(true&&(c5&&(((decide (0≤(0:Int))&&decide ((0:Int)<(5:Int)))&&true)&&c7))))))))&&true) true (.br ((c6 0) !=hd) c3 c2))) (.cas (decide (c1.body=1)) (.telc 9 c4 [iI (c1.line),iI 1,.str (c1.as_),iI c8,iI c9] (.front [] [] ((true&&(true&&(true&&(true&&(true&&(true&&(c5&&(((decide (0≤(1:Int))&&decide ((1:Int)<(5:Int)))&&true)&&c7))))))))&&true) true (.br ((c6 1) !=hd) c3 c2))) (.cas (decide (c1.body=2)) (.telc 9 c4 [iI (c1.line),iI 2,.str (c1.as_),iI c8,iI c9] (.front [] [] ((true&&(true&&(true&&(true&&(true&&(true&&(c5&&(((decide (0≤(2:Int))&&decide ((2:Int)<(5:Int)))&&true)&&c7))))))))&&true) true (.br ((c6 2) !=hd) c3 c2))) (.cas (decide (c1.body=3)) (.telc 9 c4 [iI (c1.line),iI 3,.str (c1.as_),iI c8,iI c9] (.front [] [] ((true&&(true&&(true&&(true&&(true&&(true&&(c5&&(((decide (0≤(3:Int))&&decide ((3:Int)<(5:Int)))&&true)&&c7))))))))&&true) true (.br ((c6 3) !=hd) c3 c2))) (.cas (decide (c1.body=4)) (.telc 9 c4 [iI (c1.line),iI 4,.str (c1.as_),iI c8,iI c9] (.front [] [] ((true&&(true&&(true&&(true&&(true&&(true&&(c5&&(((decide (0≤(4:Int))&&decide ((4:Int)<(5:Int)))&&true)&&c7))))))))&&true) true (.br ((c6 4) !=hd) c3 c2))) .never))))))) (.out (.r0 hd c0_3_0 c0_3_1 c0_7_0)))
noncomputable def g34b(n:Nat)(P:List Pair)(H:List (Nat→Int))(K:List Stretch)(hd:Int)(lo:Int)(hi:Int)(f:Bool):P34b→List Item × St
 |.e=>([.code (bdyOf (rangeOf Tryz.f34))],⟨[uU,uU,uU,uU,.ref 1 0 0,uU,.ref 3 0 0,uU,uU,rR (tStretch.lst K),.ref 7 0 0,.ref 8 0 0,uU,uU,uU,uU,uU,uU,uU,uU,uU,uU,uU,uU,uU,uU,uU,uU,uU,uU,uU,uU,uU,uU,uU,uU,uU,uU,uU,uU,uU,uU,uU,uU,uU,uU,uU,uU,uU,uU,uU,uU,uU,uU,uU,uU,uU,uU,uU,uU,uU,uU,uU,uU,uU,uU,uU,uU,uU,uU,uU,uU,uU,uU,uU,uU,uU],[.gone,.cells [iI hd],.gone,.cells [iI lo,iI hi],.gone,.gone,.gone,.cells [.bool f],.cells [.list 2 n (rowsOf tPair P),.list 5 (n+1) (rowsOf tHave H)]],[]⟩)
 |.l0 x0_40 c0_3_0 c0_3_1 c0_7_0=>((cuts [] (bdyOf (rangeOf Tryz.f34))).getD 0 [],⟨mk 77 [(4,.ref 1 0 0),(6,.ref 3 0 0),(10,.ref 7 0 0),(11,.ref 8 0 0),(38,tStretch.lst K),(39,iI (K.length:Int)),(40,iI x0_40)],[.gone,.cells [iI hd],.gone,.cells [iI c0_3_0,iI c0_3_1],.gone,.gone,.gone,.cells [.bool c0_7_0],.cells [.list 2 n (rowsOf tPair P),.list 5 (n+1) (rowsOf tHave H)]],[]⟩)
noncomputable def n34b(n:Nat)(P:List Pair)(H:List (Nat→Int))(K:List Stretch)(hd:Int)(lo:Int)(hi:Int)(f:Bool):R34b→Exit × St
 |.r0 r0 r1 r2 r3=>(.normal,⟨mk 77 [],[.gone,.cells [iI r0],.gone,.cells [iI r1,iI r2],.gone,.gone,.gone,.cells [.bool r3]],[]⟩)
theorem s34b(n:Nat)(P:List Pair)(H:List (Nat→Int))(K:List Stretch)(hd:Int)(lo:Int)(hi:Int)(f:Bool):Sm 8 (g34b n P H K hd lo hi f) (T34b n P H K hd lo hi f) (n34b n P H K hd lo hi f)
 |.e=>⟨400,by kernel_rfl⟩
 |.l0 _ _ _ _=>⟨400,by kernel_rfl⟩
abbrev BS:=Int × Int × Bool
def hitX(hd:Int)(H:List (Nat→Int))(x:Stretch):Bool:=(H.getD x.line.toNat tHave.zero) x.body.toNat==hd
def stepX(hd:Int)(H:List (Nat→Int))(s:BS)(x:Stretch):BS:=if hitX hd H x=true then(if s.2.2=true then(min s.1 x.span.lo,max s.2.1 x.span.hi,true)else(x.span.lo,x.span.hi,true))else s
def runX(hd:Int)(H:List (Nat→Int))(K:List Stretch)(s:BS):BS:=K.foldl (stepX hd H) s
theorem runX_step(hd:Int)(H:List (Nat→Int))(K:List Stretch)(s:BS)(i:Nat)(hi:i<K.length):runX hd H (K.take (i+1)) s=stepX hd H (runX hd H (K.take i) s) (K.getD i zStretch):=by
 unfold runX;rw[take_snoc zStretch K i hi,List.foldl_append];rfl
abbrev H34(hd:Int)(s:BS):List Blk:=[.gone,.cells [iI hd],.gone,.cells [iI s.1,iI s.2.1],.gone,.gone,.gone,.cells [.bool s.2.2]]
theorem body34(l:Nat)(n:Nat)(P:List Pair)(H:List (Nat→Int))(K:List Stretch)(hd:Int)(s:BS)(hK:K.length≤100000)(hin:∀x∈K,0≤x.line∧x.line≤n∧0≤x.body∧x.body<5):
  AWP Tryz.prog ⟨some l,8⟩ (bdyOf (rangeOf Tryz.f34)) (g34b n P H K hd s.1 s.2.1 s.2.2 .e).2 fun e S2=>e=.normal∧S2.h=H34 hd (runX hd H K s):=by
 refine AWP.wp mx (T34b n P H K hd s.1 s.2.1 s.2.2) (g34b n P H K hd s.1 s.2.1 s.2.2) (n34b n P H K hd s.1 s.2.1 s.2.2) .e rfl (s34b n P H K hd s.1 s.2.1 s.2.2) (post:=fun r=>(n34b n P H K hd s.1 s.2.1 s.2.2 r).1=.normal∧(n34b n P H K hd s.1 s.2.1 s.2.2 r).2.h=H34 hd (runX hd H K s)) ?_ (fun r hr=>hr)
 have hz:tStretch.zero=zStretch:=rfl
 have hmain:WP Tryz.prog ⟨some l,8⟩ (T34b n P H K hd s.1 s.2.1 s.2.2) (Ends' fun r=>(n34b n P H K hd s.1 s.2.1 s.2.2 r).1=.normal∧(n34b n P H K hd s.1 s.2.1 s.2.2 r).2.h=H34 hd (runX hd H K s)) (.l0 0 s.1 s.2.1 s.2.2):=by
  refine WP.run (fun i=>.l0 (i:Int) (runX hd H (K.take i) s).1 (runX hd H (K.take i) s).2.1 (runX hd H (K.take i) s).2.2) rfl K.length (fun i hi=> ?_) ?_
  ·have hr:inR .i64 ((i:Int)+1)=true:=inR64 (by omega) (by omega)
   have hi':(i:Int)<K.length:=by omega
   obtain⟨q1,q2,q3,q4⟩:=hin _ (getD_mem zStretch K i hi)
   rw[runX_step hd H K s i hi]
   generalize hS:runX hd H (K.take i) s=S
   generalize hX:K.getD i zStretch=X at*
   obtain⟨sl,sh,sf⟩:=S
   obtain⟨xl,xb,xs,⟨xlo,xhi⟩⟩:=X
   simp only at q1 q2 q3 q4
   have hl1:xl<(n:Int)+1:=by omega
   unfold stepX hitX
   simp only
   clear hS hin
   rcases show xb=0∨xb=1∨xb=2∨xb=3∨xb=4 by omega with rfl|rfl|rfl|rfl|rfl
   all_goals
    simp only[Int.toNat_zero,Int.toNat_one,Int.reduceToNat]
   ·rcases Bool.eq_false_or_eq_true ((H.getD xl.toNat tHave.zero) 0==hd)with hh|hh<;>cases sf
    all_goals
     simp only[hh,Bool.false_eq_true,↓reduceIte]
     have hh2:((H.getD xl.toNat tHave.zero) 0 !=hd)= !((H.getD xl.toNat tHave.zero) 0==hd):=rfl
     rw[hh]at hh2
     refine WP.once ?_
     simp only[T34b,Tr.sure,SS,hi',hz,hX,hh,hh2,q1,hl1,Int.toNat_natCast,Int.reduceEq]
     repeat' with_reducible first|intro _|apply And.intro
     all_goals first|exact(VLe.refl _)|(simp[hr,Go,Ends',-List.getD_eq_getElem?_getD, *];done)
   ·rcases Bool.eq_false_or_eq_true ((H.getD xl.toNat tHave.zero) 1==hd)with hh|hh<;>cases sf
    all_goals
     simp only[hh,Bool.false_eq_true,↓reduceIte]
     have hh2:((H.getD xl.toNat tHave.zero) 1 !=hd)= !((H.getD xl.toNat tHave.zero) 1==hd):=rfl
     rw[hh]at hh2
     refine WP.once ?_
     simp only[T34b,Tr.sure,SS,hi',hz,hX,hh,hh2,q1,hl1,Int.toNat_natCast,Int.reduceEq]
     repeat' with_reducible first|intro _|apply And.intro
     all_goals first|exact(VLe.refl _)|(simp[hr,Go,Ends',-List.getD_eq_getElem?_getD, *];done)
   ·rcases Bool.eq_false_or_eq_true ((H.getD xl.toNat tHave.zero) 2==hd)with hh|hh<;>cases sf
    all_goals
     simp only[hh,Bool.false_eq_true,↓reduceIte]
     have hh2:((H.getD xl.toNat tHave.zero) 2 !=hd)= !((H.getD xl.toNat tHave.zero) 2==hd):=rfl
     rw[hh]at hh2
     refine WP.once ?_
     simp only[T34b,Tr.sure,SS,hi',hz,hX,hh,hh2,q1,hl1,Int.toNat_natCast,Int.reduceEq]
     repeat' with_reducible first|intro _|apply And.intro
     all_goals first|exact(VLe.refl _)|(simp[hr,Go,Ends',-List.getD_eq_getElem?_getD, *];done)
   ·rcases Bool.eq_false_or_eq_true ((H.getD xl.toNat tHave.zero) 3==hd)with hh|hh<;>cases sf
    all_goals
     simp only[hh,Bool.false_eq_true,↓reduceIte]
     have hh2:((H.getD xl.toNat tHave.zero) 3 !=hd)= !((H.getD xl.toNat tHave.zero) 3==hd):=rfl
     rw[hh]at hh2
     refine WP.once ?_
     simp only[T34b,Tr.sure,SS,hi',hz,hX,hh,hh2,q1,hl1,Int.toNat_natCast,Int.reduceEq]
     repeat' with_reducible first|intro _|apply And.intro
     all_goals first|exact(VLe.refl _)|(simp[hr,Go,Ends',-List.getD_eq_getElem?_getD, *];done)
   ·rcases Bool.eq_false_or_eq_true ((H.getD xl.toNat tHave.zero) 4==hd)with hh|hh<;>cases sf
    all_goals
     simp only[hh,Bool.false_eq_true,↓reduceIte]
     have hh2:((H.getD xl.toNat tHave.zero) 4 !=hd)= !((H.getD xl.toNat tHave.zero) 4==hd):=rfl
     rw[hh]at hh2
     refine WP.once ?_
     simp only[T34b,Tr.sure,SS,hi',hz,hX,hh,hh2,q1,hl1,Int.toNat_natCast,Int.reduceEq]
     repeat' with_reducible first|intro _|apply And.intro
     all_goals first|exact(VLe.refl _)|(simp[hr,Go,Ends',-List.getD_eq_getElem?_getD, *];done)
  ·rw[List.take_length]
   refine WP.step ?_
   simp only[T34b,Go,Ends',Tr.sure,SS,Int.lt_irrefl]
   repeat' with_reducible first|intro _|apply And.intro
   all_goals exact rfl
 refine WP.step ?_
 simp only[T34b,Go,Ends',Tr.sure,SS]
 repeat' with_reducible first|intro _|apply And.intro
 all_goals exact hmain
def manyX(hd:Int)(K:List Stretch)(l:List Truth):BS:=l.foldl (fun s t=>runX hd (t.haves.map fnH) K s) (0,0,false)
abbrev t34(b:Book)(K:List Stretch):List V:=[uU,uU,uU,uU,.ref 1 0 0,uU,.ref 3 0 0,uU,uU,rR (tStretch.lst K),.ref 7 0 0]++List.replicate 25 uU++ [trF b 0]++List.replicate 40 uU
theorem manyX_step{hd:Int}{K:List Stretch}{l:List Truth}{k:Nat}{t:Truth}(h:l[k]? =some t):manyX hd K (l.take (k+1))=runX hd (t.haves.map fnH) K (manyX hd K (l.take k)):=by
 unfold manyX;rw[take_get h,List.foldl_append];rfl
theorem range34(b:Book)(h:OkBook b)(hd:Int)(K:List Stretch)(hK:K.length≤100000)(hin:∀x∈K,0≤x.line∧x.line≤b.lines.length∧0≤x.body∧x.body<5):
  AWP Tryz.prog ⟨none,0⟩ (rangeOf Tryz.f34) ⟨t34 b K,[.cells (tBook.cells b),.cells [iI hd],.gone,.cells [iI 0,iI 0],.gone,.gone,.gone,.cells [.bool false]],[]⟩ (fun e T=>e=.normal∧T=⟨t34 b K,[.cells (tBook.cells b),.cells [iI hd],.gone,.cells [iI (manyX hd K (truthsR b [])).1,iI (manyX hd K (truthsR b [])).2.1],.gone,.gone,.gone,.cells [.bool (manyX hd K (truthsR b [])).2.2],.obj (.deferred (some []))],[8]⟩):=by
 have e:rangeOf Tryz.f34=.rangeFunc (.tmp 36) #[37] (asgOf (rangeOf Tryz.f34)) (bdyOf (rangeOf Tryz.f34)):=by kernel_rfl
 have hlen:(ysB b 0).length=(truthsR b []).length:=by unfold ysB;rw[List.length_map,butL_zero]
 have hfull:(truthsR b []).take (ysB b 0).length=truthsR b []:=by rw[hlen,List.take_length]
 rw[e]
 refine(AWP.rangeVT (fs:=[true]) (T:=t34 b K) (H:=fun k=>H34 hd (manyX hd K ((truthsR b []).take k))) (f:=110) (ys:=ysB b 0) (caps:=[rR (lk (lookOf b)),rR (iI 0)])
  rfl rfl (fun i hi hv=> ?_) rfl (fun j=>.inl rfl) rfl rfl (PCalls.enters Tryz.func110 (c:=Tryz.f110.body.getD .skip) (by kernel_rfl) (by kernel_rfl)) (c110 b h 0) rfl (fun _=>rfl) (fun _=>rfl) (fun l k us hu=> ?_) (fun q i k hk=>freeAll (fun b hb=> ?_) i k hk)).mono fun e T q=>⟨q.1,by rw[q.2,hfull];rfl⟩
 ·match i,hi,hv with
  |0,_,hv=>cases hv
  |i+1,hi,_=>simp at hi
 ·obtain⟨t,ht,rfl⟩:=ysB_get hu
  rw[butL_zero]at ht
  have hnx:=manyX_step (hd:=hd) (K:=K) ht
  rw[hnx]
  generalize manyX hd K ((truthsR b []).take k)=s at*
  refine⟨rfl,?_⟩
  refine AWP.forget (t:=(setPs [37] [.agg [.list 2 b.lines.length (rowsOf tPair t.pairs),.list 5 (b.lines.length+1) (rowsOf tHave (t.haves.map fnH))]] (t34 b K)).set 36 uU) (by simp) (forget_set _ 36) ?_
  refine AWP.wp mx (T34a b.lines.length t.pairs (t.haves.map fnH) K hd s.1 s.2.1 s.2.2) (g34a b.lines.length t.pairs (t.haves.map fnH) K hd s.1 s.2.1 s.2.2) (n34a b.lines.length t.pairs (t.haves.map fnH) K hd s.1 s.2.1 s.2.2) .e rfl (s34a b.lines.length t.pairs (t.haves.map fnH) K hd s.1 s.2.1 s.2.2)
   (post:=fun r=>(n34a b.lines.length t.pairs (t.haves.map fnH) K hd s.1 s.2.1 s.2.2 r).1=.normal∧(n34a b.lines.length t.pairs (t.haves.map fnH) K hd s.1 s.2.1 s.2.2 r).2=(g34b b.lines.length t.pairs (t.haves.map fnH) K hd s.1 s.2.1 s.2.2 .e).2) ?_ (fun r hr=> ?_)
  ·refine WP.step ?_
   simp only[T34a,Go,Ends',Tr.sure,SS]
   repeat' with_reducible first|intro _|apply And.intro
   all_goals exact rfl
  ·rw[hr.2]
   exact⟨hr.1,rfl,body34 l b.lines.length t.pairs (t.haves.map fnH) K hd s hK hin⟩
 ·simp only[List.mem_cons,List.not_mem_nil,or_false]at hb
  rcases hb with rfl|rfl|rfl|rfl|rfl|rfl|rfl|rfl
  all_goals trivial
inductive P34y
 |e
inductive R34y
 |r0 (r0_0:Int) (r0_1:Int) (r1:Int)
 |r1 (r0_0:Int) (r0_1:Int) (r1:Int)
noncomputable def T34y(b:Book)(head:Int)(as_:ByteArray):P34y→Tr P34y R34y
 |.e=>let c3:=stretchesR b;let c5:List Blk:=[.cells (cC b),.cells [iI head],.gone,.cells [iI 0,iI 0],.gone,.rows 142 5 (c3.length) (rowsOf tStretch c3)];let c6:=keptB b as_;let c1:List V:=[uU,uU,uU,uU,.ref 1 0 0,uU,.ref 3 0 0,uU,uU,rR (tStretch.lst c6),.ref 7 0 0,uU,uU,uU,uU,uU,uU,uU,uU,uU,uU,uU,uU,uU,uU,uU,uU,uU,uU,uU,uU,uU,uU,uU,uU,uU,fG 110 [rR (lk (lookOf b)),rR (iI 0)],uU,uU,uU,uU,uU,uU,uU,uU,uU,uU,uU,uU,uU,uU,uU,uU,uU,uU,uU,uU,uU,uU,uU,uU,uU,uU,uU,uU,uU,uU,uU,uU,uU,uU,uU,uU,uU,uU,uU,uU];let c2:=manyX head c6 (truthsR b []);let c4:=rowsOf tStretch (padD c6 c3.length);let c7:=(decide (c6.length≤c3.length))&&true;(.wait 4 (.frz 4 ((decide (1≤1))&&true) (.wait 0 (.vle 17 (.list 1 1 (litC 1 1 [iI head])) (tint.lst ([head]:List Int)) (.call 74 [.agg (cC b),iI 0,tint.lst ([head]:List Int)] (.tuple [lk (lookOf b),iI 0]) true true (.br ((0:Int) !=(0:Int)) (.out (.r0 0 0 0)) (.call 59 [.str as_] (.bool (nameOk as_)) true true (.br (!(nameOk as_)) (.out (.r0 0 0 6)) (.wait 3 (.frz 2 (underL 0 [.str as_]) (.hcall 84 [lk (lookOf b)] (.row 5 (c3.length)) [.cells (cC b),.cells [iI head],.gone,.cells [iI 0,iI 0],.gone] c5 true (.hcall 85 [.row 5 (c3.length),fG 86 [rR (.str as_)]] (.row 5 (c6.length)) c5 [.cells (cC b),.cells [iI head],.gone,.cells [iI 0,iI 0],.gone,.rows 142 5 (c3.length) c4] true (.wait 1 (.frz 5 (((decide (c3.length≤c3.length))&&c7)&&(c7&&true)) (.vle 32 (.list 5 (c3.length) c4) (tStretch.lst (padD c6 c3.length)) (.vle 34 (.list 5 (c6.length) c4) (tStretch.lst c6) (.telc 6 [.list 5 (c6.length) c4] [tStretch.lst c6] (.wait 3 (.frz 6 (underL 0 [tStretch.lst c6]) (.call 75 [lk (lookOf b),iI 0] (fG 110 [rR (lk (lookOf b)),rR (iI 0)]) true true (.wait 1 (.drop ⟨[uU,uU,uU,uU,.nil,uU,.nil,uU,uU,.nil,.nil,uU,uU,uU,uU,uU,uU,uU,uU,uU,uU,uU,uU,uU,uU,uU,uU,uU,uU,uU,uU,uU,uU,uU,uU,uU,.nil,uU,uU,uU,uU,uU,uU,uU,uU,uU,uU,uU,uU,uU,uU,uU,uU,uU,uU,uU,uU,uU,uU,uU,uU,uU,uU,uU,uU,uU,uU,uU,uU,uU,uU,uU,uU,uU,uU,uU,uU],[.void,.void,.void,.void,.void,.void,.void,.void],[]⟩ (.over (rangeOf Tryz.f34) ⟨c1,[.cells (cC b),.cells [iI head],.gone,.cells [iI 0,iI 0],.gone,.gone,.gone,.cells [.bool false]],[]⟩ .normal ⟨c1,[.cells (cC b),.cells [iI head],.gone,.cells [iI (c2.1),iI (c2.2.1)],.gone,.gone,.gone,.cells [.bool (c2.2.2)],.obj (.deferred (some []))],[8]⟩ true (.br (!(c2.2.2)) (.out (.r1 0 0 4)) (.out (.r1 (c2.1) (c2.2.1) 0))))))))))))))))))))))))))
noncomputable def g34y(b:Book)(head:Int)(as_:ByteArray):P34y→List Item × St
 |.e=>bd Tryz.f34 [.agg (cC b),iI head,.str as_] 74
noncomputable def n34y(b:Book)(head:Int)(as_:ByteArray):R34y→Exit × St
 |.r0 r0_0 r0_1 r1=>(.ret,⟨mk 77 [(6,.ref 3 0 0),(7,iI r1)],[.gone,.gone,.gone,.cells [iI r0_0,iI r0_1]],[]⟩)
 |.r1 r0_0 r0_1 r1=>(.ret,⟨mk 77 [(6,.ref 3 0 0),(7,iI r1)],[.gone,.gone,.gone,.cells [iI r0_0,iI r0_1],.gone,.gone,.gone,.gone,.obj (.deferred (some []))],[8]⟩)
noncomputable def v34y(b:Book)(head:Int)(as_:ByteArray):R34y→V
 |.r0 r0_0 r0_1 r1=>.tuple [.agg [iI r0_0,iI r0_1],iI r1]
 |.r1 r0_0 r0_1 r1=>.tuple [.agg [iI r0_0,iI r0_1],iI r1]
theorem s34y(b:Book)(head:Int)(as_:ByteArray):Sm 0 (g34y b head as_) (T34y b head as_) (n34y b head as_)
 |.e=>⟨400,by kernel_rfl⟩
theorem q34y(b:Book)(head:Int)(as_:ByteArray):∀r,bodyQ Tryz.prog Tryz.f34 (·=v34y b head as_ r) (n34y b head as_ r).1 (n34y b head as_ r).2
 |.r0 r0_0 r0_1 r1=>bq (.tuple [.agg [iI r0_0,iI r0_1],iI r1]) (by kernel_rfl)
 |.r1 r0_0 r0_1 r1=>⟨.inr rfl,by simp[n34y],(.tuple [.agg [iI r0_0,iI r0_1],iI r1]),(.tuple [.agg [iI r0_0,iI r0_1],iI r1]),by kernel_rfl,(.imm rfl),rfl⟩
theorem w34y(b:Book)(head:Int)(as_:ByteArray){post:V→Prop}(h:WP Tryz.prog ⟨none,0⟩ (T34y b head as_) (Ends' fun r=>post (v34y b head as_ r)) .e):PC 34 [.agg (cC b),iI head,.str as_] post:=
 PCalls.wq Tryz.func34 (s34y b head as_) (q34y b head as_) h
inductive P34n
 |e
inductive R34n
 |r0 (r0_0:Int) (r0_1:Int) (r1:Int)
noncomputable def T34n(b:Book)(head:Int)(as_:ByteArray):P34n→Tr P34n R34n
 |.e=>let c1:=toldR b [head] 0;(.call 74 [.agg (cC b),iI 0,.list 1 1 (litC 1 1 [iI head])] (.tuple [.nil,iI (c1.2)]) ((decide (1≤1))&&true) true (.br (c1.2 !=(0:Int)) (.out (.r0 0 0 (c1.2))) (.wait 1 .never)))
noncomputable def g34n(b:Book)(head:Int)(as_:ByteArray):P34n→List Item × St
 |.e=>bd Tryz.f34 [.agg (cC b),iI head,.str as_] 74
noncomputable def n34n(b:Book)(head:Int)(as_:ByteArray):R34n→Exit × St
 |.r0 r0_0 r0_1 r1=>(.ret,⟨mk 77 [(6,.ref 3 0 0),(7,iI r1)],[.gone,.gone,.gone,.cells [iI r0_0,iI r0_1]],[]⟩)
noncomputable def v34n(b:Book)(head:Int)(as_:ByteArray):R34n→V
 |.r0 r0_0 r0_1 r1=>.tuple [.agg [iI r0_0,iI r0_1],iI r1]
theorem s34n(b:Book)(head:Int)(as_:ByteArray):Sm 0 (g34n b head as_) (T34n b head as_) (n34n b head as_)
 |.e=>⟨400,by kernel_rfl⟩
theorem q34n(b:Book)(head:Int)(as_:ByteArray):∀r,bodyQ Tryz.prog Tryz.f34 (·=v34n b head as_ r) (n34n b head as_ r).1 (n34n b head as_ r).2
 |.r0 r0_0 r0_1 r1=>bq (.tuple [.agg [iI r0_0,iI r0_1],iI r1]) (by kernel_rfl)
theorem w34n(b:Book)(head:Int)(as_:ByteArray){post:V→Prop}(h:WP Tryz.prog ⟨none,0⟩ (T34n b head as_) (Ends' fun r=>post (v34n b head as_ r)) .e):PC 34 [.agg (cC b),iI head,.str as_] post:=
 PCalls.wq Tryz.func34 (s34n b head as_) (q34n b head as_) h
end
noncomputable section
theorem natF_same{σ:Type}{f g:Nat→σ→σ}{s:σ}:∀n,(∀i,i<n→∀z,f i z=g i z)→natF f s n=natF g s n
 |0,_=>rfl
 |n+1,h=>by
  show f n (natF f s n)=g n (natF g s n)
  rw[natF_same n (fun i hi=>h i (by omega)),h n (by omega)]
theorem hasN_iff{l:List Int}{n:Int}:hasN l n=true↔n∈l:=by
 unfold hasN;rw[List.any_eq_true]
 exact⟨fun⟨x,hx,e⟩=>by rw[beq_iff_eq]at e;exact e▸hx,fun h=>⟨n,h,by simp⟩⟩
theorem line_same{b:Book}{d:Int}(h:(d+1)∉marksR b):lineN b (d+1)=lineN b d:=by
 unfold lineN
 refine natF_same _ fun i hi z=> ?_
 have hne:(b.lines.getD i zLine).day≠d+1:=fun e=>h (by
  unfold marksR
  refine List.mem_append_left _ (List.mem_cons_of_mem _ (List.mem_map.2 ⟨_,getD_mem zLine _ i hi,e⟩)))
 by_cases q:(b.lines.getD i zLine).day≤d
 ·rw[if_pos q,if_pos (by omega)]
 ·rw[if_neg q,if_neg (by omega)]
theorem named_same{b:Book}{d:Int}(h:(d+1)∉marksR b){k:Nat}(hk:k<b.bodies.length):namedR (b.bodies.getD k zBody) (d+1)=namedR (b.bodies.getD k zBody) d:=by
 unfold namedR
 refine natF_same _ fun i hi z=> ?_
 have hne:((b.bodies.getD k zBody).shown.getD i zShown).day≠d+1:=fun e=>h (by
  unfold marksR
  exact List.mem_append_right _ (List.mem_flatMap.2 ⟨_,getD_mem zBody _ k hk,List.mem_map.2 ⟨_,getD_mem zShown _ i hi,e⟩⟩))
 by_cases q:((b.bodies.getD k zBody).shown.getD i zShown).day≤d
 ·rw[if_pos q,if_pos (by omega)]
 ·rw[if_neg q,if_neg (by omega)]
theorem seen_same{b:Book}(h:OkBook b){t:Truth}(ht:t∈truthsR b []){head:Int}(hh:0≤head∧head<b.bodies.length){d:Int}(hm:(d+1)∉marksR b):seenR b t head (d+1)=seenR b t head d:=by
 have hln:=lineN_in b d
 have hperm:(atR b t d).Perm (firstH b):=have_in h ht (by omega)
 obtain⟨p1,p2,p3,p4⟩:=perm_get hperm
 have hin:head∈atR b t d:=hperm.mem_iff.2 (by
  unfold firstH
  rw[List.mem_map];exact⟨head.toNat,List.mem_range.2 (by omega),by omega⟩)
 obtain⟨b1,b2,b3⟩:=bodyOf_in hin
 have e:atR b t (d+1)=atR b t d:=by unfold atR;rw[line_same hm]
 unfold seenR
 rw[e,named_same hm (by omega)]
theorem anyS_same{b:Book}(h:OkBook b){head:Int}(hh:0≤head∧head<b.bodies.length){s:ByteArray}{d:Int}(hm:(d+1)∉marksR b):anyS b (truthsR b []) head s (d+1)=anyS b (truthsR b []) head s d:=by
 unfold anyS
 rw[Bool.eq_iff_iff,List.any_eq_true,List.any_eq_true]
 constructor
 ·rintro⟨t,ht,e⟩;exact⟨t,ht,by rw[←seen_same h ht hh hm];exact e⟩
 ·rintro⟨t,ht,e⟩;exact⟨t,ht,by rw[seen_same h ht hh hm];exact e⟩
theorem mem_days{b:Book}{d:Int}(h0:0≤d∧d≤364)(h:d∈marksR b∨(d+1)∈marksR b∨d=364):d∈daysR b:=by
 unfold daysR
 rw[List.mem_map]
 refine⟨d.toNat,List.mem_filter.2 ⟨List.mem_range.2 (by omega),?_⟩,by omega⟩
 rw[Int.toNat_of_nonneg h0.1]
 simp only[Bool.or_eq_true,hasN_iff,beq_iff_eq]
 exact h
theorem span_fold{b:Book}{L:List Truth}{head:Int}{s:ByteArray}:∀(D P:List Int) (z:Span),(P++D).Pairwise (·<·)→(∀d∈P++D,0≤d)→
  ((z.lo<0∧∀d∈P,anyS b L head s d=false)∨(0≤z.lo∧z.lo∈P∧anyS b L head s z.lo=true∧z.hi∈P∧anyS b L head s z.hi=true∧∀d∈P,anyS b L head s d=true→z.lo≤d∧d≤z.hi))→
  ((D.foldl (spanG b L head s) z).lo<0∧∀d∈P++D,anyS b L head s d=false)∨(0≤(D.foldl (spanG b L head s) z).lo∧(D.foldl (spanG b L head s) z).lo∈P++D∧anyS b L head s (D.foldl (spanG b L head s) z).lo=true∧(D.foldl (spanG b L head s) z).hi∈P++D∧anyS b L head s (D.foldl (spanG b L head s) z).hi=true∧∀d∈P++D,anyS b L head s d=true→(D.foldl (spanG b L head s) z).lo≤d∧d≤(D.foldl (spanG b L head s) z).hi)
 |[],P,z,_,_,hi=>by rw[List.append_nil];exact hi
 |x::D,P,z,hp,h0,hi=>by
  have e:P++x::D=(P++ [x])++D:=by simp
  rw[e]at hp h0⊢
  have hx0:0≤x:=h0 x (by simp)
  have hlt:∀d∈P,d<x:=fun d hd=>by
   have:=(List.pairwise_append.1 (List.pairwise_append.1 hp).1).2.2
   exact this d hd x (by simp)
  rw[List.foldl_cons]
  refine span_fold D (P++ [x]) _ hp h0 ?_
  unfold spanG
  by_cases hs:anyS b L head s x=true
  ·rw[if_pos hs]
   right
   unfold meetS
   rcases hi with⟨z1,z2⟩|⟨z1,z2,z3,z4,z5,z6⟩
   ·rw[if_pos z1]
    refine⟨hx0,by simp,hs,by simp,hs,fun d hd hd2=> ?_⟩
    rcases List.mem_append.1 hd with q|q
    ·rw[z2 d q]at hd2;cases hd2
    ·rw[List.mem_singleton.1 q];exact⟨Int.le_refl _,Int.le_refl _⟩
   ·rw[if_neg (by omega)]
    refine⟨z1,List.mem_append_left _ z2,z3,by simp,hs,fun d hd hd2=> ?_⟩
    rcases List.mem_append.1 hd with q|q
    ·have:=z6 d q hd2
     have:=hlt d q
     simp only;omega
    ·rw[List.mem_singleton.1 q]
     have:=hlt _ z2
     simp only;omega
  ·rw[if_neg hs]
   have hs':anyS b L head s x=false:=by simpa using hs
   rcases hi with⟨z1,z2⟩|⟨z1,z2,z3,z4,z5,z6⟩
   ·left
    refine⟨z1,fun d hd=> ?_⟩
    rcases List.mem_append.1 hd with q|q
    ·exact z2 d q
    ·rw[List.mem_singleton.1 q];exact hs'
   ·right
    refine⟨z1,List.mem_append_left _ z2,z3,List.mem_append_left _ z4,z5,fun d hd hd2=> ?_⟩
    rcases List.mem_append.1 hd with q|q
    ·exact z6 d q hd2
    ·rw[List.mem_singleton.1 q,hs']at hd2;cases hd2
def stepY(s:BS)(x:Stretch):BS:=if s.2.2=true then(min s.1 x.span.lo,max s.2.1 x.span.hi,true)else(x.span.lo,x.span.hi,true)
def hitsX(hd:Int)(K:List Stretch)(l:List Truth):List Stretch:=l.flatMap fun t=>K.filter fun x=>hitX hd (t.haves.map fnH) x
theorem runX_filter(hd:Int)(H:List (Nat→Int)):∀(K:List Stretch) (s:BS),runX hd H K s=(K.filter fun x=>hitX hd H x).foldl stepY s
 |[],_=>rfl
 |x::K,s=>by
  unfold runX
  rw[List.foldl_cons,List.filter_cons]
  have ih:=runX_filter hd H K (stepX hd H s x)
  unfold runX at ih
  rw[ih]
  by_cases h:hitX hd H x=true
  ·rw[if_pos h,List.foldl_cons]
   congr 1
   unfold stepX stepY;rw[if_pos h]
  ·rw[if_neg h]
   congr 1
   unfold stepX;rw[if_neg h]
theorem manyX_hits(hd:Int)(K:List Stretch)(l:List Truth):manyX hd K l=(hitsX hd K l).foldl stepY (0,0,false):=by
 have:∀(l:List Truth) (s:BS),l.foldl (fun s t=>runX hd (t.haves.map fnH) K s) s=(hitsX hd K l).foldl stepY s:=by
  intro l
  induction l with
  |nil=>intro s;rfl
  |cons t l ih=>
   intro s
   rw[List.foldl_cons,ih,runX_filter]
   unfold hitsX
   rw[List.flatMap_cons,List.foldl_append]
 exact this l _
theorem foldY:∀(Q:List Stretch) (s:BS),s.2.2=true→(Q.foldl stepY s).2.2=true∧((Q.foldl stepY s).1=s.1∨∃x∈Q,(Q.foldl stepY s).1=x.span.lo)∧((Q.foldl stepY s).2.1=s.2.1∨∃x∈Q,(Q.foldl stepY s).2.1=x.span.hi)∧(Q.foldl stepY s).1≤s.1∧s.2.1≤(Q.foldl stepY s).2.1∧∀x∈Q,(Q.foldl stepY s).1≤x.span.lo∧x.span.hi≤(Q.foldl stepY s).2.1
 |[],s,h=>⟨h,.inl rfl,.inl rfl,Int.le_refl _,Int.le_refl _,fun x hx=>absurd hx List.not_mem_nil⟩
 |y::Q,s,h=>by
  rw[List.foldl_cons]
  have e:stepY s y=(min s.1 y.span.lo,max s.2.1 y.span.hi,true):=by unfold stepY;rw[if_pos h]
  obtain⟨a1,a2,a3,a4,a5,a6⟩:=foldY Q (stepY s y) (by rw[e])
  generalize Q.foldl stepY (stepY s y)=r at*
  rw[e]at a2 a3 a4 a5
  simp only at a2 a3 a4 a5
  refine⟨a1,?_,?_,by omega,by omega,fun x hx=> ?_⟩
  ·rcases a2 with q|⟨x,hx,q⟩
   ·by_cases c:s.1≤y.span.lo
    ·left;omega
    ·right;exact⟨y,by simp,by omega⟩
   ·exact .inr ⟨x,List.mem_cons_of_mem _ hx,q⟩
  ·rcases a3 with q|⟨x,hx,q⟩
   ·by_cases c:y.span.hi≤s.2.1
    ·left;omega
    ·right;exact⟨y,by simp,by omega⟩
   ·exact .inr ⟨x,List.mem_cons_of_mem _ hx,q⟩
  ·rcases List.mem_cons.1 hx with rfl|q
   ·omega
   ·exact a6 x q
theorem hits_span{Q:List Stretch}(h:Q≠ []):(Q.foldl stepY (0,0,false)).2.2=true∧(∃x∈Q,(Q.foldl stepY (0,0,false)).1=x.span.lo)∧(∃x∈Q,(Q.foldl stepY (0,0,false)).2.1=x.span.hi)∧∀x∈Q,(Q.foldl stepY (0,0,false)).1≤x.span.lo∧x.span.hi≤(Q.foldl stepY (0,0,false)).2.1:=by
 cases Q with
 |nil=>exact absurd rfl h
 |cons y Q=>
  rw[List.foldl_cons]
  have e:stepY (0,0,false) y=(y.span.lo,y.span.hi,true):=rfl
  rw[e]
  obtain⟨a1,a2,a3,a4,a5,a6⟩:=foldY Q (y.span.lo,y.span.hi,true) rfl
  generalize Q.foldl stepY (y.span.lo,y.span.hi,true)=r at*
  simp only at a2 a3 a4 a5
  refine⟨a1,?_,?_,fun x hx=> ?_⟩
  ·rcases a2 with q|⟨x,hx,q⟩
   ·exact⟨y,by simp,q⟩
   ·exact⟨x,List.mem_cons_of_mem _ hx,q⟩
  ·rcases a3 with q|⟨x,hx,q⟩
   ·exact⟨y,by simp,q⟩
   ·exact⟨x,List.mem_cons_of_mem _ hx,q⟩
  ·rcases List.mem_cons.1 hx with rfl|q
   ·exact⟨a4,a5⟩
   ·exact a6 x q
theorem mem_kept{b:Book}{s:ByteArray}{x:Stretch}:x∈keptB b s↔x∈stretchesR b∧x.as_=s:=by
 unfold keptB
 rw[List.mem_filter]
 unfold delS
 simp only[Bool.not_not,beq_iff_eq]
 exact⟨fun⟨a,c⟩=>⟨a,ba_inj c⟩,fun⟨a,c⟩=>⟨a,by rw[c]⟩⟩
theorem stretch_good{b:Book}{x:Stretch}(hx:x∈stretchesR b):GoodS b 365 x:=(inv_strD b 365).good x hx
theorem hit_iff{b:Book}(h:OkBook b){t:Truth}(ht:t∈truthsR b []){hd:Int}{x:Stretch}(hx:x∈stretchesR b)(hl:0≤x.line∧x.line≤b.lines.length):hitX hd (t.haves.map fnH) x=true↔(t.haves.getD x.line.toNat []).getD x.body.toNat 0=hd:=by
 obtain⟨j,hj,hjb⟩:=(stretch_good hx).body
 have hnb:=h.nb
 unfold hitX
 rw[beq_iff_eq,have_fn h ht (k:=x.line.toNat) (by omega)]
 obtain⟨p1,p2,p3,p4⟩:=perm_get (have_in h ht (k:=x.line.toNat) (by omega))
 rw[fnH_get (by omega) (by omega)]
theorem stretch_line{b:Book}{x:Stretch}(hx:x∈stretchesR b):0≤x.line∧x.line≤b.lines.length:=by
 have g:=stretch_good hx
 have:=(g.all x.span.lo (Int.le_refl _) g.le).1
 rw[←this];exact lineN_in b _
theorem stretch_hi{b:Book}{x:Stretch}(hx:x∈stretchesR b):x.span.hi≤364:=
 ((inv_strB (inv_strD b 364) b.bodies.length (Nat.le_refl _)).good x hx).hi
theorem anyS_hits{b:Book}(h:OkBook b){hd:Int}(hh:0≤hd∧hd<b.bodies.length){s:ByteArray}(hs:s≠ByteArray.empty){d:Int}(h0:0≤d∧d≤364):anyS b (truthsR b []) hd s d=true↔∃x∈hitsX hd (keptB b s) (truthsR b []),x.span.lo≤d∧d≤x.span.hi:=by
 unfold anyS hitsX
 rw[List.any_eq_true]
 constructor
 ·rintro⟨t,ht,e⟩
  have e':seenR b t hd d=s:=by unfold same at e;rw[beq_iff_eq]at e;exact ba_inj e
  obtain⟨x,hx,h1,h2,h3,h4⟩:=(stretch_seen h ht hh h0 hs).1 e'
  exact⟨x,List.mem_flatMap.2 ⟨t,ht,List.mem_filter.2 ⟨mem_kept.2 ⟨hx,h1⟩,(hit_iff h ht hx (stretch_line hx)).2 h2⟩⟩,h3,h4⟩
 ·rintro⟨x,hx,h3,h4⟩
  obtain⟨t,ht,hx2⟩:=List.mem_flatMap.1 hx
  obtain⟨hx3,hx4⟩:=List.mem_filter.1 hx2
  obtain⟨hx5,hx6⟩:=mem_kept.1 hx3
  have:=(stretch_seen h ht hh h0 hs).2 ⟨x,hx5,hx6,(hit_iff h ht hx5 (stretch_line hx5)).1 hx4,h3,h4⟩
  exact⟨t,ht,by unfold same;rw[this];simp⟩
theorem days_up(b:Book):(daysR b).Pairwise (·<·):=by
 unfold daysR
 rw[List.pairwise_map]
 exact(List.pairwise_lt_range.filter _).imp fun h=>by omega
theorem between_law{b:Book}(h:OkBook b){hd:Int}(hh:0≤hd∧hd<b.bodies.length){s:ByteArray}(hs:s≠ByteArray.empty):
  ((manyX hd (keptB b s) (truthsR b [])).2.2=false∧(spanOf b (truthsR b []) hd s).lo<0)∨
  ((manyX hd (keptB b s) (truthsR b [])).2.2=true∧¬(spanOf b (truthsR b []) hd s).lo<0∧spanOf b (truthsR b []) hd s=⟨(manyX hd (keptB b s) (truthsR b [])).1,(manyX hd (keptB b s) (truthsR b [])).2.1⟩):=by
 have hA:=fun {d:Int} h0=>anyS_hits h hh hs (d:=d) h0
 have hf:=span_fold (b:=b) (L:=truthsR b []) (head:=hd) (s:=s) (daysR b) [] ⟨-1,0⟩ (days_up b) (fun d hd=>(days_in hd).1) (.inl ⟨by simp,fun d hd=>absurd hd List.not_mem_nil⟩)
 rw[List.nil_append]at hf
 change ((spanOf b (truthsR b []) hd s).lo<0∧_)∨(0≤(spanOf b (truthsR b []) hd s).lo∧(spanOf b (truthsR b []) hd s).lo∈daysR b∧anyS b (truthsR b []) hd s (spanOf b (truthsR b []) hd s).lo=true∧(spanOf b (truthsR b []) hd s).hi∈daysR b∧anyS b (truthsR b []) hd s (spanOf b (truthsR b []) hd s).hi=true∧∀d∈daysR b,anyS b (truthsR b []) hd s d=true→(spanOf b (truthsR b []) hd s).lo≤d∧d≤(spanOf b (truthsR b []) hd s).hi)at hf
 have hin:∀x∈hitsX hd (keptB b s) (truthsR b []),0≤x.span.lo∧x.span.lo≤x.span.hi∧x.span.hi≤364:=fun x hx=>by
  obtain⟨t,ht,hx2⟩:=List.mem_flatMap.1 hx
  have hx5:=(mem_kept.1 (List.mem_filter.1 hx2).1).1
  exact⟨(stretch_good hx5).lo,(stretch_good hx5).le,stretch_hi hx5⟩
 rw[manyX_hits]
 by_cases hQ:hitsX hd (keptB b s) (truthsR b [])=[]
 ·left
  rw[hQ]
  refine⟨rfl,?_⟩
  rcases hf with⟨q,-⟩|⟨q1,q2,q3,-⟩
  ·exact q
  ·obtain⟨x,hx,-⟩:=(hA (days_in q2)).1 q3
   rw[hQ]at hx;exact absurd hx List.not_mem_nil
 ·right
  obtain⟨a1,⟨x,hx,a2⟩,⟨y,hy,a3⟩,a4⟩:=hits_span hQ
  generalize hr:(hitsX hd (keptB b s) (truthsR b [])).foldl stepY (0,0,false)=r at*
  obtain⟨x1,x2,x3⟩:=hin x hx
  obtain⟨y1,y2,y3⟩:=hin y hy
  have hlo:anyS b (truthsR b []) hd s r.1=true:=(hA ⟨by omega,by omega⟩).2 ⟨x,hx,by omega,by omega⟩
  have hhi:anyS b (truthsR b []) hd s r.2.1=true:=(hA ⟨by omega,by omega⟩).2 ⟨y,hy,by omega,by omega⟩
  have hall:∀d,0≤d∧d≤364→anyS b (truthsR b []) hd s d=true→r.1≤d∧d≤r.2.1:=fun d h0 e=>by
   obtain⟨z,hz,z1,z2⟩:=(hA h0).1 e
   have:=a4 z hz
   omega
  have dlo:r.1∈daysR b:=by
   refine mem_days ⟨by omega,by omega⟩ (.inl ?_)
   by_cases hm:r.1∈marksR b
   ·exact hm
   ·exfalso
    have h00:r.1≠0:=fun e=>hm (by rw[e];unfold marksR;simp)
    have e1:r.1-1+1=r.1:=by omega
    have:=anyS_same h hh (s:=s) (d:=r.1-1) (by rw[e1];exact hm)
    rw[e1,hlo]at this
    have:=hall (r.1-1) ⟨by omega,by omega⟩ this.symm
    omega
  have dhi:r.2.1∈daysR b:=by
   refine mem_days ⟨by omega,by omega⟩ (.inr ?_)
   by_cases h364:r.2.1=364
   ·exact .inr h364
   ·left
    by_cases hm:r.2.1+1∈marksR b
    ·exact hm
    ·exfalso
     have:=anyS_same h hh (s:=s) (d:=r.2.1) hm
     rw[hhi]at this
     have:=hall (r.2.1+1) ⟨by omega,by omega⟩ this
     omega
  rcases hf with⟨-,q⟩|⟨q1,q2,q3,q4,q5,q6⟩
  ·rw[q _ dlo]at hlo;cases hlo
  ·have h1:=q6 _ dlo hlo
   have h2:=q6 _ dhi hhi
   have h3:=hall _ (days_in q2) q3
   have h4:=hall _ (days_in q4) q5
   refine⟨a1,by omega,?_⟩
   generalize spanOf b (truthsR b []) hd s=z at*
   obtain⟨zl,zh⟩:=z
   simp only at h1 h2 h3 h4
   rw[show zl=r.1 by omega,show zh=r.2.1 by omega]
end
end Go.Proofs.YtemgodefhcbleaaGreat
