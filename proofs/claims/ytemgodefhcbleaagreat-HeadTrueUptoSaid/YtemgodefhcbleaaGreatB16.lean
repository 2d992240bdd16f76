/-
  Part of the proof of the Head laws. Conditions: those that stand in each theorem.
-/
import Derived.Test.YtemgodefhcbleaaGreatRows
import Derived.ChangeArms
import Derived.ChangeSame
import Derived.WideKeyArgs
import Derived.WalkKit
import Derived.ProofKit
import Derived.OpenShut
import Derived.JoinedCond
import Derived.Test.YtemgodefhcbleaaGreatB15
set_option linter.unusedSimpArgs false
set_option linter.unusedVariables false
set_option maxRecDepth 100000
namespace Go.Proofs.YtemgodefhcbleaaGreat
open Ab Go
noncomputable section
theorem nodup_len{α:Type}[DecidableEq α]:∀ {l r:List α},l.Nodup->(∀x∈l,x∈r)->l.length<=r.length
 |[],_,_,_=>Nat.zero_le _
 |a::l,r,hn,hs=>by
  have ha:=hs a (List.mem_cons_self ..);have h1:=List.nodup_cons.1 hn;have:=nodup_len (l:=l) (r:=r.erase a) h1.2 fun x hx=>(List.mem_erase_of_ne (fun(e:x=a)=>h1.1 (e▸hx))).2 (hs x (List.mem_cons_of_mem _ hx));rw[List.length_erase_of_mem ha]at this;have:=List.length_pos_of_mem ha;rw[List.length_cons];omega
theorem left_memE{n:Nat}{seen:Array Nat}{j:Nat}(h:j<(leftM n seen).length):(leftM n seen).getD j 0<n/\(leftM n seen).getD j 0∉seen.toList:=by
 have:(leftM n seen).getD j 0∈leftM n seen:=by rw[gE,List.getElem?_eq_getElem h];exact List.getElem_mem h
 have:=List.mem_filter.1 this;refine⟨List.mem_range.1 this.1,fun hm=> ?_⟩;have h2:=this.2;rw[Array.contains_iff_mem.2 (Array.mem_toList_iff.1 hm)]at h2;cases h2
def kvE(M:MS)(i:Nat):ByteArray × Int:=M.getD i (ByteArray.empty,0)
structure WalkE(M:MS)(n:Int)(p:List ByteArray × List ByteArray × Array Nat):Prop where
 nd:p.2.2.toList.Nodup
 lt:∀i∈p.2.2.toList,i<M.length
 may:p.1=((p.2.2.toList.map (kvE M)).map (·.1)).reverse
 sure:p.2.1=(((p.2.2.toList.map (kvE M)).filter fun e=>e.2==n).map (·.1)).reverse
theorem WalkE.nil(M:MS)(n:Int):WalkE M n ([],[], #[]):=⟨List.nodup_nil,fun _ h=>absurd h List.not_mem_nil,rfl,rfl⟩
theorem WalkE.push{M:MS}{n:Int}{may sure:List ByteArray}{seen:Array Nat}(h:WalkE M n (may,sure,seen)){j:Nat}(hj:j<(leftM M.length seen).length):
  WalkE M n ((kvE M ((leftM M.length seen).getD j 0)).1::may,(if((kvE M ((leftM M.length seen).getD j 0)).2==n)=true then(kvE M ((leftM M.length seen).getD j 0)).1::sure else sure),seen.push ((leftM M.length seen).getD j 0)):=by
 obtain⟨h1,h2,h3,h4⟩:=h;obtain⟨g1,g2⟩:=left_memE hj;simp only at h1 h2 h3 h4;generalize(leftM M.length seen).getD j 0=i at*
 refine⟨?_,?_,?_,?_⟩
 ·simp only[Array.toList_push];rw[List.nodup_append];exact⟨h1,by simp,fun a ha b hb=>by rw[List.mem_singleton]at hb;subst hb;exact fun e=>g2 (e▸ha)⟩
 ·simp only[Array.toList_push,List.mem_append,List.mem_singleton];rintro i (hi|rfl)
  ·exact h2 i hi
  ·exact g1
 ·simp[h3]
 ·simp only[Array.toList_push,List.map_append,List.filter_append,List.reverse_append,h4,List.map_cons,List.map_nil,List.filter_cons,List.filter_nil];split<;>simp
theorem WalkE.size{M:MS}{n:Int}{p:List ByteArray × List ByteArray × Array Nat}(h:WalkE M n p):p.2.2.size<=M.length/\p.1.length=p.2.2.size/\p.2.1.length<=p.2.2.size:=by
 have h1:=nodup_len (r:=List.range M.length) h.nd fun x hx=>List.mem_range.2 (h.lt x hx);rw[List.length_range,Array.length_toList]at h1;refine⟨h1,?_,?_⟩
 ·rw[h.may];simp
 ·rw[h.sure,List.length_reverse,List.length_map];refine Nat.le_trans (List.length_filter_le _ _) ?_;rw[List.length_map,Array.length_toList];exact Nat.le_refl _
theorem WalkE.less{M:MS}{n:Int}{may sure:List ByteArray}{seen:Array Nat}(h:WalkE M n (may,sure,seen)){j:Nat}(hj:j<(leftM M.length seen).length):M.length-(seen.push ((leftM M.length seen).getD j 0)).size<M.length-seen.size:=by
 have:=(h.push hj).size.1;simp only[Array.size_push]at this⊢;omega
theorem WalkE.done{M:MS}{n:Int}{p:List ByteArray × List ByteArray × Array Nat}(h:WalkE M n p)(h0:leftM M.length p.2.2=[]):p.1.reverse.Perm (M.map (·.1))/\p.2.1.reverse.Perm ((M.filter fun e=>e.2==n).map (·.1)):=by
 have hp:p.2.2.toList.Perm (List.range M.length):=(List.perm_ext_iff_of_nodup h.nd List.nodup_range).2 fun i=>by
  constructor
  ·exact fun hi=>List.mem_range.2 (h.lt i hi)
  ·intro hi;have:=List.filter_eq_nil_iff.1 h0 i hi;rw[Bool.not_eq_true',Bool.not_eq_false,Array.contains_iff_mem]at this;exact Array.mem_toList_iff.2 this
 have hm:(List.range M.length).map (kvE M)=M:=by
  apply List.ext_getElem
  ·simp
  ·intro i h1 h2;simp[kvE,gE,h2]
 have hq:=hp.map (kvE M);rw[hm]at hq;refine⟨?_,?_⟩
 ·rw[h.may,List.reverse_reverse];exact hq.map _
 ·rw[h.sure,List.reverse_reverse];exact(hq.filter _).map _
theorem shown_person{b:Book}{t:Truth}{hd:Int}{s:ByteArray}(hs:s≠ByteArray.empty){D:List Int}(h:shownR b t hd s D=true):s∈personsR b:=by
 unfold shownR at h;obtain⟨d,_,e⟩:=List.any_eq_true.1 h;rw[same_iff]at e;unfold personsR;rw[mem_sortU];unfold allNames;rw[List.mem_flatMap];unfold seenR at e;by_cases hk:(bodyOf (atR b t d) hd).toNat<b.bodies.length
 ·refine⟨_,getD_mem zBody _ _ hk,?_⟩;rcases named_mem (b.bodies.getD (bodyOf (atR b t d) hd).toNat zBody) d with q|q
  ·exact absurd (e.symm.trans q) hs
  ·rw[e]at q;exact q
 ·rcases named_mem (b.bodies.getD (bodyOf (atR b t d) hd).toNat zBody) d with q|q
  ·exact absurd (e.symm.trans q) hs
  ·rw[gE,List.getElem?_eq_none (by omega)]at q;exact absurd q List.not_mem_nil
theorem ever_keys{b:Book}(h:OkBook b){hd:Int}(hh:0<=hd/\hd<b.bodies.length){s:ByteArray}:s∈(everX hd (stretchesR b) (truthsR b [])).map (·.1)↔s∈(personsR b).filter fun s=>decide (0<manyS b (truthsR b []) hd s):=by
 rw[key_pos (good_ever hd (stretchesR b) (truthsR b [])),List.mem_filter,decide_eq_true_eq];by_cases hs:s=ByteArray.empty
 ·subst hs;rw[ever_empty];constructor
  ·intro q;omega
  ·intro q;exact absurd rfl (allNames_ne h _ (mem_sortU.1 q.1))
 ·rw[ever_many h hh hs];constructor
  ·intro q;refine⟨?_,by omega⟩;have:0<manyS b (truthsR b []) hd s:=by omega
   unfold manyS at this;obtain⟨t,ht⟩:=List.exists_mem_of_length_pos this;exact shown_person hs (List.mem_filter.1 ht).2
  ·intro q;omega
theorem ever_sure{b:Book}(h:OkBook b){hd:Int}(hh:0<=hd/\hd<b.bodies.length)(hne:0<(truthsR b []).length){s:ByteArray}:s∈((everX hd (stretchesR b) (truthsR b [])).filter fun e=>e.2==((truthsR b []).length:Int)).map (·.1)↔s∈(personsR b).filter fun s=>manyS b (truthsR b []) hd s==(truthsR b []).length:=by
 have hg:=good_ever hd (stretchesR b) (truthsR b []);have hk:=ever_keys h hh (s:=s);rw[List.mem_filter,beq_iff_eq];rw[List.mem_filter,decide_eq_true_eq]at hk;constructor
 ·intro q;obtain⟨p,hp,rfl⟩:=List.mem_map.1 q;obtain⟨hp1,hp2⟩:=List.mem_filter.1 hp;rw[beq_iff_eq]at hp2;have hkm:=hk.1 (List.mem_map.2 ⟨p,hp1,rfl⟩);refine⟨hkm.1,?_⟩;have e:=cnt_mem hg.nd p hp1;have hs:p.1≠ByteArray.empty:=allNames_ne h _ (mem_sortU.1 hkm.1);rw[ever_many h hh hs]at e;omega
 ·rintro⟨q1,q2⟩
  have hs:s≠ByteArray.empty:=allNames_ne h _ (mem_sortU.1 q1);obtain⟨p,hp,rfl⟩:=List.mem_map.1 (hk.2 ⟨q1,by omega⟩);refine List.mem_map.2 ⟨p,List.mem_filter.2 ⟨hp,?_⟩,rfl⟩;have e:=cnt_mem hg.nd p hp;rw[ever_many h hh hs]at e;rw[beq_iff_eq];omega
theorem sortT_filt{b:Book}{p:ByteArray->Bool}{l m:List ByteArray}(hl:l.Perm m)(hn:m.Nodup)(hm:∀s,s∈m↔s∈(personsR b).filter p):sortT l=(personsR b).filter p:=by
 rw[sort_same (hl.nodup_iff.2 hn)];refine up_ext (sortU_up _) ((sortU_up _).filter _) fun s=> ?_;rw[mem_sortU,hl.mem_iff];exact hm s
theorem WalkE.len{b:Book}(h:OkBook b){hd:Int}(hh:0<=hd/\hd<b.bodies.length){n:Int}{p:List ByteArray × List ByteArray × Array Nat}(hw:WalkE (everX hd (stretchesR b) (truthsR b [])) n p):p.1.length<=15/\p.2.1.length<=15:=by
 obtain⟨h1,h2,h3⟩:=hw.size;have hg:=(good_ever hd (stretchesR b) (truthsR b [])).nd;have h4:=nodup_len hg fun x hx=>(List.mem_filter.1 ((ever_keys h hh).1 hx)).1;rw[List.length_map]at h4;have h5:=persons_len h;omega
theorem WalkE.end_{b:Book}(h:OkBook b){hd:Int}(hh:0<=hd/\hd<b.bodies.length)(hne:0<(truthsR b []).length){p:List ByteArray × List ByteArray × Array Nat}(hw:WalkE (everX hd (stretchesR b) (truthsR b [])) ((truthsR b []).length:Int) p)(h0:leftM (everX hd (stretchesR b) (truthsR b [])).length p.2.2=[]):
  sortT p.1.reverse=((personsR b).filter fun s=>decide (0<manyS b (truthsR b []) hd s))/\sortT p.2.1.reverse=((personsR b).filter fun s=>manyS b (truthsR b []) hd s==(truthsR b []).length):=by
 obtain⟨d1,d2⟩:=hw.done h0;have hg:=(good_ever hd (stretchesR b) (truthsR b [])).nd;refine⟨sortT_filt d1 hg fun s=>ever_keys h hh,sortT_filt d2 ?_ fun s=>ever_sure h hh hne⟩;exact List.Sublist.nodup (List.filter_sublist.map _) hg
theorem sem_make32(h:List Blk):SemOK Tryz.prog (opAt Tryz.f32 6 0) [] h (.map h.length) (h++ [.obj (mT [])]):=by
 have e:opAt Tryz.f32 6 0=.makeMap 140 none:=by kernel_rfl
 rw[e];exact semT_make 140
theorem sem_range32(h:List Blk)(M:MS)(hq:h[8]? =some (.obj (mT M))):SemOK Tryz.prog (opAt Tryz.f32 18 1) [(.tmp 70,.map 8)] h (.ref h.length 0 0) (h++ [.iter (.map 8) M.length #[]]):=by
 have e:opAt Tryz.f32 18 1=.range 140 (.tmp 70):=by kernel_rfl
 rw[e];exact semT_range (kt:=9) (et:=3) (by kernel_rfl) hq
theorem sem_next32(h:List Blk)(M:MS)(seen:Array Nat)(hq:h[8]? =some (.obj (mT M)))(hi:h[11]? =some (.iter (.map 8) M.length seen))(h0:leftM M.length seen≠ []):
  SemAny Tryz.prog (opAt Tryz.f32 19 0) [(.tmp 71,.ref 11 0 0)] h (leftM M.length seen).length (fun j=>.tuple [.bool true,.str (M.getD ((leftM M.length seen).getD j 0) (ByteArray.empty,0)).1,iI (M.getD ((leftM M.length seen).getD j 0) (ByteArray.empty,0)).2])
   (fun j=>h.set 11 (.iter (.map 8) M.length (seen.push ((leftM M.length seen).getD j 0)))):=by
 have e:opAt Tryz.f32 19 0=.next (.tmp 71) false:=by kernel_rfl
 rw[e];exact semT_next1 hq hi h0
theorem sem_next32'(h:List Blk)(M:MS)(seen:Array Nat)(hq:h[8]? =some (.obj (mT M)))(hi:h[11]? =some (.iter (.map 8) M.length seen))(h0:leftM M.length seen=[]):
  SemOK Tryz.prog (opAt Tryz.f32 19 0) [(.tmp 71,.ref 11 0 0)] h (.tuple [.bool false]) h:=by
 have e:opAt Tryz.f32 19 0=.next (.tmp 71) false:=by kernel_rfl
 rw[e];exact semT_next0 hq hi h0
theorem sem_entry32(h:List Blk)(M:MS)(seen:Array Nat)(j:Nat)(hq:h[8]? =some (.obj (mT M)))(hi:h[11]? =some (.iter (.map 8) M.length (seen.push j)))(hj:j<M.length):
  SemOK Tryz.prog (opAt Tryz.f32 20 0) [(.tmp 71,.ref 11 0 0)] h (.tuple [.str (M.getD j (ByteArray.empty,0)).1,iI (M.getD j (ByteArray.empty,0)).2]) h:=by
 have e:opAt Tryz.f32 20 0=.entry (.tmp 71):=by kernel_rfl
 rw[e];exact semT_entry hq hi (by simp) hj
theorem VLe.sortR(a:List ByteArray):VLe (.list 1 a.length (rowsOf tstr (sortT a.reverse))) (tstr.lst (sortT a.reverse)):=by
 have:a.length=(sortT a.reverse).length:=by rw[sortT_len,List.length_reverse]
 rw[this];exact VLe.refl _
set_option maxHeartbeats 4000000 in
theorem wl32(b:Book)(head:Int)(h:OkBook b)(hh:0<=head/\head<b.bodies.length)(hne:0<(truthsR b []).length)(he:everR b head=((personsR b).filter (fun s=>manyS b (truthsR b []) head s==(truthsR b []).length),(personsR b).filter (fun s=>decide (0<manyS b (truthsR b []) head s)),0)):
  WP Tryz.prog ⟨none,0⟩ (T32y b head) (Ends' fun r=>v32y b head r=.tuple [tstr.lst (everR b head).1,tstr.lst (everR b head).2.1,iI (everR b head).2.2]) (.l1 [] [] #[]):=by
 refine WP.while (T:=T32y b head) (σ:=List ByteArray × List ByteArray × Array Nat) (fun p=>.l1 p.1 p.2.1 p.2.2) (fun p=>WalkE (everX head (stretchesR b) (truthsR b [])) ((truthsR b []).length:Int) p) (fun p=>(everX head (stretchesR b) (truthsR b [])).length-p.2.2.size) (fun p hw=> ?_) (s:=([],[], #[])) (WalkE.nil _ _);obtain⟨may,sure,seen⟩:=p;obtain⟨l1,l2⟩:=hw.len h hh;have hk:may.length+1<=4294967296:=by simp only at l1;omega
 have hk2:sure.length+1<=4294967296:=by simp only at l2;omega
 by_cases hz:leftM (everX head (stretchesR b) (truthsR b [])).length seen=[]
 ·obtain⟨e1,e2⟩:=hw.end_ h hh hne hz;simp only at e1 e2;rw[he,<-e1,<-e2];refine WP.once ?_;simp only[T32y,Tr.sure,SS,hz];repeat' with_reducible first|intro _|apply aI
  all_goals first|exact(sem_next32' _ _ _ rfl rfl hz)|exact(c82r _ 3 sure rfl)|exact(c82r _ 2 may rfl)|exact(VLe.sortR _)|(simp[Go,Ends',v32y,-List.getD_eq_getElem?_getD, *];done)
  all_goals first
   |exact .inr rfl
 ·have hp0:=fun j hj=>hw.push (j:=j) hj;refine WP.once ?_;simp only[T32y,Tr.sure,SS,hz];repeat' with_reducible first|intro _|apply aI
  all_goals first|exact(sem_next32 _ _ _ rfl rfl hz)|exact(sem_entry32 _ _ _ _ rfl rfl (left_memE (by with_reducible assumption)).1)|(simp[hk,hk2,Go,Ends',v32y,-List.getD_eq_getElem?_getD, *];done)|skip
  ·rename_i j hj _ hx _;have hp:=hp0 j hj;rw[if_pos (by rw[beq_iff_eq];exact hx)]at hp;exact .inl ⟨(_,_,_),rfl,hp,hw.less hj⟩
  ·rename_i j hj _ hx;have hp:=hp0 j hj;rw[if_neg (by rw[beq_iff_eq];exact hx)]at hp;exact .inl ⟨(_,_,_),rfl,hp,hw.less hj⟩
theorem c32(b:Book)(head:Int):PC 32 [.agg (tBook.cells b),iI head] (·=.tuple [tstr.lst (everR b head).1,tstr.lst (everR b head).2.1,iI (everR b head).2.2]):=by
 have k74:=c74 b 0 [head];have hlit:VLe (.list 1 1 (litC 1 1 [iI head])) (tint.lst [head]):=VLe.lit tint [head] rfl rfl (fun _=>rfl);by_cases h0:(toldR b [head] 0).2=0
 ·obtain⟨hok,hns,hday,hne,htl⟩:=told_ok h0;have hv:=hns head (by simp);rw[if_pos h0,h0]at k74;have he:everR b head=((personsR b).filter (fun s=>manyS b (truthsR b []) head s==(truthsR b []).length),(personsR b).filter (fun s=>decide (0<manyS b (truthsR b []) head s)),0):=by unfold everR;rw[if_neg (fun q=>q h0)]
  have k75:=c75 (lookOf b) 0;have k84:=c84x b hok;have hsl:(stretchesR b).length<=100000:=by have:=strD_len hok 365;unfold stretchesR;omega
  have hr:=range32 b hok head (stretchesR b) hsl fun x hx=>by
   obtain⟨j,hj,hjb⟩:=(stretch_good hx).body;have:=stretch_line hx;have:=hok.nb;omega
  have hmain:=wl32 b head hok hv hne he;have u1:underL 0 [tStretch.lst (stretchesR b)]=true:=rfl;refine w32y b head (WP.step ?_);simp only[T32y,Go,Ends',v32y,Tr.sure,SS];repeat' with_reducible first|intro _|apply aI
  all_goals first|exact k74|exact k75|exact(by with_reducible exact hlit)|exact(k84 _)|exact(sem_make32 _)|exact hr|exact(sem_range32 _ _ rfl)|exact hmain|exact u1|exact(VLe.refl _)|(simp[Go,Ends',v32y,-List.getD_eq_getElem?_getD, *];done)
 ·have hP:everR b head=([],[],(toldR b [head] 0).2):=by unfold everR;rw[if_pos h0]
  rw[if_neg h0]at k74;rw[hP];refine w32n b head (WP.step ?_);simp only[T32n,Go,Ends',v32n,Tr.sure,SS,h0];repeat' with_reducible first|intro _|apply aI
  all_goals first|exact(PCalls.arg (pre:=[.agg (tBook.cells b),iI 0]) k74 hlit)|(simp[h0,Go,Ends',v32n,-List.getD_eq_getElem?_getD, *];done)
end
noncomputable section
def nmKing:ByteArray:=ByteArray.mk #[107,105,110,103]
def nmBishop:ByteArray:=ByteArray.mk #[98,105,115,104,111,112]
def nmClown:ByteArray:=ByteArray.mk #[99,108,111,119,110]
def nmNun:ByteArray:=ByteArray.mk #[110,117,110]
def nmJudge:ByteArray:=ByteArray.mk #[106,117,100,103,101]
def bkBodies:List Body:=[⟨ByteArray.mk #[107],[⟨0,nmKing⟩,⟨20,nmBishop⟩]⟩,⟨ByteArray.mk #[99],[⟨0,nmClown⟩]⟩,⟨ByteArray.mk #[110],[⟨0,nmNun⟩]⟩,⟨ByteArray.mk #[106],[⟨10,nmJudge⟩]⟩]
def bkHeads:List ByteArray:=[ByteArray.mk #[97,100,97],ByteArray.mk #[98,101,110],ByteArray.mk #[99,121],ByteArray.mk #[100,111,116]]
def bkLines:List Line:=[⟨5,0,0,1,0,0,0⟩,⟨10,1,0,2,1,3,0⟩,⟨15,2,0,0,0,0,7⟩,⟨18,3,0,2,0,0,0⟩]
def bkW:List Line:=bkLines++ [⟨25,3,1,2,0,0,0⟩]
def bkB:Book:=⟨bkBodies,bkHeads,bkLines⟩
def bkM:Book:=⟨bkBodies,bkHeads,bkW⟩
theorem bk_first:firstP bkB=([⟨0,1⟩,⟨0,2⟩,⟨1,2⟩,⟨0,0⟩],0):=by kernel_rfl
theorem bk_where:whereR bkB 0 18=([2,3],0):=by kernel_rfl
theorem bk_on:onR bkB 1 18=([1,3],0):=by kernel_rfl
theorem bk_many:manyR bkB 18=(2,0):=by kernel_rfl
theorem bk_as:asR bkB 0 18=([nmJudge,nmNun],0):=by kernel_rfl
theorem bk_ever:everR bkB 0=([nmClown,nmKing],[nmClown,nmJudge,nmKing,nmNun],0):=by kernel_rfl
theorem bk_between:betweenR bkB 2 nmKing=(⟨10,19⟩,0):=by kernel_rfl
theorem bk_wrong:wrongR bkM=([3],0):=by kernel_rfl
theorem bk_zero:firstP bkM=([],8):=by kernel_rfl
theorem bk_none:betweenR bkB 3 nmBishop=(zSpan,4):=by kernel_rfl
inductive P93
 |e
inductive R93
 |r0 (r0_0:Int) (r0_1:ByteArray)
def T93(d:Int)(s:ByteArray):P93->Tr P93 R93
 |.e=>(.out (.r0 d s))
noncomputable def g93(d:Int)(s:ByteArray):P93->List Item × St
 |.e=>bd Tryz.f93 [iI d,.str s] 6
def n93:R93->Exit × St
 |.r0 r0_0 r0_1=>(.ret,⟨mk 8 [(4,.ref 0 0 0)],[.cells [iI r0_0,.str r0_1]],[]⟩)
def v93:R93->V
 |.r0 r0_0 r0_1=>.agg [iI r0_0,.str r0_1]
theorem s93(d:Int)(s:ByteArray):Sm 0 (g93 d s) (T93 d s) (n93)
 |.e=>⟨400,by kernel_rfl⟩
theorem q93:∀r,bodyQ Tryz.prog Tryz.f93 (·=v93 r) (n93 r).1 (n93 r).2
 |.r0 r0_0 r0_1=>bq (.agg [iI r0_0,.str r0_1]) (by kernel_rfl)
theorem w93(d:Int)(s:ByteArray){post:V->Prop}(h:WQ (T93 d s) v93 post .e):PC 93 [iI d,.str s] post:=
 PCalls.wq Tryz.func93 (s93 d s) q93 h
inductive P94
 |e
inductive R94
 |r0 (r0_0:Int) (r0_1:Int) (r0_2:Int) (r0_3:Int) (r0_4:Int) (r0_5:Int) (r0_6:Int)
def T94(d:Int)(x:Int)(y:Int):P94->Tr P94 R94
 |.e=>(.out (.r0 d 3 x y 0 0 0))
noncomputable def g94(d:Int)(x:Int)(y:Int):P94->List Item × St
 |.e=>bd Tryz.f94 [iI d,iI x,iI y] 8
def n94:R94->Exit × St
 |.r0 r0_0 r0_1 r0_2 r0_3 r0_4 r0_5 r0_6=>(.ret,⟨mk 11 [(6,.ref 0 0 0)],[.cells [iI r0_0,iI r0_1,iI r0_2,iI r0_3,iI r0_4,iI r0_5,iI r0_6]],[]⟩)
def v94:R94->V
 |.r0 r0_0 r0_1 r0_2 r0_3 r0_4 r0_5 r0_6=>.agg [iI r0_0,iI r0_1,iI r0_2,iI r0_3,iI r0_4,iI r0_5,iI r0_6]
theorem s94(d:Int)(x:Int)(y:Int):Sm 0 (g94 d x y) (T94 d x y) (n94)
 |.e=>⟨400,by kernel_rfl⟩
theorem q94:∀r,bodyQ Tryz.prog Tryz.f94 (·=v94 r) (n94 r).1 (n94 r).2
 |.r0 r0_0 r0_1 r0_2 r0_3 r0_4 r0_5 r0_6=>bq (.agg [iI r0_0,iI r0_1,iI r0_2,iI r0_3,iI r0_4,iI r0_5,iI r0_6]) (by kernel_rfl)
theorem w94(d:Int)(x:Int)(y:Int){post:V->Prop}(h:WQ (T94 d x y) v94 post .e):PC 94 [iI d,iI x,iI y] post:=
 PCalls.wq Tryz.func94 (s94 d x y) q94 h
inductive P92
 |e
inductive R92
 |r0 (r0_0:ByteArray) (r0_1:List Shown)
def T92(nm:ByteArray)(l:List Shown):P92->Tr P92 R92
 |.e=>(.out (.r0 nm l))
noncomputable def g92(nm:ByteArray)(l:List Shown):P92->List Item × St
 |.e=>bd Tryz.f92 [.str nm,tShown.lst l] 6
def n92:R92->Exit × St
 |.r0 r0_0 r0_1=>(.ret,⟨mk 8 [(4,.ref 0 0 0)],[.cells [.str r0_0,tShown.lst r0_1]],[]⟩)
def v92:R92->V
 |.r0 r0_0 r0_1=>.agg [.str r0_0,tShown.lst r0_1]
theorem s92(nm:ByteArray)(l:List Shown):Sm 0 (g92 nm l) (T92 nm l) (n92)
 |.e=>⟨400,by kernel_rfl⟩
theorem q92:∀r,bodyQ Tryz.prog Tryz.f92 (·=v92 r) (n92 r).1 (n92 r).2
 |.r0 r0_0 r0_1=>bq (.agg [.str r0_0,tShown.lst r0_1]) (by kernel_rfl)
theorem w92(nm:ByteArray)(l:List Shown){post:V->Prop}(h:WQ (T92 nm l) v92 post .e):PC 92 [.str nm,tShown.lst l] post:=
 PCalls.wq Tryz.func92 (s92 nm l) q92 h
theorem c93(d:Int)(s:ByteArray):PC 93 [iI d,.str s] (·=.agg [iI d,.str s]):=by
 refine w93 d s (WP.step ?_);simp only[T93,Go,Ends',v93,Tr.sure,SS];repeat' with_reducible first|intro _|apply aI
theorem c94(d x y:Int):PC 94 [iI d,iI x,iI y] (·=.agg [iI d,iI 3,iI x,iI y,iI 0,iI 0,iI 0]):=by
 refine w94 d x y (WP.step ?_);simp only[T94,Go,Ends',v94,Tr.sure,SS];repeat' with_reducible first|intro _|apply aI
theorem c92(nm:ByteArray)(l:List Shown):PC 92 [.str nm,tShown.lst l] (·=.agg [.str nm,tShown.lst l]):=by
 refine w92 nm l (WP.step ?_);simp only[T92,Go,Ends',v92,Tr.sure,SS];repeat' with_reducible first|intro _|apply aI
def o38_3:Array Oper:=(regOf 3 (Tryz.f38.body.getD .skip)).getD #[]
@[reducible] def st38_3 (more:Bool) (c:Nat->Bool):St:=⟨[.bool more,uU,.ref 0 0 0,.ref 8 0 0,uU,uU,uU,uU,uU,uU,uU,uU,uU,uU,uU,uU,uU,uU,uU,uU,uU,uU,uU,uU,uU,.bool more,(bif c 0 then .ref 8 0 2 else(uU)),(bif c 1 then .row 7 4 else(uU)),(bif c 2 then .agg [iI 25,iI 3,iI 1,iI 2,iI 0,iI 0,iI 0]else(uU)),(bif c 3 then .list 7 1 (litC 7 1 [iI 25,iI 3,iI 1,iI 2,iI 0,iI 0,iI 0])else(uU)),uU,uU,uU],[.cells [.nils,.nils,.nils],.gone,.gone,.gone,.gone,.gone,.gone,.rows 66 7 4 (rowsOf tLine bkLines),.cells [tBody.lst bkBodies,tstr.lst bkHeads,.row 7 4]],[]⟩
def t38_3:Tab:=[([],[2,3]),([0],[2,3]),([],[0,1]),([2],[0,1])]
theorem ov38_3(more:Bool):AWP Tryz.prog ⟨none,0⟩ (regionOf Tryz.f38 3) ⟨[.bool more,uU,.ref 0 0 0,.ref 8 0 0,uU,uU,uU,uU,uU,uU,uU,uU,uU,uU,uU,uU,uU,uU,uU,uU,uU,uU,uU,uU,uU,.bool more,uU,uU,uU,uU,uU,uU,uU],[.cells [.nils,.nils,.nils],.gone,.gone,.gone,.gone,.gone,.gone,.rows 66 7 4 (rowsOf tLine bkLines),.cells [tBody.lst bkBodies,tstr.lst bkHeads,.row 7 4]],[]⟩ (fun e T=>e=.normal/\T=⟨[.bool more,uU,.ref 0 0 0,.ref 8 0 0,uU,uU,uU,uU,uU,uU,uU,uU,uU,uU,uU,uU,uU,uU,uU,uU,uU,uU,uU,uU,uU,.bool more,.ref 8 0 2,uU,.agg [iI 25,iI 3,iI 1,iI 2,iI 0,iI 0,iI 0],.list 7 1 (litC 7 1 [iI 25,iI 3,iI 1,iI 2,iI 0,iI 0,iI 0]),.row 7 (4+1),.ref 8 0 2,uU],[.cells [.nils,.nils,.nils],.gone,.gone,.gone,.gone,.gone,.gone,.rows 66 7 (4+1) (appC 4 (rowsOf tLine bkLines) (litC 7 1 [iI 25,iI 3,iI 1,iI 2,iI 0,iI 0,iI 0])),.cells [tBody.lst bkBodies,tstr.lst bkHeads,.row 7 (4+1)]],[]⟩):=by
 refine AWP.region_bits (ops:=o38_3) 4 0 t38_3 mx (st38_3 more) (fun z_i z_h c=> ?_) ?_
 ·rcases show z_i=0\/z_i=1\/z_i=2\/z_i=3 by omega with rfl|rfl|rfl|rfl
  ·exact AStep.rd true (.ref 8 0 2) rfl
  ·exact AStep.rd true (.row 7 4) rfl
  ·refine AStep.tree (g:=(.call 94 [iI 25,iI 1,iI 2] (.agg [iI 25,iI 3,iI 1,iI 2,iI 0,iI 0,iI 0]) true (.done .normal (st38_3 more (mkb t38_3 2 true c))))) (by kernel_rfl) ?_;simp only[DT.holds];repeat' (first|assumption|exact rfl|(with_reducible refine And.intro ?_ ?_))
   all_goals first|(simp[*];done)|exact c94 _ _ _
  ·exact AStep.lt 24 66 1 #[(0,.tmp 28)] [iI 0,iI 0,iI 0,iI 0,iI 0,iI 0,iI 0] [iI 25,iI 3,iI 1,iI 2,iI 0,iI 0,iI 0]
 ·refine AOps.tree (g:=(.need ((decide (4=4)&&decide (4+1<=4294967296))&&true) (.scal (fun _=>true) (.done .normal ⟨[.bool more,uU,.ref 0 0 0,.ref 8 0 0,uU,uU,uU,uU,uU,uU,uU,uU,uU,uU,uU,uU,uU,uU,uU,uU,uU,uU,uU,uU,uU,.bool more,.ref 8 0 2,uU,.agg [iI 25,iI 3,iI 1,iI 2,iI 0,iI 0,iI 0],.list 7 1 (litC 7 1 [iI 25,iI 3,iI 1,iI 2,iI 0,iI 0,iI 0]),.row 7 (4+1),.ref 8 0 2,uU],[.cells [.nils,.nils,.nils],.gone,.gone,.gone,.gone,.gone,.gone,.rows 66 7 (4+1) (appC 4 (rowsOf tLine bkLines) (litC 7 1 [iI 25,iI 3,iI 1,iI 2,iI 0,iI 0,iI 0])),.cells [tBody.lst bkBodies,tstr.lst bkHeads,.row 7 (4+1)]],[]⟩)))) (by kernel_rfl) ?_
  simp only[DT.holds];repeat' (first|exact rfl|refine And.intro ?_ ?_)
  all_goals simp
inductive P38
 |e
inductive R38
 |r0 (r0_0:List Body) (r0_1:List ByteArray) (r0_2:List Line)
def T38(more:Bool):P38->Tr P38 R38
 |.e=>let c1:=([(⟨0,nmKing⟩:Shown),(⟨20,nmBishop⟩:Shown)]:List Shown);let c2:List V:=[iI 25,iI 3,iI 1,iI 2,iI 0,iI 0,iI 0];let c3:=([(⟨10,nmJudge⟩:Shown)]:List Shown);let c4:=([(⟨0,nmClown⟩:Shown)]:List Shown);let c5:=([(⟨0,nmNun⟩:Shown)]:List Shown);let c6:=rowsOf tLine bkLines;let c7:=(decide ((4+1)<=(4+1)))&&true;let c8:=(decide (4<=4))&&true;let c9:=(decide (1<=1))&&true;let c10:=rowsOf tLine bkW;let c11:List V:=[.str (ByteArray.mk #[110]),tShown.lst c5];let c12:List V:=[.str (ByteArray.mk #[107]),tShown.lst c1];let c13:List V:=[.str (ByteArray.mk #[106]),tShown.lst c3];let c14:List V:=[.str (ByteArray.mk #[99]),tShown.lst c4];let c15:List V:=[iI 10,.str nmJudge];let c16:List V:=[iI 0,.str nmClown];let c17:List V:=[iI 0,.str nmNun];(.call 93 [iI 0,.str nmKing] (.agg [iI 0,.str nmKing]) true true (.call 93 [iI 20,.str nmBishop] (.agg [iI 20,.str nmBishop]) true true (.wait 0 (.frz 1 ((decide (2<=2))&&true) (.wait 0 (.vle 6 (.list 2 2 (litC 2 2 [iI 0,.str nmKing,iI 20,.str nmBishop])) (tShown.lst c1) (.call 92 c12 (.agg c12) true true (.call 93 c16 (.agg c16) true true (.wait 0 (.frz 2 c9 (.wait 0 (.vle 9 (.list 2 1 (litC 2 1 c16)) (tShown.lst c4) (.call 92 c14 (.agg c14) true true (.call 93 c17 (.agg c17) true true (.wait 0 (.frz 3 c9 (.wait 0 (.vle 12 (.list 2 1 (litC 2 1 c17)) (tShown.lst c5) (.call 92 c11 (.agg c11) true true (.call 93 c15 (.agg c15) true true (.wait 0 (.frz 4 c9 (.wait 0 (.vle 15 (.list 2 1 (litC 2 1 c15)) (tShown.lst c3) (.call 92 c13 (.agg c13) true true (.call 94 [iI 18,iI 0,iI 2] (.agg [iI 18,iI 3,iI 0,iI 2,iI 0,iI 0,iI 0]) true true (.wait 2 (.drop ⟨[.nil,uU,.nil,.nil,uU,uU,uU,uU,uU,uU,uU,uU,uU,uU,uU,uU,uU,uU,uU,uU,uU,uU,uU,uU,uU,uU,uU,uU,uU,uU,uU,uU,uU],[.void,.void,.void,.void,.void,.void,.void,.void,.void],[]⟩ (.frz 5 (true&&(c8&&true)) (.telc 8 [.list 2 4 (litC 2 4 [.str (ByteArray.mk #[107]),tShown.lst c1,.str (ByteArray.mk #[99]),tShown.lst c4,.str (ByteArray.mk #[110]),tShown.lst c5,.str (ByteArray.mk #[106]),tShown.lst c3]),.row 6 4,.row 7 4] [tBody.lst bkBodies,.row 6 4,.row 7 4] (.frz 6 (true&&(c8&&true)) (.telc 8 [tBody.lst bkBodies,.list 1 4 (litC 1 4 [.str (ByteArray.mk #[97,100,97]),.str (ByteArray.mk #[98,101,110]),.str (ByteArray.mk #[99,121]),.str (ByteArray.mk #[100,111,116])]),.row 7 4] [tBody.lst bkBodies,tstr.lst bkHeads,.row 7 4] (.telb 7 7 4 (litC 7 4 [iI 5,iI 0,iI 0,iI 1,iI 0,iI 0,iI 0,iI 10,iI 1,iI 0,iI 2,iI 1,iI 3,iI 0,iI 15,iI 2,iI 0,iI 0,iI 0,iI 0,iI 7,iI 18,iI 3,iI 0,iI 2,iI 0,iI 0,iI 0]) c6 (.br more (.over (regionOf Tryz.f38 3) ⟨[.bool more,uU,.ref 0 0 0,.ref 8 0 0,uU,uU,uU,uU,uU,uU,uU,uU,uU,uU,uU,uU,uU,uU,uU,uU,uU,uU,uU,uU,uU,.bool more,uU,uU,uU,uU,uU,uU,uU],[.cells [.nils,.nils,.nils],.gone,.gone,.gone,.gone,.gone,.gone,.rows 66 7 4 c6,.cells [tBody.lst bkBodies,tstr.lst bkHeads,.row 7 4]],[]⟩ .normal ⟨[.bool more,uU,.ref 0 0 0,.ref 8 0 0,uU,uU,uU,uU,uU,uU,uU,uU,uU,uU,uU,uU,uU,uU,uU,uU,uU,uU,uU,uU,uU,.bool more,.ref 8 0 2,uU,.agg c2,.list 7 1 (litC 7 1 c2),.row 7 (4+1),.ref 8 0 2,uU],[.cells [.nils,.nils,.nils],.gone,.gone,.gone,.gone,.gone,.gone,.rows 66 7 (4+1) (appC 4 c6 (litC 7 1 c2)),.cells [tBody.lst bkBodies,tstr.lst bkHeads,.row 7 (4+1)]],[]⟩ true (.telb 7 7 (4+1) (appC 4 c6 (litC 7 1 c2)) c10 (.wait 2 (.frz 7 (c7&&(c7&&(c7&&true))) (.vle 30 (.list 7 (4+1) c10) (tLine.lst bkW) (.telc 0 [tBody.lst bkBodies,tstr.lst bkHeads,.list 7 (4+1) c10] [tBody.lst bkBodies,tstr.lst bkHeads,tLine.lst bkW] (.telc 8 [tBody.lst bkBodies,tstr.lst bkHeads,.list 7 (4+1) c10] [tBody.lst bkBodies,tstr.lst bkHeads,tLine.lst bkW] (.out (.r0 bkBodies bkHeads bkW))))))))) (.wait 3 (.frz 7 (true&&(c8&&(c8&&true))) (.telc 0 [tBody.lst bkBodies,tstr.lst bkHeads,.list 7 4 c6] [tBody.lst bkBodies,tstr.lst bkHeads,tLine.lst bkLines] (.telc 8 [tBody.lst bkBodies,tstr.lst bkHeads,.list 7 4 c6] [tBody.lst bkBodies,tstr.lst bkHeads,tLine.lst bkLines] (.out (.r0 bkBodies bkHeads bkLines))))))))))))))))))))))))))))))))))))))))
noncomputable def g38(more:Bool):P38->List Item × St
 |.e=>bd Tryz.f38 [.bool more] 32
def n38:R38->Exit × St
 |.r0 r0_0 r0_1 r0_2=>(.ret,⟨mk 33 [(2,.ref 0 0 0)],[.cells [tBody.lst r0_0,tstr.lst r0_1,tLine.lst r0_2]],[]⟩)
def v38:R38->V
 |.r0 r0_0 r0_1 r0_2=>.agg [tBody.lst r0_0,tstr.lst r0_1,tLine.lst r0_2]
theorem s38(more:Bool):Sm 0 (g38 more) (T38 more) (n38)
 |.e=>⟨400,by kernel_rfl⟩
theorem q38:∀r,bodyQ Tryz.prog Tryz.f38 (·=v38 r) (n38 r).1 (n38 r).2
 |.r0 r0_0 r0_1 r0_2=>bq (.agg [tBody.lst r0_0,tstr.lst r0_1,tLine.lst r0_2]) (by kernel_rfl)
theorem w38(more:Bool){post:V->Prop}(h:WQ (T38 more) v38 post .e):PC 38 [.bool more] post:=
 PCalls.wq Tryz.func38 (s38 more) q38 h
theorem lit_rows{τ:Type}(E:Ty τ)(xs:List τ){w n:Nat}{cs:List V}(hn:n=xs.length)(hc:xs.flatMap E.cells=cs)(hw:∀x,(E.cells x).length=E.w)(hww:w=E.w:=by rfl)(i j:Nat)(hi:i<n)(hj:j<w):VLe (litC w n cs i j) (rowsOf E xs i j):=by
 subst hww;subst hn;subst hc;rw[litC_eq hi,flatMap_get E hw xs i j hi hj];exact VLe.refl _
theorem VLe.at{v v':V}(h:VLe v v')(pre suf:List V)(j:Nat):VLe ((pre++v::suf).getD j uU) ((pre++v'::suf).getD j uU):=by
 rcases Nat.lt_trichotomy j pre.length with q|q|q
 ·simp only[gE,aL q];exact VLe.refl _
 ·subst q;simpa[gE]using h
 ·obtain⟨d,rfl⟩:∃d,j=pre.length+d+1:=⟨j-pre.length-1,by omega⟩
  rw[show pre.length+d+1=pre.length+(d+1) by omega];simp only[gE,List.getElem?_append_right (Nat.le_add_right _ _),Nat.add_sub_cancel_left,List.getElem?_cons_succ];exact VLe.refl _
theorem at_bodies(j:Nat):VLe (([.list 2 4 (litC 2 4 (bkBodies.flatMap tBody.cells)),.row 6 4,.row 7 4]:List V).getD j uU) (([tBody.lst bkBodies,.row 6 4,.row 7 4]:List V).getD j uU):=
 VLe.at (VLe.lit tBody bkBodies rfl rfl (fun _=>rfl)) [] [.row 6 4,.row 7 4] j
theorem at_heads(j:Nat):VLe (([tBody.lst bkBodies,.list 1 4 (litC 1 4 (bkHeads.flatMap tstr.cells)),.row 7 4]:List V).getD j uU) (([tBody.lst bkBodies,tstr.lst bkHeads,.row 7 4]:List V).getD j uU):=
 VLe.at (VLe.lit tstr bkHeads rfl rfl (fun _=>rfl)) [tBody.lst bkBodies] [.row 7 4] j
theorem at_lines(j:Nat):VLe (([tBody.lst bkBodies,tstr.lst bkHeads,.list 7 4 (rowsOf tLine bkLines)]:List V).getD j uU) (([tBody.lst bkBodies,tstr.lst bkHeads,tLine.lst bkLines]:List V).getD j uU):=VLe.refl _
theorem at_more(j:Nat):VLe (([tBody.lst bkBodies,tstr.lst bkHeads,.list 7 (4+1) (rowsOf tLine bkW)]:List V).getD j uU) (([tBody.lst bkBodies,tstr.lst bkHeads,tLine.lst bkW]:List V).getD j uU):=VLe.refl _
theorem rows_lines(i j:Nat)(hi:i<4)(hj:j<7):VLe (litC 7 4 (bkLines.flatMap tLine.cells) i j) (rowsOf tLine bkLines i j):=lit_rows tLine bkLines rfl rfl (fun _=>rfl) rfl i j hi hj
theorem rows_more(r j:Nat)(hr:r<4+1):VLe (appC 4 (rowsOf tLine bkLines) (litC 7 1 [iI 25,iI 3,iI 1,iI 2,iI 0,iI 0,iI 0]) r j) (rowsOf tLine bkW r j):=app_at tLine bkLines ⟨25,3,1,2,0,0,0⟩ rfl rfl r j hr
theorem c38f:PC 38 [.bool false] (·=.agg (tBook.cells bkB)):=by
 refine w38 false (WP.step ?_);simp only[T38,Go,Ends',v38,Tr.sure,SS];repeat' with_reducible first|intro _|apply aI
 all_goals first|exact(c93 _ _)|exact(c94 _ _ _)|exact(c92 _ _)|exact(VLe.lit tShown _ rfl rfl (fun _=>rfl))|exact(at_bodies _)|exact(at_heads _)|exact(at_lines _)|(simp[Go,Ends',v38,-List.getD_eq_getElem?_getD, *];done)|skip
 all_goals first|exact rfl|exact rows_lines _ _ (by assumption) (by assumption)
theorem c38t:PC 38 [.bool true] (·=.agg (tBook.cells bkM)):=by
 refine w38 true (WP.step ?_);simp only[T38,Go,Ends',v38,Tr.sure,SS];repeat' with_reducible first|intro _|apply aI
 all_goals first|exact(c93 _ _)|exact(c94 _ _ _)|exact(c92 _ _)|exact(VLe.lit tShown _ rfl rfl (fun _=>rfl))|exact(at_bodies _)|exact(at_heads _)|exact(at_more _)|exact(ov38_3 _)|(simp[Go,Ends',v38,-List.getD_eq_getElem?_getD, *];done)|skip
 all_goals first|exact rfl|exact rows_lines _ _ (by assumption) (by assumption)|exact rows_more _ _ (by assumption)|exact VLe.refl _
end
noncomputable section
inductive P21
 |e
inductive R21
 |r0 (r0:Bool)
def T21:P21->Tr P21 R21
 |.e=>let c1:=(decide (2<=2))&&true;let c2:V:=.bool true;let c3:=([nmClown,nmJudge,nmKing,nmNun]:List ByteArray);let c4:=([⟨0,1⟩,⟨0,2⟩,⟨1,2⟩,⟨0,0⟩]:List Pair);let c5:=([nmClown,nmKing]:List ByteArray);let c6:=([nmJudge,nmNun]:List ByteArray);let c7:List V:=[.agg (cC bkB),iI 0,iI 18];let c8:=(decide (4<=4))&&true;(.call 38 [.bool false] (.agg (cC bkB)) true true (.call 38 [.bool true] (.agg (cC bkM)) true true (.call 18 [.agg (cC bkB)] (.tuple [tPair.lst c4,iI 0]) true true (.call 22 c7 (.tuple [tint.lst ([2,3]:List Int),iI 0]) true true (.call 25 [.agg (cC bkB),iI 1,iI 18] (.tuple [tint.lst ([1,3]:List Int),iI 0]) true true (.call 27 [.agg (cC bkB),iI 18] (.tuple [iI 2,iI 0]) true true (.call 29 c7 (.tuple [tstr.lst c6,iI 0]) true true (.call 32 [.agg (cC bkB),iI 0] (.tuple [tstr.lst c5,tstr.lst c3,iI 0]) true true (.call 34 [.agg (cC bkB),iI 2,.str nmKing] (.tuple [.agg [iI 10,iI 19],iI 0]) true true (.call 36 [.agg (cC bkM)] (.tuple [tint.lst ([3]:List Int),iI 0]) true true (.call 18 [.agg (cC bkM)] (.tuple [tPair.lst ([]:List Pair),iI 8]) true true (.call 34 [.agg (cC bkB),iI 3,.str nmBishop] (.tuple [.agg [iI 0,iI 0],iI 4]) true true (.lit true (.lit true (.lit true (.lit true (.lit true (.lit true (.lit true (.lit true (.lit true (.lit true (.call 20 [tPair.lst c4,.list 2 4 (litC 2 4 [iI 0,iI 1,iI 0,iI 2,iI 1,iI 2,iI 0,iI 0])] c2 c8 true (.lit true (.call 24 [tint.lst ([2,3]:List Int),.list 1 2 (litC 1 2 [iI 2,iI 3])] c2 c1 true (.lit true (.call 24 [tint.lst ([1,3]:List Int),.list 1 2 (litC 1 2 [iI 1,iI 3])] c2 c1 true (.lit true (.lit true (.call 31 [tstr.lst c6,.list 1 2 (litC 1 2 [.str nmJudge,.str nmNun])] c2 c1 true (.lit true (.call 31 [tstr.lst c5,.list 1 2 (litC 1 2 [.str nmClown,.str nmKing])] c2 c1 true (.lit true (.call 31 [tstr.lst c3,.list 1 4 (litC 1 4 [.str nmClown,.str nmJudge,.str nmKing,.str nmNun])] c2 c8 true (.lit true (.br (((10:Int)==(10:Int))&&(((19:Int)==(19:Int))&&true)) (.call 24 [tint.lst ([3]:List Int),.list 1 1 (litC 1 1 [iI 3])] c2 ((decide (1<=1))&&true) true (.out (.r0 true))) (.out (.r0 false))))))))))))))))))))))))))))))))))))))
noncomputable def g21:P21->List Item × St
 |.e=>bd Tryz.f21 [] 163
def n21:R21->Exit × St
 |.r0 r0=>(.ret,⟨mk 163 [(0,.bool r0)],[],[]⟩)
def v21:R21->V
 |.r0 r0=>.bool r0
theorem s21:Sm 0 (g21) (T21) (n21)
 |.e=>⟨400,by kernel_rfl⟩
theorem q21:∀r,bodyQ Tryz.prog Tryz.f21 (·=v21 r) (n21 r).1 (n21 r).2
 |.r0 r0=>bq (.bool r0) (by kernel_rfl)
theorem w21{post:V->Prop}(h:WQ (T21) v21 post .e):PC 21 [] post:=
 PCalls.wq Tryz.func21 (s21) q21 h
theorem a18:PC 18 [.agg (tBook.cells bkB)] (·=.tuple [tPair.lst [⟨0,1⟩,⟨0,2⟩,⟨1,2⟩,⟨0,0⟩],iI 0]):=by have:=c18 bkB;rw[bk_first]at this;exact this
theorem a18m:PC 18 [.agg (tBook.cells bkM)] (·=.tuple [tPair.lst [],iI 8]):=by have:=c18 bkM;rw[bk_zero]at this;exact this
theorem a22:PC 22 [.agg (tBook.cells bkB),iI 0,iI 18] (·=.tuple [tint.lst [2,3],iI 0]):=by have:=c22 bkB 0 18;rw[bk_where]at this;exact this
theorem a25:PC 25 [.agg (tBook.cells bkB),iI 1,iI 18] (·=.tuple [tint.lst [1,3],iI 0]):=by have:=c25 bkB 1 18;rw[bk_on]at this;exact this
theorem a27:PC 27 [.agg (tBook.cells bkB),iI 18] (·=.tuple [iI 2,iI 0]):=by have:=c27 bkB 18;rw[bk_many]at this;exact this
theorem a29:PC 29 [.agg (tBook.cells bkB),iI 0,iI 18] (·=.tuple [tstr.lst [nmJudge,nmNun],iI 0]):=by have:=c29 bkB 0 18;rw[bk_as]at this;exact this
theorem a32:PC 32 [.agg (tBook.cells bkB),iI 0] (·=.tuple [tstr.lst [nmClown,nmKing],tstr.lst [nmClown,nmJudge,nmKing,nmNun],iI 0]):=by have:=c32 bkB 0;rw[bk_ever]at this;exact this
theorem a34:PC 34 [.agg (tBook.cells bkB),iI 2,.str nmKing] (·=.tuple [.agg [iI 10,iI 19],iI 0]):=by have:=c34 bkB 2 nmKing;rw[bk_between]at this;exact this
theorem a34n:PC 34 [.agg (tBook.cells bkB),iI 3,.str nmBishop] (·=.tuple [.agg [iI 0,iI 0],iI 4]):=by have:=c34 bkB 3 nmBishop;rw[bk_none]at this;exact this
theorem a36:PC 36 [.agg (tBook.cells bkM)] (·=.tuple [tint.lst [3],iI 0]):=by have:=c36 bkM;rw[bk_wrong]at this;exact this
theorem a24(l:List Int)(n:Nat)(cs:List V)(hn:n=l.length)(hc:l.flatMap tint.cells=cs):PC 24 [tint.lst l,.list 1 n (litC 1 n cs)] (·=.bool true):=by
 have:=PCalls.arg (pre:=[tint.lst l]) (c24 l l) (VLe.lit tint l hn hc (fun _=>rfl));rw[show sameI l l=true by simp[sameI]]at this;exact this
theorem a31(l:List ByteArray)(n:Nat)(cs:List V)(hn:n=l.length)(hc:l.flatMap tstr.cells=cs):PC 31 [tstr.lst l,.list 1 n (litC 1 n cs)] (·=.bool true):=by
 have:=PCalls.arg (pre:=[tstr.lst l]) (c31 l l) (VLe.lit tstr l hn hc (fun _=>rfl));rw[show sameS l l=true by simp[sameS]]at this;exact this
theorem a20(l:List Pair)(n:Nat)(cs:List V)(hn:n=l.length)(hc:l.flatMap tPair.cells=cs):PC 20 [tPair.lst l,.list 2 n (litC 2 n cs)] (·=.bool true):=by
 have:=PCalls.arg (pre:=[tPair.lst l]) (c20 l l) (VLe.lit tPair l hn hc (fun _=>rfl));rw[show sameP l l=true by simp[sameP]]at this;exact this
theorem c21:PC 21 [] (·=.bool true):=by
 refine w21 (WP.step ?_);simp only[T21,Go,Ends',v21,Tr.sure,SS];repeat' with_reducible first|intro _|apply aI
 all_goals first|exact c38f|exact c38t|exact a18|exact a18m|exact a22|exact a25|exact a27|exact a29|exact a32|exact a34|exact a34n|exact a36|exact(a24 _ _ _ rfl rfl)|exact(a31 _ _ _ rfl rfl)|exact(a20 _ _ _ rfl rfl)|(simp[Go,Ends',v21,-List.getD_eq_getElem?_getD, *];done)|(simp_all [Go,Ends',v21,-List.getD_eq_getElem?_getD];done)
end
noncomputable section
def validR(b:Book):Bool:=(bookCheck b).2.2==0
inductive P39
 |e
inductive R39
 |r0 (r0:Bool)
def T39(b:Book):P39->Tr P39 R39
 |.e=>let c1:=bookCheck b;(.call 17 [.agg (cC b)] (.tuple [iI (c1.1),iI (c1.2.1),iI (c1.2.2)]) true true (.out (.r0 (c1.2.2==(0:Int)))))
noncomputable def g39(b:Book):P39->List Item × St
 |.e=>bd Tryz.f39 [.agg (cC b)] 13
def n39:R39->Exit × St
 |.r0 r0=>(.ret,⟨mk 14 [(2,.bool r0)],[],[]⟩)
def v39:R39->V
 |.r0 r0=>.bool r0
theorem s39(b:Book):Sm 0 (g39 b) (T39 b) (n39)
 |.e=>⟨400,by kernel_rfl⟩
theorem q39:∀r,bodyQ Tryz.prog Tryz.f39 (·=v39 r) (n39 r).1 (n39 r).2
 |.r0 r0=>bq (.bool r0) (by kernel_rfl)
theorem w39(b:Book){post:V->Prop}(h:WQ (T39 b) v39 post .e):PC 39 [.agg (cC b)] post:=
 PCalls.wq Tryz.func39 (s39 b) q39 h
theorem c39(b:Book):PC 39 [.agg (tBook.cells b)] (·=.bool (validR b)):=by
 refine w39 b (WP.step ?_);simp only[T39,Go,Ends',v39,Tr.sure,SS];repeat' with_reducible first|intro _|apply aI
 all_goals first|exact(c17 b)|(simp[validR,Go,Ends',v39,-List.getD_eq_getElem?_getD, *];done)
end
noncomputable section
theorem i0:Int.toNat 0=0:=rfl
theorem i1:Int.toNat 1=1:=rfl
theorem i2:Int.toNat 2=2:=rfl
theorem i3:Int.toNat 3=3:=rfl
end
end Go.Proofs.YtemgodefhcbleaaGreat
namespace Go.Proofs.YtemgodefhcbleaaGreat
open Ab Go.ChangeShapes Go.WideShapes Go.RowKit
def GW(W:World):Kept:=⟨fun b=>W.heap[b]?,ambOf W⟩
theorem bulk_one{H:Type}(d:DataW H):1<=Rows.uptoBulk d:=by
 cases d with
 |lit l=>cases l<;>simp[Rows.uptoBulk]
 |nil=>simp[Rows.uptoBulk]
 |ptr d=>simp[Rows.uptoBulk]
 |slice elems spare=>simp[Rows.uptoBulk]
 |agg parts=>simp[Rows.uptoBulk]
 |iface t d=>simp[Rows.uptoBulk]
 |map entries=>simp[Rows.uptoBulk]
 |held h=>simp[Rows.uptoBulk]
theorem bulk_part{H:Type}{d:DataW H}{l:List (DataW H)}(h:d∈l):Rows.uptoBulk d<=Rows.uptoBulkAll l:=by
 induction l with
 |nil=>cases h
 |cons x r ih=>
  simp only[Rows.uptoBulkAll]
  cases List.mem_cons.1 h with
  |inl e=>subst e;omega
  |inr e=>have:=ih e;omega
theorem bulk_length{H:Type}(l:List (DataW H)):l.length<=Rows.uptoBulkAll l:=by
 induction l with
 |nil=>simp[Rows.uptoBulkAll]
 |cons x r ih=>have:=bulk_one x;simp only[Rows.uptoBulkAll,List.length_cons];omega
def Opens(P:Program)(W:World)(C:List V->Prop)(t:TypeId):Prop:=
 ∀(H:Type) (enc:TypeId × Value->H) (n:Nat) (cs:List Value) (x:DataW H × List MemPlace),DataW.trod enc P W 0 (fun _=>true) true n t cs=some x->Rows.uptoBulk x.1<=1048576->
  ∃vs,C vs/\vs.length=cs.length/\∀j,j<vs.length->Rel (GW W) [] (vs.getD j .undef) (cs.getD j Go.undef)
section
variable {P:Program} {W:World} {t e:TypeId}
theorem Opens.mono{C C':List V->Prop}(h:Opens P W C t)(hC:∀vs,C vs->C' vs):Opens P W C' t:=fun H enc n cs x hx hb=>by
 obtain⟨vs,h1,h2,h3⟩:=h H enc n cs x hx hb;exact⟨vs,hC vs h1,h2,h3⟩
theorem Opens.int{k:IntKind}(ht:P.underlying t=some (.int k)):Opens P W (fun vs=>∃n,vs=[.int k n]) t:=fun H enc n cs x h _=>by
 obtain⟨m,rfl,-,-⟩:=DataW.trod_int ht h;refine⟨[.int k m],⟨m,rfl⟩,rfl,fun j hj=> ?_⟩;obtain rfl:j=0:=by simpa using hj
 exact .int k m
theorem Opens.str(ht:P.underlying t=some .string):Opens P W (fun vs=>∃s,vs=[.str s]) t:=fun H enc n cs x h _=>by
 obtain⟨s,rfl,-,-⟩:=DataW.trod_string ht h;refine⟨[.str s],⟨s,rfl⟩,rfl,fun j hj=> ?_⟩;obtain rfl:j=0:=by simpa using hj
 exact .str s
theorem Opens.sliceP{τ:Type}{E:Ty τ}{p:τ->Prop}(ht:P.underlying t=some (.slice e))(he:Opens P W (fun vs=>∃x,p x/\vs=E.cells x) e)(hw:P.cellsOf e=E.w)(h0:0<E.w)(hl:∀x,(E.cells x).length=E.w):
  Opens P W (fun vs=>∃l,l.length<=1048576/\(∀x∈l,p x)/\vs=[.list E.w l.length (rowsOf E l)]) t:=fun H enc n cs x h hb=>by
 rcases DataW.trod_slice ht h with⟨rfl,-⟩|⟨a,len,cap,elems,rest,m,-,rfl,rfl,-,hlc,hcm,hel,hget,-,-⟩
 ·refine⟨[.list E.w 0 (rowsOf E [])],⟨[],Nat.zero_le _,fun x hx=>absurd hx List.not_mem_nil,rfl⟩,rfl,fun j hj=> ?_⟩;obtain rfl:j=0:=by simpa using hj
  exact .list0
 ·simp only[Rows.uptoBulk]at hb
  have hlen:len<=1048576:=by
   have:=bulk_length (elems.map (·.1));rw[List.length_map]at this;omega
  have hstep:∀i,i<len->∃x:τ,p x/\∃cs',W.cells? 0 (a.add (i*E.w)) E.w=some cs'/\∀j,j<E.w->Rel (GW W) [] ((E.cells x).getD j .undef) (cs'.getD j Go.undef):=fun i hi=>by
   have h1:=hget i hi;have hy:elems[i]? =some elems[i]:=List.getElem?_eq_getElem (by omega);rw[hy,Option.bind_eq_some_iff]at h1;obtain⟨cs',h3,h4⟩:=h1;have hm:(elems[i]).1∈elems.map (·.1):=List.mem_map.2 ⟨_,List.getElem_mem _,rfl⟩;obtain⟨vs,⟨x,px,rfl⟩,h5,h6⟩:=he H enc m cs' _ h4 (by have:=bulk_part hm;omega);rw[hw]at h3;exact⟨x,px,cs',h3,fun j hj=>h6 j (by rw[hl];exact hj)⟩
  obtain⟨f,hf⟩:∃f:Fin len->τ,∀i:Fin len,p (f i)/\∃cs',W.cells? 0 (a.add (i.1*E.w)) E.w=some cs'/\∀j,j<E.w->Rel (GW W) [] ((E.cells (f i)).getD j .undef) (cs'.getD j Go.undef):=
   ⟨fun i=>(hstep i.1 i.2).choose,fun i=>(hstep i.1 i.2).choose_spec⟩
  refine⟨[.list E.w (List.ofFn f).length (rowsOf E (List.ofFn f))],⟨_,by rw[List.length_ofFn];exact hlen,fun x hx=>by
   obtain⟨i,rfl⟩:=List.mem_ofFn.1 hx
   exact(hf i).1,rfl⟩,rfl,fun j hj=> ?_⟩
  obtain rfl:j=0:=by simpa using hj
  show Rel _ _ (.list E.w (List.ofFn f).length (rowsOf E (List.ofFn f))) (.slice (some a) len cap);rw[List.length_ofFn];rcases Nat.eq_zero_or_pos len with rfl|hpos
  ·exact .list0
  ·obtain⟨b,off,spot⟩:=a
   have cell:∀i j,(hi:i<len)->j<E.w->∃u,W.cell? (((Addr.mk b off spot).add (i*E.w)).add j)=some u/\Rel (GW W) [] ((E.cells (f ⟨i,hi⟩)).getD j .undef) u:=fun i j hi hj=>by
    obtain⟨-,cs',h1,h2⟩:=hf ⟨i,hi⟩;obtain⟨-,h3,h4⟩:=World.cells?_some h1;have h5:=h4 j hj;have hjl:j<cs'.length:=by rw[h3];exact hj
    rw[List.getElem?_eq_getElem hjl]at h5;refine⟨cs'[j],h5,?_⟩;have:=h2 j hj;rwa[gE (l:=cs'),List.getElem?_eq_getElem hjl]at this
   have hspot:spot=none:=by
    obtain⟨u,h1,-⟩:=cell 0 0 hpos h0
    cases spot with
    |none=>rfl
    |some s=>
     exfalso
     rw[Nat.zero_mul]at h1;simp only[Addr.add,if_true]at h1;unfold World.cell? at h1;split at h1
     ·simp at h1
     ·cases h1
   subst hspot
   obtain⟨c,e',fz,hblk⟩:∃c e' fz,W.heap[b]? =some (.cells c e' fz):=by
    obtain⟨u,h1,-⟩:=cell 0 0 hpos h0;rw[addr_add,addr_add]at h1;unfold World.cell? at h1;split at h1
    ·rename_i c e' fz hh;exact⟨c,e',fz,hh⟩
    ·cases h1
   have look:∀k l,W.cell? (((Addr.mk b off none).add k).add l)=c[off+(k+l)]? :=fun k l=>by rw[addr_add,addr_add,Nat.add_assoc];simp only[World.cell?,hblk];simp
   refine .list (G:=GW W) (cs:=c) (e:=e') (fz:=fz) hblk ?_ hlc (by unfold maxn;omega) fun i j hi hj=> ?_
   ·obtain⟨u,h1,-⟩:=cell (len-1) (E.w-1) (by omega) (by omega);rw[look]at h1;have:=(Array.getElem?_eq_some_iff.1 h1).1;have e1:len*E.w=(len-1)*E.w+E.w:=by rw[<-Nat.succ_mul];congr 1;omega
    omega
   ·obtain⟨u,h1,h2⟩:=cell i j hi hj;rw[look]at h1;rw[aG,h1];show Rel _ _ ((E.cells ((List.ofFn f).getD i E.zero)).getD j .undef) u;rw[gE (l:=List.ofFn f),List.getElem?_ofFn,dif_pos hi];exact h2
theorem Opens.slice{τ:Type}{E:Ty τ}(ht:P.underlying t=some (.slice e))(he:Opens P W (fun vs=>∃x,vs=E.cells x) e)(hw:P.cellsOf e=E.w)(h0:0<E.w)(hl:∀x,(E.cells x).length=E.w):
  Opens P W (fun vs=>∃l,vs=[.list E.w l.length (rowsOf E l)]) t:=
 (Opens.sliceP (p:=fun _=>True) ht (he.mono fun _ ⟨x,h⟩=>⟨x,trivial,h⟩) hw h0 hl).mono fun _ ⟨l,_,_,h⟩=>⟨l,h⟩
def Parts:List (List V->Prop)->List V->Prop
 |[],vs=>vs=[]
 |C::Cs,vs=>∃a b,vs=a++b/\C a/\Parts Cs b
def OpensL(P:Program)(W:World):List (List V->Prop)->List Field->Prop
 |[],[]=>True
 |C::Cs,f::fs=>Opens P W C f.type/\OpensL P W Cs fs
 |_,_=>False
def laid(P:Program)(tot:Nat):Nat->List Field->Bool
 |o,[]=>o==tot
 |o,f::fs=>f.offset==o&&decide (o+P.cellsOf f.type<=tot)&&laid P tot (o+P.cellsOf f.type) fs
theorem parts_ok{H:Type}{enc:TypeId × Value->H}{n:Nat}{cs:List Value}:∀(Cs:List (List V->Prop)) (fl:List Field) (o:Nat) (ys:List (DataW H × List MemPlace)),OpensL P W Cs fl->laid P cs.length o fl=true->ys.length=fl.length->
  (∀(i:Nat) (f:Field),fl[i]? =some f->DataW.trod enc P W 0 (fun _=>true) true n f.type ((cs.drop f.offset).take (P.cellsOf f.type))=ys[i]?)->Rows.uptoBulkAll (ys.map (·.1))<=1048576->
  ∃vs,Parts Cs vs/\vs.length=cs.length-o/\∀j,j<vs.length->Rel (GW W) [] (vs.getD j .undef) (cs.getD (o+j) Go.undef)
 |[],[],o,ys,_,hlay,_,_,_=>by
  simp only[laid,beq_iff_eq]at hlay;exact⟨[],rfl,by simp[hlay],fun j hj=>absurd hj (Nat.not_lt_zero _)⟩
 |[],f::fl,_,_,h,_,_,_,_=>h.elim
 |C::Cs,[],_,_,h,_,_,_,_=>h.elim
 |C::Cs,f::fl,o,[],_,_,hl,_,_=>by simp at hl
 |C::Cs,f::fl,o,y::ys,h,hlay,hl,hget,hb=>by
  simp only[laid,Bool.and_eq_true,beq_iff_eq,decide_eq_true_eq]at hlay;obtain⟨⟨ho,hle⟩,hrest⟩:=hlay;simp only[List.map_cons,Rows.uptoBulkAll]at hb;have h1:=hget 0 f rfl;simp only[List.getElem?_cons_zero]at h1;obtain⟨a,ha,la,ra⟩:=h.1 H enc n _ _ h1 (by omega);obtain⟨b,hb1,lb,rb⟩:=parts_ok Cs fl (o+P.cellsOf f.type) ys h.2 hrest (by simpa using hl) (fun i g hi=>by simpa using hget (i+1) g (by simpa using hi)) (by omega)
  have la':a.length=P.cellsOf f.type:=by rw[la,List.length_take,List.length_drop,ho];omega
  refine⟨a++b,⟨a,b,rfl,ha,hb1⟩,by rw[List.length_append,la',lb];omega,fun j hj=> ?_⟩;rcases Nat.lt_or_ge j a.length with q|q
  ·rw[getD_append_left q];have:=ra j q;rw[gE (l:=List.take _ _),List.getElem?_take_of_lt (by omega),List.getElem?_drop,ho,<-List.getD_eq_getElem?_getD]at this;exact this
  ·rw[getD_append_right q];have:=rb (j-a.length) (by rw[List.length_append]at hj;omega);rw[la']at this⊢;rw[show o+P.cellsOf f.type+(j-P.cellsOf f.type)=o+j by omega]at this;exact this
theorem Opens.struct{fs:Array Field}(ht:P.underlying t=some (.struct fs))(Cs:List (List V->Prop))(ho:OpensL P W Cs fs.toList)(hlay:laid P (P.cellsOf t) 0 fs.toList=true):Opens P W (Parts Cs) t:=fun H enc n cs x h hb=>by
 obtain⟨xs,m,-,rfl,hl,hlen,hf⟩:=DataW.trod_struct ht h;simp only[Rows.uptoBulk]at hb;obtain⟨vs,h1,h2,h3⟩:=parts_ok (enc:=enc) (n:=m) Cs fs.toList 0 xs ho (by rw[hl];exact hlay) (by simpa using hlen) (fun i f hi=>hf i f (by simpa using hi)) (by omega);exact⟨vs,h1,by simpa using h2,fun j hj=>by simpa using h3 j hj⟩
theorem val_struct{H:Type}{enc:TypeId × Value->H}{fs:Array Field}{base:Nat}{v:Value}{d:DataW H}{ps:List MemPlace}{C:List V->Prop}(ht:P.underlying t=some (.struct fs))(hok:Value.okWide P W .any base t v)
  (h:DataW.Trod enc P W 0 (fun _=>true) true t v d ps) (ho:Opens P W C t) (hb:Rows.uptoBulk d<=1048576):∃vs,C vs/\Rel (GW W) [] (.agg vs) v:=by
 simp only[Value.okWide,ht]at hok;obtain⟨cs,rfl,-,-⟩:=hok;obtain⟨n,hn⟩:=h;obtain⟨vs,h1,h2,h3⟩:=ho H enc n _ _ hn hb;have h2':vs.length=cs.size:=by simpa[Value.cells]using h2
 refine⟨vs,h1,.agg h2' fun j hj=> ?_⟩;have:=h3 j hj;simpa[Value.cells,gE,aG]using this
theorem val_slice{H:Type}{enc:TypeId × Value->H}{base:Nat}{v:Value}{d:DataW H}{ps:List MemPlace}{τ:Type}{E:Ty τ}(ht:P.underlying t=some (.slice e))(hok:Value.okWide P W .any base t v)
  (h:DataW.Trod enc P W 0 (fun _=>true) true t v d ps) (ho:Opens P W (fun vs=>∃l,vs=[.list E.w l.length (rowsOf E l)]) t) (hb:Rows.uptoBulk d<=1048576):∃l,Rel (GW W) [] (.list E.w l.length (rowsOf E l)) v:=by
 have hv:v.cells.toList=[v]:=by
  simp only[Value.okWide,ht,Cell.okWide,Cell.ok]at hok;cases v<;>first|rfl|simp at hok
 obtain⟨n,hn⟩:=h;rw[hv]at hn;obtain⟨vs,⟨l,rfl⟩,-,h3⟩:=ho H enc n _ _ hn hb;exact⟨l,by simpa using h3 0 (by simp)⟩
theorem post_same{H:Type}{enc:TypeId × Value->H}{f:Func}{s:ChangeSpec}{apart fresh handsOn again:Bool}{W W':World}{args:Array Value}{v:Value}{ds gs:List (DataW H)}{before pa pv:List MemPlace}
  (hW:DataW.Whole enc P f.params.toList s.vars apart W args.toList ds gs before)
  (hres:∀(b:Nat) (sp:Nat->Bool) (hd:Bool),DataW.TrodAll enc P W' b sp hd f.resultTypes.toList (v.resultList f.resultTypes.size) (s.fn H (ds++gs)).results [])
  (hargs:∀sp:Nat->Bool,(∀p∈before,sp p.block=true)->DataW.TrodAll enc P W' 0 sp true f.params.toList args.toList (s.fn H (ds++gs)).args pa)
  (hvars:∀sp:Nat->Bool,(∀p∈before,sp p.block=true)->DataW.TrodVars enc P W' sp s.vars (s.fn H (ds++gs)).vars pv)
  (hps:before=pa++pv) (hk:W.keptBut W' (·∈before)) (hfz:∀a:Addr,a.block<W.heap.size->W'.frozen? a=W.frozen? a)
  (hok:∀(j:Nat) (t:TypeId) (r:Value),f.resultTypes[j]? =some t->(v.resultList f.resultTypes.size)[j]? =some r->Value.okWide P W' .any 0 t r):
  s.post enc P f apart fresh handsOn again W args v W':=by
 have hold:∀p∈before,(fun b=>decide (b<W.heap.size)) p.block=true:=fun p hp=>by simpa using hW.lt p hp
 refine⟨ds,gs,before,[],pa,pv,hW,hres _ _ _,hargs _ hold,hvars _ hold,World.keptBut_mono (fun p hp=>⟨hp,?_⟩) hk,fun _=> ?_⟩
 ·rw[hps,List.mem_append]at hp;exact Or.inr hp
 ·have hlt:=hW.lt;obtain⟨_,_,_,_,_,hz,hn⟩:=hW;refine⟨hok,_,_,([]++pa)++pv,⟨[]++pa,pv,trodAll_append (hargs _ (fun _ _=>rfl)) (hres _ _ _),hvars _ (fun _ _=>rfl),rfl,?_,?_⟩,?_⟩
  ·intro b off hp;have hp':MemPlace.cell b off∈before:=by rw[hps];simpa using hp
   rw[hfz _ (hlt _ hp')];exact hz b off hp'
  ·intro ha;have:=hn ha;rw[hps]at this;simpa using this
  ·intro p hp _;rw[hps];simpa using hp
theorem trods_stay{H:Type}{enc:TypeId × Value->H}{W':World}{sp:Nat->Bool}(hl:laidOutB P=true):∀ {ts:List TypeId} {vs:List Value} {ds:List (DataW H)} {ps:List MemPlace},(∀t∈ts,P.readableRec t=true/\t<P.types.size)->
  DataW.TrodAll enc P W 0 (fun _=>true) true ts vs ds ps->(∀p∈ps,W.sameAt W' p)->(∀p∈ps,sp p.block=true)->DataW.TrodAll enc P W' 0 sp true ts vs ds ps
 |[],_,_,_,_,h,_,_=>by
  obtain⟨rfl,rfl,rfl⟩:=trodAll_nil h;exact trodAll_mk0
 |t::ts,_,_,_,ht,h,h1,h2=>by
  obtain⟨v,vs1,d,ds1,a,b,rfl,rfl,rfl,h3,h4⟩:=trodAll_cons h
  exact⟨a,b,WideElems.Trod_stays hl (ht t (by simp)).1 (ht t (by simp)).2 h3 (fun p hp=>h1 p (by simp[hp])) (fun p hp=>h2 p (by simp[hp])),
   trods_stay hl (fun t' h'=>ht t' (by simp[h'])) h4 (fun p hp=>h1 p (by simp[hp])) (fun p hp=>h2 p (by simp[hp])),rfl⟩
theorem bridge{H:Type}{enc:TypeId × Value->H}{f:FuncId}{fn:Func}{s:ChangeSpec}{apart fresh handsOn again:Bool}{args:Array Value}{ds gs:List (DataW H)}{before:List MemPlace}{tb:TypeId}
  (hW:DataW.Whole enc P fn.params.toList s.vars apart W args.toList ds gs before) {vs:List V} (hc:PCalls P f vs (·=.bool true)) (hl:vs.length=args.size) (hr:∀j,j<vs.length->Rel (GW W) [] (vs.getD j .undef) (args.getD j Go.undef))
  (hvars:s.vars=[]) (hfn:s.fn H (ds++gs)={results:=[.lit (.bool true)],args:=ds}) (hty:fn.resultTypes= #[tb]) (htb:P.underlying tb=some .bool) (hlo:laidOutB P=true) (hrd:∀t∈fn.params.toList,P.readableRec t=true/\t<P.types.size):
  Calls P f args W fun e W'=>∃v,e=.returned v/\s.post enc P fn apart fresh handsOn again W args v W':=by
 refine(hc.2 (GW W) W args ⟨fun b o hb=>hb,ambOf_ok W⟩ hl hr).mono ?_;rintro e W' ⟨v,x,G',rfl,h1,h2,-,h4,h5,h6,rfl⟩
 cases h6;have hamb:G'.amb.ok W':=h2.amb;rw[<-h1.same]at hamb;have hW':=hW;obtain⟨p,q,hA,hV,rfl,-,-⟩:=hW';rw[hvars]at hV;obtain⟨rfl,rfl⟩:=trodVars_none hV;have hlt:∀x∈p,x.block<W.heap.size:=fun x hx=>hW.lt x (by simp[hx]);refine⟨_,rfl,post_same (pa:=p) (pv:=[]) hW (fun _ _ _=> ?_) (fun sp hsp=> ?_) (fun sp _=> ?_) rfl ?_ (fun a ha=>World.frozen?_of_block (w:=W) (h4 _ ha)) (ok_one hty rfl (okWide_bool_mk htb _))⟩
 ·rw[hfn,hty];exact trodAll_cons_mk (shut_bool htb _) trodAll_mk0
 ·rw[hfn];refine trods_stay hlo hrd hA (fun x hx=> ?_) fun x hx=>hsp x (by simp[hx])
  cases x with
  |cell b o=>exact World.cell?_of_block (w:=W) (h4 b (hlt _ hx))
  |map b=>exact h4 b (hlt _ hx)
 ·rw[hfn,hvars];rfl
 ·refine⟨hamb.os,hamb.out,fun i hi=> ?_⟩;rw[h4 i hi];split<;>simp_all
end
section
variable {W:World}
theorem oInt:Opens Tryz.prog W (fun vs=>∃n,vs=[.int .i64 n]) 3:=Opens.int Tryz.underlying3
theorem oStr:Opens Tryz.prog W (fun vs=>∃s,vs=[.str s]) 9:=Opens.str Tryz.underlying9
theorem oNames:Opens Tryz.prog W (fun vs=>∃l,vs=[tstr.lst l]) 23:=Opens.slice (E:=tstr) Tryz.underlying23 oStr (by kernel_rfl) (by decide) fun _=>rfl
theorem oShown:Opens Tryz.prog W (fun vs=>∃x,vs=tShown.cells x) 103:=
 (Opens.struct Tryz.underlying103 [fun vs=>∃n,vs=[.int .i64 n],fun vs=>∃s,vs=[.str s]] ⟨oInt,oStr,trivial⟩ (by kernel_rfl)).mono fun vs h=>by
  obtain⟨_,_,rfl,⟨a,rfl⟩,_,_,rfl,⟨b,rfl⟩,rfl⟩:=h;exact⟨⟨a,b⟩,rfl⟩
theorem oShowns:Opens Tryz.prog W (fun vs=>∃l,vs=[tShown.lst l]) 69:=Opens.slice (E:=tShown) Tryz.underlying69 oShown (by kernel_rfl) (by decide) fun _=>rfl
theorem oBody:Opens Tryz.prog W (fun vs=>∃x,vs=tBody.cells x) 71:=
 (Opens.struct Tryz.underlying71 [fun vs=>∃s,vs=[.str s],fun vs=>∃l,vs=[tShown.lst l]] ⟨oStr,oShowns,trivial⟩ (by kernel_rfl)).mono fun vs h=>by
  obtain⟨_,_,rfl,⟨a,rfl⟩,_,_,rfl,⟨b,rfl⟩,rfl⟩:=h;exact⟨⟨a,b⟩,rfl⟩
theorem oBodies:Opens Tryz.prog W (fun vs=>∃l,vs=[tBody.lst l]) 22:=Opens.slice (E:=tBody) Tryz.underlying22 oBody (by kernel_rfl) (by decide) fun _=>rfl
theorem oLine:Opens Tryz.prog W (fun vs=>∃x,vs=tLine.cells x) 66:=
 (Opens.struct Tryz.underlying66 (List.replicate 7 fun vs=>∃n,vs=[.int .i64 n]) ⟨oInt,oInt,oInt,oInt,oInt,oInt,oInt,trivial⟩ (by kernel_rfl)).mono fun vs h=>by
  obtain⟨_,_,rfl,⟨a,rfl⟩,_,_,rfl,⟨b,rfl⟩,_,_,rfl,⟨c,rfl⟩,_,_,rfl,⟨d,rfl⟩,_,_,rfl,⟨e,rfl⟩,_,_,rfl,⟨f,rfl⟩,_,_,rfl,⟨g,rfl⟩,rfl⟩:=h;exact⟨⟨a,b,c,d,e,f,g⟩,rfl⟩
theorem oLines:Opens Tryz.prog W (fun vs=>∃l,vs=[tLine.lst l]) 24:=Opens.slice (E:=tLine) Tryz.underlying24 oLine (by kernel_rfl) (by decide) fun _=>rfl
theorem oBook:Opens Tryz.prog W (fun vs=>∃x,vs=tBook.cells x) 26:=
 (Opens.struct Tryz.underlying26 [fun vs=>∃l,vs=[tBody.lst l],fun vs=>∃l,vs=[tstr.lst l],fun vs=>∃l,vs=[tLine.lst l]] ⟨oBodies,oNames,oLines,trivial⟩ (by kernel_rfl)).mono fun vs h=>by
  obtain⟨_,_,rfl,⟨a,rfl⟩,_,_,rfl,⟨b,rfl⟩,_,_,rfl,⟨c,rfl⟩,rfl⟩:=h;exact⟨⟨a,b,c⟩,rfl⟩
variable {H:Type} {enc:TypeId × Value->H} {base:Nat} {v:Value} {d:DataW H} {ps:List MemPlace}
theorem arg_book(hok:Value.okWide Tryz.prog W .any base 26 v)(h:DataW.Trod enc Tryz.prog W 0 (fun _=>true) true 26 v d ps)(hb:Rows.uptoBulk d<=1048576):∃x,Rel (GW W) [] (.agg (tBook.cells x)) v:=by
 obtain⟨vs,⟨x,rfl⟩,hr⟩:=val_struct Tryz.underlying26 hok h oBook hb;exact⟨x,hr⟩
theorem val_arr{k:IntKind}{t e:TypeId}{n:Nat}(ht:Tryz.prog.underlying t=some (.array n e))(he:Tryz.prog.underlying e=some (.int k))(hc:Tryz.prog.cellsOf e=1)(hc2:Tryz.prog.cellsOf t=n)(hok:Value.okWide Tryz.prog W .any base t v)(h:DataW.Trod enc Tryz.prog W 0 (fun _=>true) true t v d ps):
  ∃f:Nat->Int,(∀i,i<n->(Lit.int k (f i)).wf=true)/\Rel (GW W) [] (.arr 1 n fun r j=>([.int k (f r)]:List V).getD j .undef) v:=by
 simp only[Value.okWide,ht]at hok;obtain⟨cs,rfl,hsz,-⟩:=hok;obtain⟨fuel,hn⟩:=h;obtain⟨xs,m,-,-,hl,hlen,hf⟩:=DataW.trod_array ht hn;have hs2:cs.size=n:=by rw[hsz,hc2]
 have el:∀i,i<n->∃a,cs.getD i Go.undef=.int k a/\(Lit.int k a).wf=true:=fun i hi=>by
  have h1:=hf i hi;have hx:xs[i]? =some xs[i]:=List.getElem?_eq_getElem (by omega);rw[hx,hc,Nat.mul_one]at h1;obtain⟨a,h2,-,hw⟩:=DataW.trod_int he h1;refine⟨a,?_,hw⟩
  have h3:((cs.toList.drop i).take 1)[0]? =some (.int k a):=by
   have e:(Value.agg cs).cells.toList=cs.toList:=rfl;rw[e]at h2;rw[h2];rfl
  rw[List.getElem?_take_of_lt (by omega),List.getElem?_drop,Nat.add_zero,Array.getElem?_toList]at h3;rw[aG,h3];rfl
 obtain⟨f,hf⟩:∃f:Nat->Int,∀i,i<n->cs.getD i Go.undef=.int k (f i)/\(Lit.int k (f i)).wf=true:=⟨fun i=>if h:i<n then(el i h).choose else 0,fun i hi=>by have:=(el i hi).choose_spec;simpa only[hi,dif_pos]using this⟩
 refine⟨f,fun i hi=>(hf i hi).2,.arr (by rw[hs2,Nat.mul_one]) fun r j hr hj=> ?_⟩;obtain rfl:j=0:=by omega
 rw[Nat.mul_one,Nat.add_zero,(hf r hr).1];exact .int _ _
theorem arg_arr2(hok:Value.okWide Tryz.prog W .any base 36 v)(h:DataW.Trod enc Tryz.prog W 0 (fun _=>true) true 36 v d ps)(_hb:Rows.uptoBulk d<=1048576):∃f:Nat->Int,Rel (GW W) [] (.arr 1 2 (rowsFn tint f)) v:=by
 obtain⟨f,-,hr⟩:=val_arr Tryz.underlying36 Tryz.underlying3 (by kernel_rfl) (by kernel_rfl) hok h;exact⟨f,hr⟩
theorem wf16{n:Int}(h:(Lit.int .u16 n).wf=true):0<=n/\n<=65535:=by simpa[Lit.wf,IntKind.min,IntKind.max,IntKind.signed,IntKind.bits]using h
theorem wf8{n:Int}(h:(Lit.int .u8 n).wf=true):0<=n/\n<=255:=by simpa[Lit.wf,IntKind.min,IntKind.max,IntKind.signed,IntKind.bits]using h
theorem arg_h2(hok:Value.okWide Tryz.prog W .any base 60 v)(h:DataW.Trod enc Tryz.prog W 0 (fun _=>true) true 60 v d ps)(_hb:Rows.uptoBulk d<=1048576):∃f:Nat->Int,(∀i,i<2->0<=f i/\f i<=65535)/\Rel (GW W) [] (.arr 1 2 (rowsFn tu16 f)) v:=by
 obtain⟨f,hf,hr⟩:=val_arr Tryz.underlying60 Tryz.underlying59 (by kernel_rfl) (by kernel_rfl) hok h;exact⟨f,fun i hi=>wf16 (hf i hi),hr⟩
theorem arg_h3(hok:Value.okWide Tryz.prog W .any base 80 v)(h:DataW.Trod enc Tryz.prog W 0 (fun _=>true) true 80 v d ps)(_hb:Rows.uptoBulk d<=1048576):∃f:Nat->Int,(∀i,i<3->0<=f i/\f i<=65535)/\Rel (GW W) [] (.arr 1 3 (rowsFn tu16 f)) v:=by
 obtain⟨f,hf,hr⟩:=val_arr Tryz.underlying80 Tryz.underlying59 (by kernel_rfl) (by kernel_rfl) hok h;exact⟨f,fun i hi=>wf16 (hf i hi),hr⟩
theorem arg_h4(hok:Value.okWide Tryz.prog W .any base 76 v)(h:DataW.Trod enc Tryz.prog W 0 (fun _=>true) true 76 v d ps)(_hb:Rows.uptoBulk d<=1048576):∃f:Nat->Int,(∀i,i<4->0<=f i/\f i<=65535)/\Rel (GW W) [] (.arr 1 4 (rowsFn tu16 f)) v:=by
 obtain⟨f,hf,hr⟩:=val_arr Tryz.underlying76 Tryz.underlying59 (by kernel_rfl) (by kernel_rfl) hok h;exact⟨f,fun i hi=>wf16 (hf i hi),hr⟩
theorem arg_b3(hok:Value.okWide Tryz.prog W .any base 90 v)(h:DataW.Trod enc Tryz.prog W 0 (fun _=>true) true 90 v d ps)(_hb:Rows.uptoBulk d<=1048576):∃f:Nat->Int,(∀i,i<3->0<=f i/\f i<=255)/\Rel (GW W) [] (.arr 1 3 (rowsFn tu8 f)) v:=by
 obtain⟨f,hf,hr⟩:=val_arr Tryz.underlying90 Tryz.underlying5 (by kernel_rfl) (by kernel_rfl) hok h;exact⟨f,fun i hi=>wf8 (hf i hi),hr⟩
theorem arg_b2(hok:Value.okWide Tryz.prog W .any base 92 v)(h:DataW.Trod enc Tryz.prog W 0 (fun _=>true) true 92 v d ps)(_hb:Rows.uptoBulk d<=1048576):∃f:Nat->Int,(∀i,i<2->0<=f i/\f i<=255)/\Rel (GW W) [] (.arr 1 2 (rowsFn tu8 f)) v:=by
 obtain⟨f,hf,hr⟩:=val_arr Tryz.underlying92 Tryz.underlying5 (by kernel_rfl) (by kernel_rfl) hok h;exact⟨f,fun i hi=>wf8 (hf i hi),hr⟩
theorem arg_str(hok:Value.okWide Tryz.prog W .any base 9 v)(h:DataW.Trod enc Tryz.prog W 0 (fun _=>true) true 9 v d ps)(_hb:Rows.uptoBulk d<=1048576):∃s:ByteArray,Rel (GW W) [] (.str s) v:=by
 have hv:v.cells.toList=[v]:=by
  simp only[Value.okWide,Tryz.underlying9,Cell.okWide,Cell.ok]at hok;cases v<;>first|rfl|simp at hok
 obtain⟨n,hn⟩:=h;rw[hv]at hn;obtain⟨s,hs,-,-⟩:=DataW.trod_string Tryz.underlying9 hn;obtain rfl:v=.string s:=by simpa using hs
 exact⟨s,.str s⟩
theorem arg_line(hok:Value.okWide Tryz.prog W .any base 66 v)(h:DataW.Trod enc Tryz.prog W 0 (fun _=>true) true 66 v d ps)(hb:Rows.uptoBulk d<=1048576):∃x,Rel (GW W) [] (.agg (tLine.cells x)) v:=by
 obtain⟨vs,⟨x,rfl⟩,hr⟩:=val_struct Tryz.underlying66 hok h oLine hb;exact⟨x,hr⟩
end
theorem own:ownKnob Tryz.prog.godebug=none:=by kernel_rfl
theorem laidOut:laidOutB Tryz.prog=true:=by kernel_rfl
abbrev noBook:Value:=.agg #[.slice none 0 0,.slice none 0 0,.slice none 0 0]
abbrev noBookD{H:Type}:DataW H:=.agg [.nil,.nil,.nil]
end Go.Proofs.YtemgodefhcbleaaGreat
