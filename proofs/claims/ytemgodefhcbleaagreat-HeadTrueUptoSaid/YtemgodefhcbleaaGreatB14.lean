/-
  Part of the proof of the Head laws. Conditions: those that stand in each theorem.
-/
import Derived.Test.YtemgodefhcbleaaGreatB13
set_option linter.unusedSimpArgs false
set_option linter.unusedVariables false
set_option maxRecDepth 100000
namespace Go.Proofs.YtemgodefhcbleaaGreat
open Ab Go
noncomputable section
def bitsN(n:Nat)(i:Int):List Int:=((List.range n).filter (bitB i)).map fun(j:Nat)=>(j:Int)
def numL(l:List Int):Nat:=l.foldl (fun s x=>s+2^x.toNat) 0
theorem picks_sorted:∀n:Fin 9,∀k:Fin 9,((picks (n.val:Int) k.val).Pairwise fun a b=>cmpL a b<0):=by decide+kernel
theorem picks_num:∀n:Fin 9,∀k:Fin 9,∀l∈picks (n.val:Int) k.val,bitsN n.val (numL l:Int)=l/\numL l<2^n.val:=by decide+kernel
theorem bits_picks{n:Nat}(i:Int):bitsN n i∈picks (n:Int) (bitsN n i).length:=by
 rw[picks_ok];refine⟨rfl,?_,fun x hx=> ?_,fun x hx=> ?_⟩
 ·unfold bitsN;rw[List.pairwise_map];exact((List.pairwise_lt_range).filter _).imp fun h=>by omega
 ·unfold bitsN at hx;obtain⟨j,hj,rfl⟩:=List.mem_map.1 hx;omega
 ·unfold bitsN at hx;obtain⟨j,hj,rfl⟩:=List.mem_map.1 hx;have:=List.mem_range.1 (List.mem_filter.1 hj).1;omega
theorem bitsN_len(n:Nat)(i:Int):(bitsN n i).length<=n:=by
 unfold bitsN;rw[List.length_map];exact Nat.le_trans (List.length_filter_le _ _) (by simp)
structure First36(b:Book)(n:Nat)(W:List Int):Prop where
 mem:W∈picks (n:Int) W.length
 len:W.length<=n
 can:canR b W=true
 least:∀l,l∈picks (n:Int) l.length->l.length<=n->canR b l=true->W.length<l.length\/(W.length=l.length/\cmpL W l<=0)
theorem first_from{b:Book}{n:Nat}(hn:n<=8)(full:∀l∈picks (n:Int) n,canR b l=true):∀(k many:Nat),many+k=n->(∀l,l∈picks (n:Int) l.length->l.length<many->canR b l=false)->First36 b n (wrongFrom b n k many)
 |0,many,hk,hno=>by
  obtain rfl:many=n:=by omega
  have hpos:=picks_pos many;have e:wrongFrom b many 0 many=(picks (many:Int) many).getD 0 []:=rfl;have hm:(picks (many:Int) many).getD 0 []∈picks (many:Int) many:=getD_mem [] _ 0 hpos;rw[e];generalize(picks (many:Int) many).getD 0 []=W at*
  have hl:W.length=many:=((picks_ok _ _ _).1 hm).len;refine⟨by rw[hl];exact hm,by omega,full W hm,fun l h1 h2 h3=> ?_⟩;right
  have hlt:¬l.length<many:=fun q=>by rw[hno l h1 q]at h3;cases h3
  have hle:l.length=many:=by omega
  refine⟨by omega,?_⟩;rw[hle]at h1;have:∀m:Fin 9,∀a∈picks (m.val:Int) m.val,∀c∈picks (m.val:Int) m.val,cmpL a c<=0:=by decide+kernel
  exact this ⟨many,by omega⟩ W hm l h1
 |k+1,many,hk,hno=>by
  unfold wrongFrom
  cases hf:(picks (n:Int) many).find? (canR b)with
  |none=>
   simp only;refine first_from hn full k (many+1) (by omega) fun l h1 h2=> ?_;by_cases hlt:l.length<many
   ·exact hno l h1 hlt
   ·have hle:l.length=many:=by omega
    rw[hle]at h1;have:=List.find?_eq_none.1 hf l h1
    cases hc:canR b l with
    |false=>rfl
    |true=>exact absurd hc this
  |some W=>
   simp only;obtain⟨hc,l1_,l2_,hs,hno2⟩:=List.find?_eq_some_iff_append.1 hf;have hm:W∈picks (n:Int) many:=by rw[hs];simp
   have hl:W.length=many:=((picks_ok _ _ _).1 hm).len;refine⟨by rw[hl];exact hm,by omega,hc,fun l h1 h2 h3=> ?_⟩;by_cases hlt:l.length<many
   ·rw[hno l h1 hlt]at h3;cases h3
   by_cases hgt:many<l.length
   ·left;omega
   ·right
    have hle:l.length=many:=by omega
    refine⟨by omega,?_⟩;rw[hle,hs]at h1;rcases List.mem_append.1 h1 with q|q
    ·have:=hno2 l q;rw[h3]at this;cases this
    rcases List.mem_cons.1 q with q|q
    ·rw[q];have:∀a:List Int,cmpL a a=0:=fun a=>by have:=cmpL_anti a a;omega
     rw[this];exact Int.le_refl _
    ·have hp:=picks_sorted ⟨n,by omega⟩ ⟨many,by omega⟩;simp only at hp;rw[hs]at hp;have:=(List.pairwise_append.1 hp).2.1;exact Int.le_of_lt ((List.pairwise_cons.1 this).1 l q)
def worseR(l W:List Int):Bool:=decide ((W.length:Int)<l.length)||((l.length:Int)==W.length&&decide (0<cmpL l W))
def bestQS(b:Book)(s:List Int × Bool)(i:Nat):List Int × Bool:=
 if s.2=true/\worseR (bitsN b.lines.length i) s.1=true then s else if canR b (bitsN b.lines.length i)=true then(bitsN b.lines.length i,true)else s
def bestQ(b:Book)(i:Nat):List Int × Bool:=(List.range i).foldl (bestQS b) ([],false)
theorem bestQ_succ(b:Book)(i:Nat):bestQ b (i+1)=bestQS b (bestQ b i) i:=by unfold bestQ;rw[List.range_succ,List.foldl_append];rfl
theorem best_can(b:Book):∀i,(bestQ b i).2=true->(∃j,j<i/\(bestQ b i).1=bitsN b.lines.length j)/\canR b (bestQ b i).1=true
 |0,h=>by cases h
 |i+1,h=>by
  rw[bestQ_succ]at h⊢;unfold bestQS at h⊢;split
  ·rename_i hc;rw[if_pos hc]at h;obtain⟨⟨j,h1,h2⟩,h3⟩:=best_can b i h;exact⟨⟨j,by omega,h2⟩,h3⟩
  ·rename_i hc;rw[if_neg hc]at h;split
   ·rename_i hcan;exact⟨⟨i,by omega,rfl⟩,hcan⟩
   ·rename_i hcan;rw[if_neg hcan]at h;obtain⟨⟨j,h1,h2⟩,h3⟩:=best_can b i h;exact⟨⟨j,by omega,h2⟩,h3⟩
theorem worse_iff{l W:List Int}:worseR l W=true↔W.length<l.length\/(l.length=W.length/\0<cmpL l W):=by
 unfold worseR;rw[Bool.or_eq_true,Bool.and_eq_true,decide_eq_true_eq,decide_eq_true_eq,beq_iff_eq];omega
theorem best_end{b:Book}(hn:b.lines.length<=8){W:List Int}(hW:First36 b b.lines.length W):(bestQ b (2^b.lines.length)).1=W:=by
 obtain⟨hb1,hb2⟩:=picks_num ⟨b.lines.length,by omega⟩ ⟨W.length,by have:=hW.len;omega⟩ W hW.mem;simp only at hb1 hb2;have least:=fun j:Nat=>hW.least (bitsN b.lines.length j) (bits_picks j) (bitsN_len _ _)
 have hat:bestQ b (numL W+1)=(W,true):=by
  rw[bestQ_succ];unfold bestQS;rw[hb1];by_cases hc:(bestQ b (numL W)).2=true/\worseR W (bestQ b (numL W)).1=true
  ·exfalso
   obtain⟨⟨j,h1,h2⟩,h3⟩:=best_can b _ hc.1;have hw:=worse_iff.1 hc.2;rw[h2]at hw h3;rcases least j h3 with q|⟨q1,q2⟩
   ·rcases hw with w|w<;>omega
   ·rcases hw with w|w<;>omega
  ·rw[if_neg hc,if_pos hW.can]
 have hon:∀m,bestQ b (numL W+1+m)=(W,true):=fun m=>by
  induction m with
  |zero=>exact hat
  |succ m ih=>
   rw[show numL W+1+(m+1)=(numL W+1+m)+1 by omega,bestQ_succ,ih];unfold bestQS;by_cases hc:(true=true)/\worseR (bitsN b.lines.length (numL W+1+m:Nat)) W=true
   ·rw[if_pos hc]
   ·rw[if_neg hc];by_cases hcan:canR b (bitsN b.lines.length (numL W+1+m:Nat))=true
    ·rw[if_pos hcan];have hw:¬(W.length<(bitsN b.lines.length (numL W+1+m:Nat)).length\/((bitsN b.lines.length (numL W+1+m:Nat)).length=W.length/\0<cmpL (bitsN b.lines.length (numL W+1+m:Nat)) W)):=fun q=>hc ⟨rfl,worse_iff.2 q⟩;have ha:=cmpL_anti W (bitsN b.lines.length (numL W+1+m:Nat))
     have:cmpL W (bitsN b.lines.length (numL W+1+m:Nat))=0:=by
      rcases least (numL W+1+m) hcan with q|⟨q1,q2⟩<;>omega
     rw[<-cmpL_zero this]
    ·rw[if_neg hcan]
 have:=hon (2^b.lines.length-(numL W+1));rw[show numL W+1+(2^b.lines.length-(numL W+1))=2^b.lines.length by omega]at this;rw[this]
theorem full_can{b:Book}(h:OkBook b){l:List Int}(hl:∀i,i<b.lines.length->hasN l (i:Int)=true):canR b l=true:=by
 have:∀i,i<=b.lines.length->0<(truthsTo b l i).length:=by
  intro i
  induction i with
  |zero=>intro _;simp[truthsTo]
  |succ i ih=>
   intro hi;obtain⟨t,ht⟩:=List.exists_mem_of_length_pos (ih (by omega));have hpos:=pairs_pos (h.line (i:=i) (by omega))
   have hmem:(⟨t.pairs++ [(pairsR (b.lines.getD i zLine)).getD 0 zPair],t.haves++ [t.haves.getD i []]⟩:Truth)∈truthsTo b l (i+1):=by
    rw[truthsTo,List.mem_flatMap];refine⟨t,ht,?_⟩;unfold stepT;rw[List.mem_flatMap];refine⟨0,List.mem_range.2 hpos,?_⟩;unfold waysR;rw[if_pos (hl i (by omega)),if_pos rfl];exact List.mem_singleton.2 rfl
   exact List.length_pos_of_mem hmem
 unfold canR;exact decide_eq_true (this _ (Nat.le_refl _))
theorem picks_full:∀n:Fin 9,∀l∈picks (n.val:Int) n.val,∀i:Fin n.val,hasN l (i.val:Int)=true:=by decide+kernel
theorem wrong_best{b:Book}(h:OkBook b):(bestQ b (2^b.lines.length)).1=wrongFrom b b.lines.length b.lines.length 0:=
 best_end h.nl (first_from h.nl (fun l hl=>full_can h fun i hi=>picks_full ⟨b.lines.length,by have:=h.nl;omega⟩ l hl ⟨i,hi⟩) b.lines.length 0 (by omega) fun l _ q=>by omega)
inductive P36y
 |e
 |l0 (x0_2:List Int) (x0_5:Bool) (x0_21:Int)
 |l1 (x0_2:List Int) (x0_5:Bool) (x0_21:Int) (x1_27:Int) (a1_1:List Int)
inductive R36y
 |r0 (r1:Int)
 |r1 (r0:List Int) (r1:Int)
def T36y(b:Book):P36y->Tr P36y R36y
 |.e=>(.call 88 [.agg (cC b)] (.tuple [lk (lookOf b),iI 0]) true true (.br ((0:Int) !=(0:Int)) (.out (.r0 0)) (.need (decide (0<=(b.lines.length:Int))&&inR .i64 ((1:Int)*2^(min ((b.lines.length:Int)).toNat 64))) (.wait 1 (.vle 2 .nils (tint.lst ([]:List Int)) (.go (.l0 ([]:List Int) false 0)))))))
 |.l0 x0_2 x0_5 x0_21=>(.br (decide (x0_21<((1:Int)*2^(min ((b.lines.length:Int)).toNat 64)))) (.wait 7 (.own 7 3 1 (.go (.l1 x0_2 x0_5 x0_21 0 ([]))))) (.out (.r1 x0_2 0)))
 |.l1 x0_2 x0_5 x0_21 x1_27 a1_1=>let c2:Tr P36y R36y:=.need (inR .i64 (x0_21+(1:Int))) (.go (.l0 x0_2 x0_5 (x0_21+(1:Int))));let c1:Tr P36y R36y:=.call 90 [lk (lookOf b),iI x0_21] (.bool (decide (0<(truthsR b (butL b x0_21)).length))) true true (.br (decide (0<(truthsR b (butL b x0_21)).length)) (.need (inR .i64 (x0_21+(1:Int))) (.go (.l0 a1_1.reverse true (x0_21+(1:Int))))) c2);let c3:=x1_27+(1:Int);let c4:=(a1_1.reverse.length:Int);(.br (decide (x1_27<(b.lines.length:Int))) (.need (decide (0<=x1_27)) (.br ((bitsOf .and .i64 (x0_21.fdiv (2^(min (x1_27).toNat 64))) (1:Int))==(1:Int)) (.need ((decide (a1_1.length=a1_1.length)&&decide (a1_1.length+1<=4294967296))&&decide (1<=1)) (.scal (fun _=>true) (.need (inR .i64 c3) (.go (.l1 x0_2 x0_5 x0_21 c3 (x1_27::a1_1)))))) (.need (inR .i64 c3) (.go (.l1 x0_2 x0_5 x0_21 c3 a1_1))))) (.wait 3 (.frz 1 ((decide (a1_1.length<=a1_1.length))&&true) (.vle 7 (.list 1 a1_1.length (rowsRev tint a1_1)) (tint.lst a1_1.reverse) (.br x0_5 (.br (decide (c4>(x0_2.length:Int))) (.lit true (.lit true (.lit true c2))) (.br (c4==(x0_2.length:Int)) (.call 89 [tint.lst a1_1.reverse,tint.lst x0_2] (iI (cmpL a1_1.reverse x0_2)) true true (.lit false (.lit true (.br (decide ((cmpL a1_1.reverse x0_2)>(0:Int))) c2 c1)))) (.lit false (.lit true (.lit false c1))))) (.lit false (.lit false c1)))))))
noncomputable def g36y(b:Book):P36y->List Item × St
 |.e=>bd Tryz.f36 [.agg (cC b)] 66
 |.l0 x0_2 x0_5 x0_21=>(cutOf Tryz.f36 0,⟨mk 67 [(1,.ref 0 0 0),(2,tint.lst x0_2),(4,lk (lookOf b)),(5,.bool x0_5),(20,iI ((1:Int)*2^(min ((b.lines.length:Int)).toNat 64))),(21,iI x0_21)],[.cells (cC b)],[]⟩)
 |.l1 x0_2 x0_5 x0_21 x1_27 a1_1=>(cutOf Tryz.f36 1,⟨mk 67 [(1,.ref 0 0 0),(2,tint.lst x0_2),(4,lk (lookOf b)),(5,.bool x0_5),(6,iI x0_21),(7,.row 1 a1_1.length),(20,iI ((1:Int)*2^(min ((b.lines.length:Int)).toNat 64))),(21,iI x0_21),(26,iI (b.lines.length:Int)),(27,iI x1_27)],[.cells (cC b),.rows 3 1 a1_1.length (rowsRev tint a1_1)],[]⟩)
def n36y(b:Book):R36y->Exit × St
 |.r0 r1=>(.ret,⟨mk 67 [(2,.nils),(3,iI r1)],[],[]⟩)
 |.r1 r0 r1=>(.ret,⟨mk 67 [(2,tint.lst r0),(3,iI r1)],[],[]⟩)
def v36y(b:Book):R36y->V
 |.r0 r1=>.tuple [tint.lst ([]:List Int),iI r1]
 |.r1 r0 r1=>.tuple [tint.lst r0,iI r1]
theorem s36y(b:Book):Sm 0 (g36y b) (T36y b) (n36y b)
 |.e=>⟨400,by kernel_rfl⟩
 |.l0 _ _ _=>⟨400,by kernel_rfl⟩
 |.l1 _ _ _ _ _=>⟨400,by kernel_rfl⟩
theorem q36y(b:Book):∀r,bodyQ Tryz.prog Tryz.f36 (·=v36y b r) (n36y b r).1 (n36y b r).2
 |.r0 r1=>⟨.inr rfl,by simp[n36y],(.tuple [.nils,iI r1]),(.tuple [tint.lst ([]:List Int),iI r1]),by kernel_rfl,(.tuple rfl fun j hj=>match j,hj with|0,_=>.weak (.imm rfl) VLe.nils|1,_=>.imm rfl),rfl⟩
 |.r1 r0 r1=>bq (.tuple [tint.lst r0,iI r1]) (by kernel_rfl)
theorem w36y(b:Book){post:V->Prop}(h:WP Tryz.prog ⟨none,0⟩ (T36y b) (Ends' fun r=>post (v36y b r)) .e):PC 36 [.agg (cC b)] post:=
 PCalls.wq Tryz.func36 (s36y b) (q36y b) h
inductive P36n
 |e
inductive R36n
 |r0 (r1:Int)
def T36n(b:Book):P36n->Tr P36n R36n
 |.e=>(.call 88 [.agg (cC b)] (.tuple [.nil,iI ((bookCheck b).2.2)]) true true (.br ((bookCheck b).2.2 !=(0:Int)) (.out (.r0 ((bookCheck b).2.2))) (.wait 5 .never)))
noncomputable def g36n(b:Book):P36n->List Item × St
 |.e=>bd Tryz.f36 [.agg (cC b)] 66
def n36n(b:Book):R36n->Exit × St
 |.r0 r1=>(.ret,⟨mk 67 [(2,.nils),(3,iI r1)],[],[]⟩)
def v36n(b:Book):R36n->V
 |.r0 r1=>.tuple [tint.lst ([]:List Int),iI r1]
theorem s36n(b:Book):Sm 0 (g36n b) (T36n b) (n36n b)
 |.e=>⟨400,by kernel_rfl⟩
theorem q36n(b:Book):∀r,bodyQ Tryz.prog Tryz.f36 (·=v36n b r) (n36n b r).1 (n36n b r).2
 |.r0 r1=>⟨.inr rfl,by simp[n36n],(.tuple [.nils,iI r1]),(.tuple [tint.lst ([]:List Int),iI r1]),by kernel_rfl,(.tuple rfl fun j hj=>match j,hj with|0,_=>.weak (.imm rfl) VLe.nils|1,_=>.imm rfl),rfl⟩
theorem w36n(b:Book){post:V->Prop}(h:WP Tryz.prog ⟨none,0⟩ (T36n b) (Ends' fun r=>post (v36n b r)) .e):PC 36 [.agg (cC b)] post:=
 PCalls.wq Tryz.func36 (s36n b) (q36n b) h
def bitsK(i:Int)(k:Nat):List Int:=((List.range k).filter (bitB i)).map fun(j:Nat)=>(j:Int)
theorem bitsK_y{i:Int}{k:Nat}(h:bitB i k=true):(bitsK i (k+1)).reverse=(k:Int)::(bitsK i k).reverse:=by
 unfold bitsK;rw[List.range_succ,List.filter_append];simp[h]
theorem bitsK_n{i:Int}{k:Nat}(h:bitB i k=false):bitsK i (k+1)=bitsK i k:=by
 unfold bitsK;rw[List.range_succ,List.filter_append];simp[h]
theorem bitsK_len(i:Int)(k:Nat):(bitsK i k).length<=k:=by
 unfold bitsK;rw[List.length_map];exact Nat.le_trans (List.length_filter_le _ _) (by simp)
theorem best_len{b:Book}:∀i,(bestQ b i).1.length<=b.lines.length
 |0=>by simp[bestQ]
 |i+1=>by
  rw[bestQ_succ];unfold bestQS;split
  ·exact best_len i
  ·split
   ·exact bitsN_len _ _
   ·exact best_len i
set_option maxHeartbeats 4000000 in
theorem c36(b:Book):PC 36 [.agg (tBook.cells b)] (·=.tuple [tint.lst (wrongR b).1,iI (wrongR b).2]):=by
 by_cases h0:(bookCheck b).2.2=0
 ·have hok:=okBook h0;have hnl:=hok.nl;have k88:=c88y b h0;have k90:=fun but=>c90 b hok but;have hP:wrongR b=((bestQ b (2^b.lines.length)).1,0):=by unfold wrongR;rw[if_neg (fun q=>q h0),wrong_best hok]
  have hpw:(1:Int)*2^(min b.lines.length 64)=((2^b.lines.length:Nat):Int):=by
   rw[Nat.min_eq_left (by omega),Int.one_mul];exact_mod_cast rfl
  have hle:2^b.lines.length<=256:=by
   have:=Nat.pow_le_pow_right (n:=2) (by decide) hnl;exact this
  have hr0:inR .i64 ((2^b.lines.length:Nat):Int)=true:=by
   generalize 2^b.lines.length=N2 at*
   exact inR64 (by omega) (by omega)
  have hmain:WP Tryz.prog ⟨none,0⟩ (T36y b) (Ends' fun r=>v36y b r=.tuple [tint.lst (bestQ b (2^b.lines.length)).1,iI 0]) (.l0 [] false 0):=by
   refine WP.run (fun i=>.l0 (bestQ b i).1 (bestQ b i).2 (i:Int)) rfl (2^b.lines.length) (fun i hi=> ?_) ?_
   ·have hr:inR .i64 ((i:Int)+1)=true:=inR64 (by omega) (by omega);have hi':(i:Int)<((2^b.lines.length:Nat):Int):=by exact_mod_cast hi
    have hci:((i+1:Nat):Int)=(i:Int)+1:=by omega
    rw[bestQ_succ];have hbl:=best_len (b:=b) i;have hcan:decide (0<(truthsR b (butL b (i:Int))).length)=canR b (bitsN b.lines.length i):=rfl;have k90i:=k90 (i:Int);rw[hcan]at k90i;have hln:=bitsN_len b.lines.length (i:Int);have k89:=c89g (bitsN b.lines.length i) (bestQ b i).1 (by omega) (by omega);unfold bestQS;have hwr:worseR (bitsN b.lines.length i) (bestQ b i).1=(decide (((bestQ b i).1.length:Int)<(bitsN b.lines.length i).length)||(((bitsN b.lines.length i).length:Int)==(bestQ b i).1.length&&decide (0<cmpL (bitsN b.lines.length i) (bestQ b i).1))):=rfl
    generalize hs:bestQ b i=s at*
    obtain⟨W,fo⟩:=s;simp only at*;refine WP.step ?_;simp only[T36y,Go,Ends',v36y,Tr.sure,SS,hpw,hi',Int.toNat_natCast];repeat' with_reducible first|intro _|apply aI
    refine WP.run (fun k=>.l1 W fo (i:Int) (k:Int) (bitsK (i:Int) k).reverse) rfl b.lines.length (fun k hk=> ?_) ?_
    ·have hr2:inR .i64 ((k:Int)+1)=true:=inR64 (by omega) (by omega);have hk':(k:Int)<b.lines.length:=by omega
     have htl:=bitsK_len (i:Int) k;have hal:(bitsK (i:Int) k).reverse.length+1<=4294967296:=by rw[List.length_reverse];omega
     have hbe:((bitsOf .and .i64 ((i:Int).fdiv (2^(min k 64))) (1:Int))==(1:Int))=bitB (i:Int) k:=rfl
     cases hb:bitB (i:Int) k with
     |true=>
      rw[bitsK_y hb];generalize(bitsK (i:Int) k).reverse=A at*
      rw[hb]at hbe;refine WP.once ?_;simp only[T36y,Tr.sure,SS,hk',hbe,Int.toNat_natCast];repeat' with_reducible first|intro _|apply aI
      all_goals simp[hr2,hal,Go,Ends',v36y,-List.getD_eq_getElem?_getD, *]
     |false=>
      rw[bitsK_n hb];generalize(bitsK (i:Int) k).reverse=A at*
      rw[hb]at hbe;refine WP.once ?_;simp only[T36y,Tr.sure,SS,hk',hbe,Int.toNat_natCast];repeat' with_reducible first|intro _|apply aI
      all_goals simp[hr2,Go,Ends',v36y,-List.getD_eq_getElem?_getD, *]
    ·have e:(bitsK (i:Int) b.lines.length).reverse.reverse=bitsN b.lines.length i:=by rw[List.reverse_reverse];rfl
     generalize(bitsK (i:Int) b.lines.length).reverse=A at*
     generalize hL:bitsN b.lines.length (i:Int)=L at*
     have hvr:VLe (.list 1 A.length (rowsRev tint A)) (tint.lst L):=by rw[<-e];exact VLe.rev tint A
     have hcan':decide (0<(truthsR b (butL b (i:Int))).length)=canR b L:=hcan
     cases fo with
     |false=>
      rw[if_neg (fun q=>Bool.false_ne_true q.1)]
      cases hc:canR b L with
      |true=>
       rw[if_pos rfl];rw[hc]at k90i hcan';refine WP.once ?_;simp only[T36y,Tr.sure,SS,e,hcan',Int.lt_irrefl,hci];repeat' with_reducible first|intro _|apply aI
       all_goals first|exact hvr|exact k90i|(simp[hr,e,Go,Ends',v36y,-List.getD_eq_getElem?_getD, *];done)
      |false=>
       rw[if_neg Bool.false_ne_true];rw[hc]at k90i hcan';refine WP.once ?_;simp only[T36y,Tr.sure,SS,e,hcan',Int.lt_irrefl,hci];repeat' with_reducible first|intro _|apply aI
       all_goals first|exact hvr|exact k90i|(simp[hr,e,Go,Ends',v36y,-List.getD_eq_getElem?_getD, *];done)
     |true=>
      by_cases g1:(W.length:Int)<L.length
      ·have hw:worseR L W=true:=by rw[hwr,decide_eq_true g1];rfl
       rw[if_pos ⟨rfl,hw⟩];refine WP.once ?_;simp only[T36y,Tr.sure,SS,e,g1,Int.lt_irrefl,hci];repeat' with_reducible first|intro _|apply aI
       all_goals first|exact hvr|(simp[hr,e,g1,Go,Ends',v36y,-List.getD_eq_getElem?_getD, *];done)
      ·by_cases g2:(L.length:Int)=W.length
       ·have g2':((L.length:Int)==W.length)=true:=by rw[beq_iff_eq];exact g2
        by_cases g3:0<cmpL L W
        ·have hw:worseR L W=true:=by rw[hwr,decide_eq_true g3,g2'];simp
         rw[if_pos ⟨rfl,hw⟩];refine WP.once ?_;simp only[T36y,Tr.sure,SS,e,g1,g2',g3,Int.lt_irrefl,hci];repeat' with_reducible first|intro _|apply aI
         all_goals first|exact hvr|exact k89|(simp[hr,e,g3,Go,Ends',v36y,-List.getD_eq_getElem?_getD, *];done)
        ·have hw:¬worseR L W=true:=by rw[hwr,decide_eq_false g3,decide_eq_false g1];simp
         rw[if_neg (fun q=>hw q.2)]
         cases hc:canR b L with
         |true=>
          rw[if_pos rfl];rw[hc]at k90i hcan';refine WP.once ?_;simp only[T36y,Tr.sure,SS,e,hcan',g1,g2',g3,Int.lt_irrefl,hci];repeat' with_reducible first|intro _|apply aI
          all_goals first|exact hvr|exact k89|exact k90i|(simp[hr,e,Go,Ends',v36y,-List.getD_eq_getElem?_getD, *];done)
         |false=>
          rw[if_neg Bool.false_ne_true];rw[hc]at k90i hcan';refine WP.once ?_;simp only[T36y,Tr.sure,SS,e,hcan',g1,g2',g3,Int.lt_irrefl,hci];repeat' with_reducible first|intro _|apply aI
          all_goals first|exact hvr|exact k89|exact k90i|(simp[hr,e,Go,Ends',v36y,-List.getD_eq_getElem?_getD, *];done)
       ·have g2':((L.length:Int)==W.length)=false:=by rw[beq_eq_false_iff_ne];exact g2
        have hw:¬worseR L W=true:=by rw[hwr,g2',decide_eq_false g1];simp
        rw[if_neg (fun q=>hw q.2)]
        cases hc:canR b L with
        |true=>
         rw[if_pos rfl];rw[hc]at k90i hcan';refine WP.once ?_;simp only[T36y,Tr.sure,SS,e,hcan',g1,g2',Int.lt_irrefl,hci];repeat' with_reducible first|intro _|apply aI
         all_goals first|exact hvr|exact k90i|(simp[hr,e,Go,Ends',v36y,-List.getD_eq_getElem?_getD, *];done)
        |false=>
         rw[if_neg Bool.false_ne_true];rw[hc]at k90i hcan';refine WP.once ?_;simp only[T36y,Tr.sure,SS,e,hcan',g1,g2',Int.lt_irrefl,hci];repeat' with_reducible first|intro _|apply aI
         all_goals first|exact hvr|exact k90i|(simp[hr,e,Go,Ends',v36y,-List.getD_eq_getElem?_getD, *];done)
   ·refine WP.step ?_;simp only[T36y,Go,Ends',v36y,Tr.sure,SS,hpw,Int.lt_irrefl,Int.toNat_natCast];repeat' with_reducible first|intro _|apply aI
  rw[hP];refine w36y b (WP.step ?_);simp only[T36y,Go,Ends',v36y,Tr.sure,SS,hpw,Int.toNat_natCast];repeat' with_reducible first|intro _|apply aI
  all_goals first|exact k88|exact hmain|exact VLe.nils|(simp_all [hr0,Go,Ends',v36y,-List.getD_eq_getElem?_getD];done)
 ·have hP:wrongR b=([],(bookCheck b).2.2):=by unfold wrongR;rw[if_pos h0]
  have k88:=c88n b h0;rw[hP];refine w36n b (WP.step ?_);simp only[T36n,Go,Ends',v36n,Tr.sure,SS,h0];repeat' with_reducible first|intro _|apply aI
  all_goals exact k88
end
noncomputable section
structure Stretch where
 line:Int
 body:Int
 as_:ByteArray
 span:Span
def zStretch:Stretch:=⟨0,0,ByteArray.empty,zSpan⟩
def tStretch:Ty Stretch:=⟨5,fun x=>[iI x.line,iI x.body,.str x.as_,iI x.span.lo,iI x.span.hi],zStretch⟩
def goesOn(s:Stretch)(dy:Int)(y:Stretch):Bool:=(y.line==s.line)&&((y.body==s.body)&&((y.as_.toList==s.as_.toList)&&(((y.span.lo==y.span.lo)&&((y.span.hi==(dy-(1:Int)))&&true))&&true)))
def idxS(s:Stretch)(dy:Int)(l:List Stretch):Int:=match firstI (goesOn s dy) 0 l with|some i=>(i:Int)|none=> -1
def setL(l:List Stretch)(i d:Int):List Stretch:=l.set i.toNat {l.getD i.toNat zStretch with span:=⟨(l.getD i.toNat zStretch).span.lo,d⟩}
def setS(A:List Stretch)(i d:Int):List Stretch:=(setL A.reverse i d).reverse
theorem setS_len(A:List Stretch)(i d:Int):(setS A i d).length=A.length:=by simp[setS,setL]
inductive P116
 |e
inductive R116
 |r0 (r0:Bool)
def T116(s0:Stretch)(dy:Int)(y:Stretch):P116->Tr P116 R116
 |.e=>(.need (inR .i64 (dy-(1:Int))) (.out (.r0 ((y.line==s0.line)&&((y.body==s0.body)&&((y.as_.toList==s0.as_.toList)&&(((y.span.lo==y.span.lo)&&((y.span.hi==(dy-(1:Int)))&&true))&&true)))))))
noncomputable def g116(s0:Stretch)(dy:Int)(y:Stretch):P116->List Item × St
 |.e=>bd Tryz.f116 [.agg [iI y.line,iI y.body,.str y.as_,iI y.span.lo,iI y.span.hi],.cref 5 fun q=>([iI s0.line,iI s0.body,.str s0.as_,iI s0.span.lo,iI s0.span.hi]:List V).getD q uU,rR (iI dy)] 17
def n116:R116->Exit × St
 |.r0 r0=>(.ret,⟨mk 20 [(4,.bool r0)],[],[]⟩)
def v116:R116->V
 |.r0 r0=>.bool r0
theorem s116(s0:Stretch)(dy:Int)(y:Stretch):Sm 0 (g116 s0 dy y) (T116 s0 dy y) (n116)
 |.e=>⟨400,by kernel_rfl⟩
theorem q116:∀r,bodyQ Tryz.prog Tryz.f116 (·=v116 r) (n116 r).1 (n116 r).2
 |.r0 r0=>bq (.bool r0) (by kernel_rfl)
theorem w116(s0:Stretch)(dy:Int)(y:Stretch){post:V->Prop}(h:WQ (T116 s0 dy y) v116 post .e):PC 116 [.agg [iI y.line,iI y.body,.str y.as_,iI y.span.lo,iI y.span.hi],.cref 5 fun q=>([iI s0.line,iI s0.body,.str s0.as_,iI s0.span.lo,iI s0.span.hi]:List V).getD q uU,rR (iI dy)] post:=
 PCalls.wq Tryz.func116 (s116 s0 dy y) q116 h
theorem c116(s0:Stretch)(dy:Int)(y:Stretch)(hr:inR .i64 (dy-1)=true):PC 116 [.agg (tStretch.cells y),.cref 5 fun q=>(tStretch.cells s0).getD q uU,rR (iI dy)] (·=.bool (goesOn s0 dy y)):=by
 refine w116 s0 dy y (WP.step ?_);simp only[T116,Go,Ends',v116,Tr.sure,SS];repeat' with_reducible first|intro _|apply aI
 all_goals simp[hr,goesOn,Go,Ends',v116,-List.getD_eq_getElem?_getD, *]
 all_goals exact rfl
inductive P115
 |e
 |l0 (x0_8:Int)
inductive R115
 |r0 (r0:Int)
def T115(s0:Stretch)(dy:Int)(l:List Stretch):P115->Tr P115 R115
 |.e=>(.go (.l0 0))
 |.l0 x0_8=>let c1:=l.getD (x0_8).toNat tStretch.zero;(.br (decide (x0_8<(l.length:Int))) (.need (decide (0<=x0_8)&&decide (x0_8<(l.length:Int))) (.call 116 [.agg [iI (c1.line),iI (c1.body),.str (c1.as_),iI (c1.span.lo),iI (c1.span.hi)],.cref 5 fun q=>([iI s0.line,iI s0.body,.str s0.as_,iI s0.span.lo,iI s0.span.hi]:List V).getD q uU,rR (iI dy)] (.bool (goesOn s0 dy c1)) true true (.br (goesOn s0 dy c1) (.out (.r0 x0_8)) (.need (inR .i64 (x0_8+(1:Int))) (.go (.l0 (x0_8+(1:Int)))))))) (.out (.r0 (-1))))
noncomputable def g115(s0:Stretch)(dy:Int)(l:List Stretch):P115->List Item × St
 |.e=>bd Tryz.f115 [tStretch.lst l,fG 116 [.cref 5 fun q=>([iI s0.line,iI s0.body,.str s0.as_,iI s0.span.lo,iI s0.span.hi]:List V).getD q uU,rR (iI dy)]] 17
 |.l0 x0_8=>(cutOf Tryz.f115 0,⟨mk 19 [(0,tStretch.lst l),(1,fG 116 [.cref 5 fun q=>([iI s0.line,iI s0.body,.str s0.as_,iI s0.span.lo,iI s0.span.hi]:List V).getD q uU,rR (iI dy)]),(7,iI (l.length:Int)),(8,iI x0_8)],[],[]⟩)
def n115:R115->Exit × St
 |.r0 r0=>(.ret,⟨mk 19 [(4,iI r0)],[],[]⟩)
def v115:R115->V
 |.r0 r0=>iI r0
theorem s115(s0:Stretch)(dy:Int)(l:List Stretch):Sm 0 (g115 s0 dy l) (T115 s0 dy l) (n115)
 |.e=>⟨400,by kernel_rfl⟩
 |.l0 _=>⟨400,by kernel_rfl⟩
theorem q115:∀r,bodyQ Tryz.prog Tryz.f115 (·=v115 r) (n115 r).1 (n115 r).2
 |.r0 r0=>bq (iI r0) (by kernel_rfl)
theorem w115(s0:Stretch)(dy:Int)(l:List Stretch){post:V->Prop}(h:WQ (T115 s0 dy l) v115 post .e):PC 115 [tStretch.lst l,fG 116 [.cref 5 fun q=>([iI s0.line,iI s0.body,.str s0.as_,iI s0.span.lo,iI s0.span.hi]:List V).getD q uU,rR (iI dy)]] post:=
 PCalls.wq Tryz.func115 (s115 s0 dy l) q115 h
theorem c115(s0:Stretch)(dy:Int)(l:List Stretch)(hl:l.length<=1000000)(hr:inR .i64 (dy-1)=true):PC 115 [tStretch.lst l,fG 116 [.cref 5 fun q=>(tStretch.cells s0).getD q uU,rR (iI dy)]] (·=iI (idxS s0 dy l)):=by
 have hz:tStretch.zero=zStretch:=rfl;refine w115 s0 dy l (WP.step ?_);simp only[T115,Go,Ends',v115,Tr.sure,SS];repeat' with_reducible first|intro _|apply aI
 refine WP.findI (fun i=>.l0 i) rfl l zStretch (goesOn s0 dy) (fun i hi=> ?_) fun hI=> ?_
 ·have hr1:inR .i64 ((i:Int)+1)=true:=inR64 (by omega) (by omega);have k116:=c116 s0 dy (l.getD i zStretch) hr;refine WP.once ?_;simp only[T115,Tr.sure,SS,hi,hz];repeat' with_reducible first|intro _|apply aI
  all_goals first|exact k116|(simp[hr1,idxS,Go,Ends',v115,-List.getD_eq_getElem?_getD, *];done)|(simp_all [hr1,idxS,Go,Ends',v115,-List.getD_eq_getElem?_getD];done)
 ·refine WP.step ?_;simp only[T115,Go,Ends',v115,Tr.sure,SS];repeat' with_reducible first|intro _|apply aI
  all_goals simp[hI,idxS,Go,Ends',v115,-List.getD_eq_getElem?_getD, *]
theorem forgetL:∀(l:List Nat) (t:List V) (j:Nat),VLe (t.getD j uU) ((l.foldl (fun t i=>t.set i uU) t).getD j uU)
 |[],_,_=>VLe.refl _
 |i::l,t,j=>fun G β x h=>forgetL l (t.set i uU) j G β x (forget_set t i j G β x h)
theorem tel_setL(L:List Stretch)(i:Nat)(d:Int)(hi:i<L.length){r j:Nat}(hr:r<L.length)(hj:j<5):
  VLe (if r=i/\4<=j/\j<4+([iI d]:List V).length then([iI d]:List V).getD (j-4) uU else rowsOf tStretch L r j) (rowsOf tStretch (setL L (i:Int) d) r j):=by
 unfold setL rowsOf;rw[Int.toNat_natCast];by_cases h0:r=i
 ·subst h0;rw[gE (l:=L.set r _),List.getElem?_set_self hi];rcases show j=0\/j=1\/j=2\/j=3\/j=4 by omega with rfl|rfl|rfl|rfl|rfl
  ·rw[if_neg (by omega)];exact VLe.refl _
  ·rw[if_neg (by omega)];exact VLe.refl _
  ·rw[if_neg (by omega)];exact VLe.refl _
  ·rw[if_neg (by omega)];exact VLe.refl _
  ·rw[if_pos ⟨rfl,by omega,by simp⟩];exact VLe.refl _
 ·rw[if_neg (fun q=>h0 q.1),gE (l:=L.set i _),sN (Ne.symm h0),<-List.getD_eq_getElem?_getD];exact VLe.refl _
theorem mid84(x:Look)(L:List Stretch)(n:Nat)(dy bl bo:Int)(io:Nat)(c0 c1:Int)(c2:ByteArray)(c3 c4:Int)(hi:io<n):AWP Tryz.prog ⟨none,0⟩ (regionF Tryz.f84 13) ⟨[lk x,uU,.row 0 n,.func (.func 81) [lk x] [],.ref 1 0 0,uU,uU,iI (io:Int),uU,uU,iI dy,uU,uU,uU,uU,uU,uU,uU,iI bl,iI bo,uU,uU,uU,uU,uU,uU,uU,uU,uU,uU,uU,uU,uU,uU,uU,uU,uU,uU,uU,uU,uU,uU,uU,uU,uU,uU,uU,uU,uU,uU,uU,uU,uU,uU,uU,uU,uU],[.rows 142 5 n (rowsOf tStretch L),.cells [iI dy],.cells [iI c0,iI c1,.str c2,iI c3,iI c4]],[]⟩ (fun e T=>e=.normal/\T=⟨[lk x,uU,.row 0 n,.func (.func 81) [lk x] [],.ref 1 0 0,uU,uU,iI (io:Int),uU,uU,iI dy,uU,uU,uU,uU,uU,uU,uU,iI bl,iI bo,uU,uU,uU,uU,uU,uU,uU,uU,uU,uU,uU,uU,uU,uU,uU,uU,uU,uU,uU,uU,uU,uU,uU,uU,uU,uU,uU,uU,.row 0 n,iI (io:Int),iI dy,.ref 0 (((io:Int)).toNat) 0,.ref 0 (((io:Int)).toNat) 3,.ref 0 (((io:Int)).toNat) 4,uU,uU,uU],[.rows 142 5 n (fun r' j=>if r'=((io:Int)).toNat/\4<=j/\j<4+([iI dy]:List V).length then([iI dy]:List V).getD (j-4) uU else(rowsOf tStretch L) r' j),.cells [iI dy],.cells [iI c0,iI c1,.str c2,iI c3,iI c4]],[]⟩):=by
 refine AWP.region (AOps.tree (g:=(.need ((decide (0<=(io:Int))&&decide ((io:Int)<(n:Int)))&&decide (n<=n)) (.need ((decide (((io:Int)).toNat<n)&&decide (4+([iI dy]:List V).length<=5))&&underL 0 ([iI dy]:List V)) (.done .normal ⟨[lk x,uU,.row 0 n,.func (.func 81) [lk x] [],.ref 1 0 0,uU,uU,iI (io:Int),uU,uU,iI dy,uU,uU,uU,uU,uU,uU,uU,iI bl,iI bo,uU,uU,uU,uU,uU,uU,uU,uU,uU,uU,uU,uU,uU,uU,uU,uU,uU,uU,uU,uU,uU,uU,uU,uU,uU,uU,uU,uU,.row 0 n,iI (io:Int),iI dy,.ref 0 (((io:Int)).toNat) 0,.ref 0 (((io:Int)).toNat) 3,.ref 0 (((io:Int)).toNat) 4,uU,uU,uU],[.rows 142 5 n (fun r' j=>if r'=((io:Int)).toNat/\4<=j/\j<4+([iI dy]:List V).length then([iI dy]:List V).getD (j-4) uU else(rowsOf tStretch L) r' j),.cells [iI dy],.cells [iI c0,iI c1,.str c2,iI c3,iI c4]],[]⟩)))) (by kernel_rfl) ?_)
 simp only[DT.holds];have hb1:((decide (0<=(io:Int))&&decide ((io:Int)<(n:Int)))&&decide (n<=n))=true:=by simp;omega
 have hb2:((decide (((io:Int)).toNat<n)&&decide (4+([iI dy]:List V).length<=5))&&underL 0 ([iI dy]:List V))=true:=by
  rw[under1,Int.toNat_natCast];simp;omega
 refine⟨hb1,hb2,?_⟩;simp
theorem ov84_13(x:Look)(A:List Stretch)(dy bl bo:Int)(io:Nat)(c0 c1:Int)(c2:ByteArray)(c3 c4:Int)(hi:io<A.length):AWP Tryz.prog ⟨none,0⟩ (regionF Tryz.f84 13) ⟨[lk x,uU,.row 0 A.length,.func (.func 81) [lk x] [],.ref 1 0 0,uU,uU,iI (io:Int),uU,uU,iI dy,uU,uU,uU,uU,uU,uU,uU,iI bl,iI bo,uU,uU,uU,uU,uU,uU,uU,uU,uU,uU,uU,uU,uU,uU,uU,uU,uU,uU,uU,uU,uU,uU,uU,uU,uU,uU,uU,uU,uU,uU,uU,uU,uU,uU,uU,uU,uU],[.rows 142 5 A.length (rowsRev tStretch A),.cells [iI dy],.cells [iI c0,iI c1,.str c2,iI c3,iI c4]],[]⟩ (fun e T=>e=.normal/\T=⟨[lk x,uU,.row 0 ((setS A (io:Int) dy).length),.func (.func 81) [lk x] [],.ref 1 0 0,uU,uU,iI (io:Int),uU,uU,iI dy,uU,uU,uU,uU,uU,uU,uU,iI bl,iI bo,uU,uU,uU,uU,uU,uU,uU,uU,uU,uU,uU,uU,uU,uU,uU,uU,uU,uU,uU,uU,uU,uU,uU,uU,uU,uU,uU,uU,uU,uU,uU,uU,uU,uU,uU,uU,uU],[.rows 142 5 ((setS A (io:Int) dy).length) (rowsRev tStretch (setS A (io:Int) dy)),.cells [iI dy],.cells [iI c0,iI c1,.str c2,iI c3,iI c4]],[]⟩):=by
 have hlr:A.reverse.length=A.length:=List.length_reverse;have hsl:=setS_len A (io:Int) dy;have hS:(setS A (io:Int) dy).reverse=setL A.reverse (io:Int) dy:=by unfold setS;rw[List.reverse_reverse]
 have hv1:∀r j,r<A.length->j<5->VLe (rowsRev tStretch A r j) (rowsOf tStretch A.reverse r j):=fun r j hr _=>by rw[rowsRev_get tStretch A r j hr];exact VLe.refl _
 have hv2:∀r j,r<A.length->j<5->VLe (if r=((io:Int)).toNat/\4<=j/\j<4+([iI dy]:List V).length then([iI dy]:List V).getD (j-4) uU else rowsOf tStretch A.reverse r j) (rowsRev tStretch (setS A (io:Int) dy) r j):=fun r j hr hj=>by
  rw[rowsRev_get tStretch _ r j (by rw[hsl];exact hr),hS,Int.toNat_natCast];exact tel_setL A.reverse io dy (by rw[hlr];exact hi) (by rw[hlr];exact hr) hj
 rw[hsl];refine AWP.telRows (i:=0) (c':=rowsOf tStretch A.reverse) rfl hv1 ?_;refine AWP.toldRows (i:=0) (e:=142) (wd:=5) (n:=A.length) (t:=[lk x,uU,.row 0 A.length,.func (.func 81) [lk x] [],.ref 1 0 0,uU,uU,iI (io:Int),uU,uU,iI dy,uU,uU,uU,uU,uU,uU,uU,iI bl,iI bo,uU,uU,uU,uU,uU,uU,uU,uU,uU,uU,uU,uU,uU,uU,uU,uU,uU,uU,uU,uU,uU,uU,uU,uU,uU,uU,uU,uU,uU,uU,uU,uU,uU,uU,uU,uU,uU]) (c:=fun r' j=>if r'=((io:Int)).toNat/\4<=j/\j<4+([iI dy]:List V).length then([iI dy]:List V).getD (j-4) uU else rowsOf tStretch A.reverse r' j) (c':=rowsRev tStretch (setS A (io:Int) dy)) ?_
 refine(mid84 x A.reverse A.length dy bl bo io c0 c1 c2 c3 c4 hi).mono fun e T q=> ?_;obtain⟨he,hT⟩:=q;rw[hT];exact⟨rfl,hv2,rfl,fun j=>forgetL [48,49,50,51,52,53] _ j,he,rfl⟩
def oneS(b:Book)(day:Int)(k:Nat):Stretch:=⟨lineN b day,(k:Int),namedR (b.bodies.getD k zBody) day,⟨day,day⟩⟩
def stepS(b:Book)(day:Int)(k:Nat)(l:List Stretch):List Stretch:=
 if((namedR (b.bodies.getD k zBody) day).toList==(ByteArray.mk #[]).toList)=true then l
 else if 0<=idxS (oneS b day k) day l then setL l (idxS (oneS b day k) day l) day else l++ [oneS b day k]
def strB(b:Book)(day:Int)(l:List Stretch)(k:Nat):List Stretch:=natF (stepS b day) l k
def strD(b:Book)(d:Nat):List Stretch:=natF (fun(d:Nat) l=>strB b (d:Int) l b.bodies.length) [] d
def stretchesR(b:Book):List Stretch:=strD b 365
theorem stepS_len(b:Book)(day:Int)(k:Nat)(l:List Stretch):(stepS b day k l).length<=l.length+1:=by
 unfold stepS;split
 ·omega
 ·split
  ·simp[setL]
  ·simp
theorem strB_len(b:Book)(day:Int)(l:List Stretch):∀k,(strB b day l k).length<=l.length+k
 |0=>Nat.le_refl _
 |k+1=>by
  have h1:=stepS_len b day k (strB b day l k);have h2:=strB_len b day l k;show(stepS b day k (strB b day l k)).length<=_;omega
theorem strD_len{b:Book}(h:OkBook b):∀d,(strD b d).length<=d*5
 |0=>Nat.le_refl _
 |d+1=>by
  have h1:=strB_len b (d:Int) (strD b d) b.bodies.length;have h2:=strD_len h d;have h3:=h.nb;show(strB b (d:Int) (strD b d) b.bodies.length).length<=_;omega
theorem idxS_in(s:Stretch)(dy:Int)(l:List Stretch)(h:0<=idxS s dy l):∃i:Nat,idxS s dy l=(i:Int)/\i<l.length:=by
 unfold idxS at h⊢
 have key:∀(l:List Stretch) (k:Nat),∀i,firstI (goesOn s dy) k l=some i->k<=i/\i<k+l.length:=by
  intro l
  induction l with
  |nil=>intro k i hi;simp[firstI]at hi
  |cons y l ih=>
   intro k i hi;simp only[firstI]at hi;split at hi
   ·cases hi;simp
   ·have:=ih (k+1) i hi;simp only[List.length_cons];omega
 cases hf:firstI (goesOn s dy) 0 l with
 |none=>rw[hf]at h;simp at h
 |some i=>
  have:=key l 0 i hf;exact⟨i,rfl,by omega⟩
end
end Go.Proofs.YtemgodefhcbleaaGreat
namespace Go.Proofs.YtemgodefhcbleaaGreat
open Ab Go Go.Sort Go.Shelf Go.Proofs
noncomputable section
def bts(x:ByteArray):List UInt8:=x.toList
def unb(l:List UInt8):ByteArray:=⟨l.toArray⟩
theorem unb_bts(x:ByteArray):unb (bts x)=x:=by
 unfold unb bts;rw[ByteArray.toList_eq]
theorem bts_unb(l:List UInt8):bts (unb l)=l:=by
 unfold unb bts;rw[ByteArray.toList_eq]
def vS(l:List UInt8):V:=.str (unb l)
theorem encS:EncV encStr vS where
 of:=fun h=>by cases h;rfl
 to:=fun x=>.str _
def leS(x y:List UInt8):Bool:=decide (x<=y)
def sortT(l:List ByteArray):List ByteArray:=((l.map bts).mergeSort leS).map unb
def compT(l:List ByteArray):List ByteArray:=(Lib.compact (l.map bts)).map unb
def padT(l:List ByteArray)(n:Nat):List ByteArray:=l++List.replicate (n-l.length) ByteArray.empty
theorem sortT_len(l:List ByteArray):(sortT l).length=l.length:=by unfold sortT;rw[List.length_map,List.length_mergeSort,List.length_map]
theorem rowS_of{c:Nat->Nat->V}{l:List ByteArray}(h:∀r,r<l.length->c r 0=.str (l.getD r ByteArray.empty)):RowE vS c (l.map bts):=fun r hr=>by
 rw[List.length_map]at hr;rw[h r hr,gE,gE,List.getElem?_map,List.getElem?_eq_getElem hr];show V.str l[r]=V.str (unb (bts l[r]));rw[unb_bts]
theorem rowS_to{l:List (List UInt8)}:RowE vS (rowsOf tstr (l.map unb)) l:=fun r hr=>by
 unfold rowsOf;rw[gE (l:=l.map unb),gE (l:=l),List.getElem?_map,List.getElem?_eq_getElem hr];rfl
theorem c82(h:List Blk)(q:Nat)(l:List ByteArray)(c:Nat->Nat->V)(hi:h[q]? =some (.rows 9 1 l.length c))(hc:∀r,r<l.length->c r 0=.str (l.getD r ByteArray.empty)):HCalls Tryz.prog 82 [.row q l.length] (.tuple []) h (h.set q (.rows 9 1 l.length (rowsOf tstr (sortT l)))):=by
 have:=HCalls.sortE (le:=leS) encS (PCalls.enters Tryz.func82 (c:=Tryz.f82.body.getD .skip) (by kernel_rfl) (by kernel_rfl)) Tryz.slices_Sort_string Tryz.slices_Sort_string_none (l:=l.map bts) (c':=rowsOf tstr (sortT l)) (by rw[List.length_map];exact hi) (rowS_of hc) rowS_to;rwa[List.length_map]at this
theorem c83(h:List Blk)(q:Nat)(l:List ByteArray)(c:Nat->Nat->V)(hi:h[q]? =some (.rows 9 1 l.length c))(hc:∀r,r<l.length->c r 0=.str (l.getD r ByteArray.empty)):HCalls Tryz.prog 83 [.row q l.length] (.row q (compT l).length) h (h.set q (.rows 9 1 l.length (rowsOf tstr (padT (compT l) l.length)))):=by
 have e:padT (compT l) l.length=(padE (Lib.compact (l.map bts)) (l.map bts).length).map unb:=by
  unfold padT compT padE;rw[List.map_append,List.length_map,List.length_map,List.map_replicate];rfl
 have:=HCalls.compactE encS (PCalls.enters Tryz.func83 (c:=Tryz.f83.body.getD .skip) (by kernel_rfl) (by kernel_rfl)) Tryz.slices_Compact_string Tryz.slices_Compact_string_empty (l:=l.map bts) (c':=rowsOf tstr (padT (compT l) l.length)) (by rw[List.length_map];exact hi) (rowS_of hc) (by rw[e];exact rowS_to);rw[List.length_map]at this;have e2:(compT l).length=(Lib.compact (l.map bts)).length:=by unfold compT;rw[List.length_map]
 rw[e2];exact this
theorem c82r(h:List Blk)(q:Nat)(a:List ByteArray)(hi:h[q]? =some (.rows 9 1 a.length (rowsRev tstr a))):HCalls Tryz.prog 82 [.row q a.length] (.tuple []) h (h.set q (.rows 9 1 a.length (rowsOf tstr (sortT a.reverse)))):=by
 have:=c82 h q a.reverse (rowsRev tstr a) (by rw[List.length_reverse];exact hi) (fun r hr=>by
  rw[List.length_reverse]at hr
  rw[rowsRev_get tstr a r 0 hr];rfl)
 rwa[List.length_reverse]at this
theorem c83r(h:List Blk)(q:Nat)(l:List ByteArray)(n:Nat)(hn:n=l.length)(hi:h[q]? =some (.rows 9 1 n (rowsOf tstr l))):HCalls Tryz.prog 83 [.row q n] (.row q (compT l).length) h (h.set q (.rows 9 1 n (rowsOf tstr (padT (compT l) n)))):=by
 subst hn;exact c83 h q l _ hi (fun r hr=>rfl)
theorem leS_eq(x y:List UInt8):leS x y= !(Op.bytesLess y x):=by
 unfold leS;rw[bytesLess_eq,Bool.eq_iff_iff];simp only[decide_eq_true_eq,Bool.not_eq_true',decide_eq_false_iff_not];exact Iff.rfl
theorem map_bu:∀L:List (List UInt8),(L.map unb).map bts=L
 |[]=>rfl
 |x::L=>by rw[List.map_cons,List.map_cons,bts_unb,map_bu L]
theorem map_ub:∀L:List ByteArray,(L.map bts).map unb=L
 |[]=>rfl
 |x::L=>by rw[List.map_cons,List.map_cons,unb_bts,map_ub L]
theorem mem_sortT{l:List ByteArray}{x:ByteArray}:x∈sortT l↔x∈l:=by
 unfold sortT;rw[List.mem_map];constructor
 ·rintro⟨z,hz,rfl⟩
  obtain⟨y,hy,rfl⟩:=List.mem_map.1 (List.mem_mergeSort.1 hz);rw[unb_bts];exact hy
 ·intro h;exact⟨bts x,List.mem_mergeSort.2 (List.mem_map.2 ⟨x,h,rfl⟩),unb_bts x⟩
theorem sortT_up(l:List ByteArray):((l.map bts).mergeSort leS).Pairwise fun a b=>leS a b=true:=by
 refine List.pairwise_mergeSort (fun a b c h1 h2=> ?_) (fun a b=> ?_) _
 ·rw[leS_eq]at*
  cases hca:Op.bytesLess c a with
  |false=>rfl
  |true=>
   rcases bl_tri a b with q|q|q
   ·have:=bl_trans c a b hca q;rw[this]at h2;cases h2
   ·subst q;rw[hca]at h2;cases h2
   ·rw[q]at h1;cases h1
 ·rw[leS_eq,leS_eq];rcases bl_tri a b with q|q|q
  ·have:Op.bytesLess b a=false:=by
    cases z:Op.bytesLess b a with
    |false=>rfl
    |true=>have:=bl_trans a b a q z;rw[bl_irr]at this;cases this
   rw[this];rfl
  ·subst q;rw[bl_irr];rfl
  ·have:Op.bytesLess a b=false:=by
    cases z:Op.bytesLess a b with
    |false=>rfl
    |true=>have:=bl_trans a b a z q;rw[bl_irr]at this;cases this
   rw[this];simp
theorem keeps_backS(d:Array (List UInt8)):∀j,j<d.size->∃i,i<d.size/\Lib.keeps d i=true/\d[i]! =d[j]!
 |0,h=>⟨0,h,Lib.keeps_lt_one d 0 (by omega),rfl⟩
 |j+1,h=>by
  by_cases e:d[j+1]! =d[j]!
  ·obtain⟨i,h1,h2,h3⟩:=keeps_backS d j (by omega);exact⟨i,h1,h2,by rw[h3,e]⟩
  ·exact⟨j+1,h,Lib.keeps_pos (by simpa using e),rfl⟩
theorem mem_compactS{l:List (List UInt8)}{x:List UInt8}:x∈Lib.compact l↔x∈l:=by
 simp only[Lib.compact,Lib.compactUpTo,List.mem_map,List.mem_filter,List.mem_range];have hg:∀i,i<l.length->l.toArray[i]! =l.getD i []:=fun i hi=>by simp[hi,gE]
 constructor
 ·rintro⟨i,⟨h1,_⟩,rfl⟩
  rw[hg i h1];exact getD_mem [] l i h1
 ·intro h;obtain⟨j,hj,rfl⟩:=List.getElem_of_mem h;obtain⟨i,h1,h2,h3⟩:=keeps_backS l.toArray j (by simpa using hj);have h1':i<l.length:=by simpa using h1
  exact⟨i,⟨h1',h2⟩,by rw[h3,hg j hj];simp[gE,hj]⟩
theorem compact_up{l:List (List UInt8)}(h:l.Pairwise fun a b=>leS a b=true):(Lib.compact l).Pairwise fun a b=>Op.bytesLess a b=true:=by
 have hg:∀i,i<l.length->l.toArray[i]! =l.getD i []:=fun i hi=>by simp[hi,gE]
 have hle:∀i j,i<=j->j<l.length->Op.bytesLess (l.getD j []) (l.getD i [])=false:=fun i j hij hj=>by
  rcases Nat.lt_or_ge i j with q|q
  ·have:=List.pairwise_iff_getElem.1 h i j (by omega) hj q;rw[leS_eq]at this;rw[gE,gE,List.getElem?_eq_getElem hj,List.getElem?_eq_getElem (by omega)];simpa using this
  ·rw[show i=j by omega,bl_irr]
 unfold Lib.compact Lib.compactUpTo;rw[List.pairwise_map];refine List.Pairwise.imp_of_mem (fun {i j} hi hj hij=> ?_) ((List.pairwise_lt_range (n:=l.length)).filter _);rw[List.mem_filter,List.mem_range]at hi hj;have hk:=hj.2;unfold Lib.keeps at hk;rw[decide_eq_true_eq]at hk
 have hne:l.getD j []≠l.getD (j-1) []:=by
  rcases hk with q|q
  ·omega
  ·rwa[hg j hj.1,hg (j-1) (by omega)]at q
 rw[hg i hi.1,hg j hj.1];have h1:=hle i (j-1) (by omega) (by omega);have h2:=hle (j-1) j (by omega) hj.1
 have h3:Op.bytesLess (l.getD (j-1) []) (l.getD j [])=true:=by
  rcases bl_tri (l.getD (j-1) []) (l.getD j [])with q|q|q
  ·exact q
  ·exact absurd q.symm hne
  ·rw[q]at h2;cases h2
 rcases bl_tri (l.getD i []) (l.getD (j-1) [])with q|q|q
 ·exact bl_trans _ _ _ q h3
 ·rw[q];exact h3
 ·rw[q]at h1;cases h1
theorem compT_up(l:List ByteArray):Up (compT (sortT l)):=by
 unfold Up compT sortT;have e:(((l.map bts).mergeSort leS).map unb).map bts=(l.map bts).mergeSort leS:=map_bu _;rw[e,List.pairwise_map];exact(compact_up (sortT_up l)).imp fun {a b} h=>by unfold blt;rw[show(unb a).toList=a from bts_unb a,show(unb b).toList=b from bts_unb b];exact h
theorem mem_compT{l:List ByteArray}{x:ByteArray}:x∈compT (sortT l)↔x∈l:=by
 unfold compT;rw[List.mem_map];constructor
 ·rintro⟨z,hz,rfl⟩
  obtain⟨y,hy,rfl⟩:=List.mem_map.1 (mem_compactS.1 hz);rw[unb_bts];exact mem_sortT.1 hy
 ·intro h;exact⟨bts x,mem_compactS.2 (List.mem_map.2 ⟨x,mem_sortT.2 h,rfl⟩),unb_bts x⟩
theorem up_ext:∀ {l m:List ByteArray},Up l->Up m->(∀x,x∈l↔x∈m)->l=m
 |[],[],_,_,_=>rfl
 |[],y::m,_,_,h=>by have:=(h y).2 List.mem_cons_self;cases this
 |x::l,[],_,_,h=>by have:=(h x).1 List.mem_cons_self;cases this
 |x::l,y::m,hl,hm,h=>by
  obtain⟨l1,l2⟩:=List.pairwise_cons.1 hl;obtain⟨m1,m2⟩:=List.pairwise_cons.1 hm
  have hxy:x=y:=by
   rcases List.mem_cons.1 ((h x).1 List.mem_cons_self)with q|q
   ·exact q
   ·rcases List.mem_cons.1 ((h y).2 List.mem_cons_self)with z|z
    ·exact z.symm
    ·have a1:=m1 x q;have a2:=l1 y z;have:=blt_trans a1 a2;rw[blt_irr]at this;cases this
  subst hxy;refine congrArg (x::·) (up_ext l2 m2 fun z=> ?_);have hz:=h z;rw[List.mem_cons,List.mem_cons]at hz;constructor
  ·intro q;rcases hz.1 (.inr q)with e|e
   ·subst e;have:=l1 _ q;rw[blt_irr]at this;cases this
   ·exact e
  ·intro q;rcases hz.2 (.inr q)with e|e
   ·subst e;have:=m1 _ q;rw[blt_irr]at this;cases this
   ·exact e
theorem compT_sortU(l:List ByteArray):compT (sortT l)=sortU l:=up_ext (compT_up l) (sortU_up l) fun x=>by rw[mem_compT,mem_sortU]
theorem sort_same{l:List ByteArray}(hn:l.Nodup):sortT l=sortU l:=by
 have hp:(sortT l).Perm l:=by
  have h1:=(List.mergeSort_perm (l.map bts) leS).map unb;have e:(l.map bts).map unb=l:=map_ub l;rw[e]at h1;exact h1
 have hnd:(sortT l).Nodup:=hp.nodup_iff.2 hn;refine up_ext ?_ (sortU_up l) fun x=>by rw[mem_sortT,mem_sortU]
 unfold Up
 have hle:(sortT l).Pairwise fun a b=>blt b a=false:=by
  unfold sortT;rw[List.pairwise_map]
  exact(sortT_up l).imp fun {a b} h=>by
   rw[leS_eq]at h;unfold blt;rw[show(unb a).toList=a from bts_unb a,show(unb b).toList=b from bts_unb b];simpa using h
 exact(hle.and hnd).imp fun {a b} h=>by
  rcases blt_tri a b with q|q|q
  ·exact q
  ·exact absurd q h.2
  ·rw[q]at h;exact absurd h.1 (by decide)
end
end Go.Proofs.YtemgodefhcbleaaGreat
namespace Go.Proofs.YtemgodefhcbleaaGreat
open Ab Go
noncomputable section
theorem c81x(x:Look)(h:OkBook x.b)(body day:Int)(hb:0<=body/\body<x.b.bodies.length):PC 81 [lk x,iI body,iI day] (·=.str (namedR (x.b.bodies.getD body.toNat zBody) day)):=by
 have hsh:(x.b.bodies.getD body.toNat zBody).shown.length<=3:=by
  have:=h.shown (i:=body.toNat) (by omega);unfold shownErr at this;split at this
  ·cases this
  ·omega
 have hzb:tBody.zero=zBody:=rfl;generalize hx:x.b.bodies.getD body.toNat zBody=y at*
 have hmain:WP Tryz.prog ⟨none,0⟩ (T81 x body day) (Ends' fun r=>v81 r=.str (namedR y day)) (.l0 (ByteArray.mk #[]) 0):=by
  refine WP.run (fun i=>.l0 (namedTo y day i) (i:Int)) rfl y.shown.length (fun i hi=> ?_) ?_
  ·have hr:inR .i64 ((i:Int)+1)=true:=inR64 (by omega) (by omega);have hi':(i:Int)<y.shown.length:=by omega
   have e:namedTo y day (i+1)=if(y.shown.getD i zShown).day<=day then(y.shown.getD i zShown).as_ else namedTo y day i:=rfl
   rw[e];by_cases hd:(y.shown.getD i zShown).day<=day
   ·rw[if_pos hd];refine WP.once ?_;simp only[T81,Tr.sure,SS,hzb,hx,hi',z3,hd];repeat' with_reducible first|intro _|apply aI
    all_goals simp[hr,Go,Ends',v81,-List.getD_eq_getElem?_getD, *]
   ·rw[if_neg hd];refine WP.once ?_;simp only[T81,Tr.sure,SS,hzb,hx,hi',z3,hd];repeat' with_reducible first|intro _|apply aI
    all_goals simp[hr,Go,Ends',v81,-List.getD_eq_getElem?_getD, *]
  ·have e:namedR y day=namedTo y day y.shown.length:=rfl;rw[e];refine WP.step ?_;simp only[T81,Go,Ends',v81,Tr.sure,SS,hzb,hx,Int.lt_irrefl];repeat' with_reducible first|intro _|apply aI
 have hb1:=hb.1;have hb2:=hb.2;refine w81 x body day (WP.step ?_);simp only[T81,Go,Ends',v81,Tr.sure,SS,hb1,hb2];repeat' with_reducible first|intro _|apply aI
 all_goals exact hmain
theorem VLe.crefs{n:Nat}{f g:Nat->V}(h:∀j,j<n->VLe (f j) (g j)):VLe (.cref n f) (.cref n g):=fun G β x hx=>by
 cases hx with
 |cref hG hl hc=>exact .cref hG hl fun j hj=>h j hj _ _ _ (hc j hj)
theorem c81n(b:Book)(h:OkBook b)(body day:Int)(hb:0<=body/\body<b.bodies.length):PC 81 [.cref 4 fun q=>([tBody.lst b.bodies,tstr.lst b.heads,tLine.lst b.lines,.nils]:List V).getD q uU,iI body,iI day] (·=.str (namedR (b.bodies.getD body.toNat zBody) day)):=
 PCalls.arg (pre:=[]) (c81x ⟨b,[]⟩ h body day hb) (VLe.crefs fun j hj=>by
  rcases show j=0\/j=1\/j=2\/j=3 by omega with rfl|rfl|rfl|rfl
  ·exact VLe.refl _
  ·exact VLe.refl _
  ·exact VLe.refl _
  ·exact VLe.nils)
theorem padT_len{l:List ByteArray}{n:Nat}(h:l.length<=n):(padT l n).length=n:=by simp[padT];omega
theorem VLe.padS(l:List ByteArray)(n:Nat):VLe (.list 1 l.length (rowsOf tstr (padT l n))) (tstr.lst l):=
 VLe.list fun i j hi _=>by
  simp only[rowsOf,padT,gE,aL hi]
theorem VLe.padN{l:List ByteArray}{n:Nat}(h:l.length<=n):VLe (.list 1 n (rowsOf tstr (padT l n))) (tstr.lst (padT l n)):=by
 have:=padT_len h;generalize padT l n=z at*
 subst this;exact VLe.refl _
theorem compT_len(l:List ByteArray):(compT (sortT l)).length<=l.length:=by
 unfold compT;rw[List.length_map];refine Nat.le_trans (Ab.compactE_len _) ?_;rw[List.length_map,sortT_len];exact Nat.le_refl _
inductive P29
 |e
 |l0 (x0_28:Int) (a0_1:List ByteArray)
inductive R29
 |r0 (r0:List ByteArray) (r1:Int)
 |r1 (r0:List ByteArray) (r1:Int)
def T29(b:Book)(head:Int)(day:Int):P29->Tr P29 R29
 |.e=>let c1:=whereR b head day;(.wait 2 (.own 6 9 1 (.call 22 [.agg (cC b),iI head,iI day] (.tuple [tint.lst (c1.1),iI (c1.2)]) true true (.br (c1.2 !=(0:Int)) (.wait 2 (.own 6 9 1 (.out (.r0 ([]) (c1.2))))) (.go (.l0 0 ([])))))))
 |.l0 x0_28 a0_1=>let c1:=compT (sortT a0_1.reverse);let c2:=namedR (b.bodies.getD ((((whereR b head day).1).getD (x0_28).toNat tint.zero)).toNat zBody) day;let c3:List Blk:=[.gone,.rows 9 1 a0_1.length (rowsOf tstr (sortT a0_1.reverse)),.cells [tBody.lst b.bodies,tstr.lst b.heads,tLine.lst b.lines,.nils]];let c4:=rowsOf tstr (padT c1 a0_1.length);let c5:=x0_28+(1:Int);let c6:=x0_28<(((whereR b head day).1.length):Int);let c7:=decide (a0_1.length<=a0_1.length);let c8:=decide (c1.length<=a0_1.length);let c9:=tstr.lst (padT c1 a0_1.length);(.br (decide c6) (.need (decide (0<=x0_28)&&decide c6) (.call 81 [.cref 4 fun q=>([tBody.lst b.bodies,tstr.lst b.heads,tLine.lst b.lines,.nils]:List V).getD q uU,iI (((whereR b head day).1).getD (x0_28).toNat tint.zero),iI day] (.str c2) true true (.br (!(c2.toList==(ByteArray.mk #[]).toList)) (.need ((decide (a0_1.length=a0_1.length)&&decide (a0_1.length+1<=4294967296))&&decide (1<=1)) (.scal (fun _=>true) (.need (inR .i64 c5) (.go (.l0 c5 (c2::a0_1)))))) (.need (inR .i64 c5) (.go (.l0 c5 a0_1)))))) (.hcall 82 [.row 1 a0_1.length] (.tuple []) [.gone,.rows 9 1 a0_1.length (rowsRev tstr a0_1),.cells [tBody.lst b.bodies,tstr.lst b.heads,tLine.lst b.lines,.nils]] c3 true (.hcall 83 [.row 1 a0_1.length] (.row 1 (c1.length)) c3 [.gone,.rows 9 1 a0_1.length c4,.cells [tBody.lst b.bodies,tstr.lst b.heads,tLine.lst b.lines,.nils]] true (.frz 1 (c8&&(c7&&(c7&&(c8&&true)))) (.vle 6 (.list 1 (c1.length) c4) (tstr.lst c1) (.vle 43 (.list 1 a0_1.length c4) c9 (.vle 45 (.list 1 a0_1.length c4) c9 (.vle 46 (.list 1 (c1.length) c4) (tstr.lst c1) (.out (.r1 c1 0))))))))))
noncomputable def g29(b:Book)(head:Int)(day:Int):P29->List Item × St
 |.e=>bd Tryz.f29 [.agg (cC b),iI head,iI day] 44
 |.l0 x0_28 a0_1=>(cutOf Tryz.f29 0,⟨mk 47 [(2,iI day),(6,.row 1 a0_1.length),(9,.ref 2 0 0),(26,tint.lst ((whereR b head day).1)),(27,iI (((whereR b head day).1.length):Int)),(28,iI x0_28)],[.gone,.rows 9 1 a0_1.length (rowsRev tstr a0_1),.cells [tBody.lst b.bodies,tstr.lst b.heads,tLine.lst b.lines,.nils]],[]⟩)
def n29:R29->Exit × St
 |.r0 r0 r1=>(.ret,⟨mk 47 [(6,.row 2 r0.length),(7,iI r1)],[.gone,.gone,.rows 9 1 r0.length (rowsRev tstr r0)],[]⟩)
 |.r1 r0 r1=>(.ret,⟨mk 47 [(6,tstr.lst r0),(7,iI r1)],[],[]⟩)
def v29:R29->V
 |.r0 r0 r1=>.tuple [tstr.lst r0.reverse,iI r1]
 |.r1 r0 r1=>.tuple [tstr.lst r0,iI r1]
theorem s29(b:Book)(head:Int)(day:Int):Sm 0 (g29 b head day) (T29 b head day) (n29)
 |.e=>⟨400,by kernel_rfl⟩
 |.l0 _ _=>⟨400,by kernel_rfl⟩
theorem q29:∀r,bodyQ Tryz.prog Tryz.f29 (·=v29 r) (n29 r).1 (n29 r).2
 |.r0 r0 r1=>⟨.inr rfl,by simp[n29],(.tuple [.row 2 r0.length,iI r1]),(.tuple [tstr.lst r0.reverse,iI r1]),by kernel_rfl,(.tuple rfl fun j hj=>match j,hj with|0,_=>.weak (.row rfl (Nat.le_refl _)) (VLe.rev tstr r0)|1,_=>.imm rfl),rfl⟩
 |.r1 r0 r1=>bq (.tuple [tstr.lst r0,iI r1]) (by kernel_rfl)
theorem w29(b:Book)(head:Int)(day:Int){post:V->Prop}(h:WQ (T29 b head day) v29 post .e):PC 29 [.agg (cC b),iI head,iI day] post:=
 PCalls.wq Tryz.func29 (s29 b head day) q29 h
def namesW(b:Book)(day:Int)(W:List Int):List ByteArray:=(W.map fun i=>namedR (b.bodies.getD i.toNat zBody) day).filter fun s=> !(s.toList==(ByteArray.mk #[]).toList)
theorem named_mem(x:Body)(day:Int):namedR x day=ByteArray.empty\/namedR x day∈x.shown.map (·.as_):=by
 have:∀k,k<=x.shown.length->namedTo x day k=ByteArray.empty\/namedTo x day k∈x.shown.map (·.as_):=by
  intro k
  induction k with
  |zero=>intro _;exact .inl rfl
  |succ k ih=>
   intro hk;show(if(x.shown.getD k zShown).day<=day then(x.shown.getD k zShown).as_ else namedTo x day k)=_\/(if(x.shown.getD k zShown).day<=day then(x.shown.getD k zShown).as_ else namedTo x day k)∈_;split
   ·right;exact List.mem_map.2 ⟨_,getD_mem zShown _ k (by omega),rfl⟩
   ·exact ih (by omega)
 exact this _ (Nat.le_refl _)
theorem asR_eq{b:Book}{head day:Int}(h0:(toldR b [head] day).2=0):sortU (namesW b day (whereR b head day).1)=(asR b head day).1:=by
 obtain⟨hok,hns,hday,hne,htl⟩:=told_ok h0;have hv:=hns head (by simp);have hW:(whereR b head day).1=((List.range b.bodies.length).filter fun i=>anyT b day (truthsR b []) i head).map fun(i:Nat)=>(i:Int):=by unfold whereR;rw[if_neg (fun q=>q h0)]
 have hA:(asR b head day).1=(personsR b).filter fun s=>(truthsR b []).any fun t=>same (seenR b t head day) s:=by unfold asR;rw[if_neg (fun q=>q h0)]
 rw[hA];refine up_ext (sortU_up _) ((sortU_up _).filter _) fun s=> ?_;have hln:=lineN_in b day;have hperm:∀t∈truthsR b [],(atR b t day).Perm (firstH b):=fun t ht=>have_in hok ht (by omega)
 have hin:∀t∈truthsR b [],head∈atR b t day:=fun t ht=>(hperm t ht).mem_iff.2 (by
  unfold firstH
  rw[List.mem_map];exact⟨head.toNat,List.mem_range.2 (by omega),by omega⟩)
 have hse:∀z:ByteArray,(!(z.toList==(ByteArray.mk #[]).toList))=true↔z≠ByteArray.empty:=fun z=>by
  rw[isEmpty_eq];simp
 have hss:∀x y:ByteArray,same x y=true↔x=y:=fun x y=>by
  unfold same;rw[beq_iff_eq];exact⟨ba_inj,fun e=>by rw[e]⟩
 rw[mem_sortU,namesW,List.mem_filter,hse,hW,List.map_map,List.mem_map,List.mem_filter,List.any_eq_true];constructor
 ·rintro⟨⟨k,hk,hks⟩,hs⟩
  obtain⟨hk1,hk2⟩:=List.mem_filter.1 hk;rw[List.mem_range]at hk1;obtain⟨t,ht,hth⟩:=List.any_eq_true.1 hk2;rw[beq_iff_eq]at hth;obtain⟨b1,b2,b3⟩:=bodyOf_in (hin t ht);obtain⟨p1,p2,p3,p4⟩:=perm_get (hperm t ht);have hbk:(bodyOf (atR b t day) head).toNat=k:=nodup_get p2 (by omega) (by omega) (b3.trans hth.symm);have hks':namedR (b.bodies.getD k zBody) day=s:=by simpa using hks
  refine⟨?_,t,ht,(hss _ _).2 ?_⟩
  ·unfold personsR;rw[mem_sortU];unfold allNames;rw[List.mem_flatMap];refine⟨b.bodies.getD k zBody,getD_mem zBody _ k hk1,?_⟩;rcases named_mem (b.bodies.getD k zBody) day with q|q
   ·rw[hks']at q;exact absurd q hs
   ·rw[<-hks'];exact q
  ·unfold seenR;rw[hbk];exact hks'
 ·rintro⟨hs,t,ht,hst⟩
  rw[hss]at hst;have hne2:=allNames_ne hok s (mem_sortU.1 hs);obtain⟨b1,b2,b3⟩:=bodyOf_in (hin t ht);obtain⟨p1,p2,p3,p4⟩:=perm_get (hperm t ht);refine⟨⟨(bodyOf (atR b t day) head).toNat,List.mem_filter.2 ⟨List.mem_range.2 (by omega),List.any_eq_true.2 ⟨t,ht,by rw[beq_iff_eq];exact b3⟩⟩,?_⟩,hne2⟩;rw[<-hst];unfold seenR;show namedR (b.bodies.getD (((bodyOf (atR b t day) head).toNat:Nat):Int).toNat zBody) day=_
  rw[Int.toNat_natCast]
theorem c29(b:Book)(head day:Int):PC 29 [.agg (tBook.cells b),iI head,iI day] (·=.tuple [tstr.lst (asR b head day).1,iI (asR b head day).2]):=by
 have k22:=c22 b head day;by_cases h0:(toldR b [head] day).2=0
 ·obtain⟨hok,hns,hday,hne,htl⟩:=told_ok h0;have hnb:=hok.nb;have hW2:(whereR b head day).2=0:=by unfold whereR;rw[if_neg (fun q=>q h0)]
  have hA2:(asR b head day).2=0:=by unfold asR;rw[if_neg (fun q=>q h0)]
  have hae:=asR_eq h0
  have hWin:∀i∈(whereR b head day).1,0<=i/\i<b.bodies.length:=fun i hi=>by
   unfold whereR at hi;rw[if_neg (fun q=>q h0)]at hi;obtain⟨k,hk,rfl⟩:=List.mem_map.1 hi;have:=List.mem_range.1 (List.mem_filter.1 hk).1;omega
  have hWl:(whereR b head day).1.length<=5:=by
   unfold whereR;rw[if_neg (fun q=>q h0),List.length_map];exact Nat.le_trans (List.length_filter_le _ _) (by simp;omega)
  rw[hW2]at k22;rw[hA2,<-hae,<-compT_sortU];generalize hW:(whereR b head day).1=W at*
  have hmain:WP Tryz.prog ⟨none,0⟩ (T29 b head day) (Ends' fun r=>v29 r=.tuple [tstr.lst (compT (sortT (namesW b day W))),iI 0]) (.l0 0 []):=by
   refine WP.run (fun i=>.l0 (i:Int) (namesW b day (W.take i)).reverse) rfl W.length (fun i hi=> ?_) ?_
   ·have hr:inR .i64 ((i:Int)+1)=true:=inR64 (by omega) (by omega);have hi':(i:Int)<W.length:=by omega
    have k81:=c81n b hok (W.getD i 0) day (hWin _ (getD_mem 0 W i hi))
    have hlen:(namesW b day (W.take i)).reverse.length+1<=4294967296:=by
     rw[List.length_reverse];unfold namesW;have:=List.length_filter_le (fun s:ByteArray=> !(s.toList==(ByteArray.mk #[]).toList)) ((W.take i).map fun i=>namedR (b.bodies.getD i.toNat zBody) day);rw[List.length_map,List.length_take]at this;omega
    have hnx:(namesW b day (W.take (i+1))).reverse=if(!((namedR (b.bodies.getD (W.getD i 0).toNat zBody) day).toList==(ByteArray.mk #[]).toList))=true then namedR (b.bodies.getD (W.getD i 0).toNat zBody) day::(namesW b day (W.take i)).reverse else(namesW b day (W.take i)).reverse:=by
     unfold namesW;rw[take_snoc 0 W i hi,List.map_append,List.filter_append,List.reverse_append];show(([namedR (b.bodies.getD (W.getD i 0).toNat zBody) day]:List ByteArray).filter _).reverse++_=_;rw[List.filter_cons];split<;>rfl
    rw[hnx];generalize(namesW b day (W.take i)).reverse=A at*
    cases he:((namedR (b.bodies.getD (W.getD i 0).toNat zBody) day).toList==(ByteArray.mk #[]).toList)with
    |true=>
     refine WP.once ?_;simp only[T29,Tr.sure,SS,hW,hi',z1,he,Bool.not_true,Bool.false_eq_true,↓reduceIte];repeat' with_reducible first|intro _|apply aI
     all_goals first|exact k81|(simp[hr,hlen,Go,Ends',v29,-List.getD_eq_getElem?_getD, *];done)
    |false=>
     refine WP.once ?_;simp only[T29,Tr.sure,SS,hW,hi',z1,he,Bool.not_false,↓reduceIte];repeat' with_reducible first|intro _|apply aI
     all_goals first|exact k81|(simp[hr,hlen,Go,Ends',v29,-List.getD_eq_getElem?_getD, *];done)
   ·rw[List.take_length];have e:(namesW b day W).reverse.reverse=namesW b day W:=List.reverse_reverse _;generalize(namesW b day W).reverse=A at*
    rw[<-e];have hcl:(compT (sortT A.reverse)).length<=A.length:=by have:=compT_len A.reverse;rwa[List.length_reverse]at this
    have k82:=fun(h:List Blk) (q:Nat) hi=>c82r h q A hi;have k83:=fun(h:List Blk) (q:Nat) hi=>c83r h q (sortT A.reverse) A.length (by rw[sortT_len,List.length_reverse]) hi;have v1:=VLe.padS (compT (sortT A.reverse)) A.length;have v2:=VLe.padN hcl;refine WP.step ?_;simp only[T29,Go,Ends',v29,Tr.sure,SS,hW,Int.lt_irrefl];repeat' with_reducible first|intro _|apply aI
    all_goals first|exact(k82 _ 1 rfl)|exact(k83 _ 1 rfl)|exact v1|exact v2|(simp[hcl,Go,Ends',v29,-List.getD_eq_getElem?_getD, *];done)|(simp_all [hcl,Go,Ends',v29,-List.getD_eq_getElem?_getD];done)
  refine w29 b head day (WP.step ?_);simp only[T29,Go,Ends',v29,Tr.sure,SS,hW2,hW];repeat' with_reducible first|intro _|apply aI
  all_goals first|exact k22|exact hmain
 ·have hW2:whereR b head day=([],(toldR b [head] day).2):=by unfold whereR;rw[if_pos h0]
  have hA2:asR b head day=([],(toldR b [head] day).2):=by unfold asR;rw[if_pos h0]
  rw[hW2]at k22;rw[hA2];refine w29 b head day (WP.step ?_);simp only[T29,Go,Ends',v29,Tr.sure,SS,hW2,h0];repeat' with_reducible first|intro _|apply aI
  all_goals first|exact k22|(simp[h0,Go,Ends',v29,-List.getD_eq_getElem?_getD, *];done)
end
noncomputable section
def nmd(b:Book)(j:Nat)(day:Int):ByteArray:=namedR (b.bodies.getD j zBody) day
structure GoodS(b:Book)(d:Int)(x:Stretch):Prop where
 body:∃j:Nat,j<b.bodies.length/\x.body=(j:Int)
 lo:0<=x.span.lo
 le:x.span.lo<=x.span.hi
 hi:x.span.hi<=d
 ne:x.as_≠ByteArray.empty
 all:∀day:Int,x.span.lo<=day->day<=x.span.hi->lineN b day=x.line/\nmd b x.body.toNat day=x.as_
def HitS(b:Book)(j:Nat)(day:Int)(x:Stretch):Prop:=x.line=lineN b day/\x.body=(j:Int)/\x.as_=nmd b j day/\x.span.lo<=day/\day<=x.span.hi
structure InvS(b:Book)(d k:Nat)(l:List Stretch):Prop where
 good:∀x∈l,GoodS b d x
 cover:∀(day j:Nat),(day<d/\j<b.bodies.length\/day=d/\j<k)->nmd b j (day:Int)≠ByteArray.empty->∃x∈l,HitS b j (day:Int) x
theorem firstI_get{τ:Type}{p:τ->Bool}(dflt:τ):∀ {l:List τ} {k i:Nat},firstI p k l=some i->k<=i/\i-k<l.length/\p (l.getD (i-k) dflt)=true
 |[],_,_,h=>by cases h
 |x::l,k,i,h=>by
  simp only[firstI]at h;split at h
  ·rename_i hp;cases h;exact⟨Nat.le_refl _,by simp,by rw[Nat.sub_self];exact hp⟩
  ·obtain⟨h1,h2,h3⟩:=firstI_get dflt h;refine⟨by omega,by simp only[List.length_cons];omega,?_⟩;rw[show i-k=(i-(k+1))+1 by omega];exact h3
theorem goesOn_iff{s:Stretch}{dy:Int}{y:Stretch}:goesOn s dy y=true↔y.line=s.line/\y.body=s.body/\y.as_=s.as_/\y.span.hi=dy-1:=by
 unfold goesOn;simp only[Bool.and_eq_true,beq_iff_eq,and_true,true_and];constructor
 ·rintro⟨h1,h2,h3,h4⟩;exact⟨h1,h2,ba_inj h3,h4⟩
 ·rintro⟨h1,h2,h3,h4⟩;exact⟨h1,h2,by rw[h3],h4⟩
theorem inv_stepS{b:Book}{d k:Nat}{l:List Stretch}(h:InvS b d k l)(hk:k<b.bodies.length):InvS b d (k+1) (stepS b (d:Int) k l):=by
 have hnm:namedR (b.bodies.getD k zBody) (d:Int)=nmd b k (d:Int):=rfl;unfold stepS;rw[hnm];by_cases he:((nmd b k (d:Int)).toList==(ByteArray.mk #[]).toList)=true
 ·rw[if_pos he];rw[isEmpty_eq,decide_eq_true_eq]at he;refine⟨h.good,fun day j hj hne=>h.cover day j ?_ hne⟩;rcases hj with q|⟨q1,q2⟩
  ·exact .inl q
  ·by_cases hjk:j=k
   ·subst hjk;rw[q1]at hne;exact absurd he hne
   ·exact .inr ⟨q1,by omega⟩
 ·rw[if_neg he]
  have hne0:nmd b k (d:Int)≠ByteArray.empty:=by
   rw[isEmpty_eq,decide_eq_true_eq]at he;exact he
  by_cases hx:0<=idxS (oneS b (d:Int) k) (d:Int) l
  ·rw[if_pos hx];unfold idxS at hx⊢
   cases hf:firstI (goesOn (oneS b (d:Int) k) (d:Int)) 0 l with
   |none=>rw[hf]at hx;simp at hx
   |some i=>
    simp only;obtain⟨-,i1,i2⟩:=firstI_get zStretch hf;rw[Nat.sub_zero]at i1 i2;obtain⟨g1,g2,g3,g4⟩:=goesOn_iff.1 i2;have hgi:=h.good _ (getD_mem zStretch l i i1);unfold setL;rw[Int.toNat_natCast];generalize hy:l.getD i zStretch=y at*
    have hyi:l[i]? =some y:=by rw[gE,List.getElem?_eq_getElem i1]at hy;rw[List.getElem?_eq_getElem i1];exact congrArg some hy
    have gl:y.line=lineN b (d:Int):=g1;have gb:y.body=(k:Int):=g2;have ga:y.as_=nmd b k (d:Int):=g3
    have hnew:GoodS b d {y with span:=⟨y.span.lo,(d:Int)⟩}:=⟨hgi.body,hgi.lo,by have:=hgi.le;simp only;omega,Int.le_refl _,hgi.ne,fun day h1 h2=>by
     by_cases hd:day=(d:Int)
     ·subst hd;exact⟨gl.symm,by simp only;rw[gb,Int.toNat_natCast];exact ga.symm⟩
     ·have h2':day<=(d:Int):=h2
      exact hgi.all day h1 (by omega)⟩
    have hset:(l.set i {y with span:=⟨y.span.lo,(d:Int)⟩})[i]? =some {y with span:=⟨y.span.lo,(d:Int)⟩}:=List.getElem?_set_self i1;refine⟨fun x hx=> ?_,fun day j hj hne=> ?_⟩
    ·rcases List.mem_or_eq_of_mem_set hx with q|rfl
     ·exact h.good x q
     ·exact hnew
    ·have keep:∀x∈l,HitS b j (day:Int) x->∃x∈l.set i {y with span:=⟨y.span.lo,(d:Int)⟩},HitS b j (day:Int) x:=fun x hx hh=>by
      obtain⟨q,hq,rfl⟩:=List.getElem_of_mem hx;by_cases hqi:i=q
      ·subst hqi;have:y=l[i]:=by rw[List.getElem?_eq_getElem hq]at hyi;exact(Option.some.inj hyi).symm
       rw[<-this]at hh;obtain⟨e1,e2,e3,e4,e5⟩:=hh;exact⟨_,List.mem_of_getElem? hset,e1,e2,e3,e4,by have:=g4;simp only;omega⟩
      ·exact⟨l[q],List.mem_of_getElem? (i:=q) (by rw[sN hqi];exact List.getElem?_eq_getElem hq),hh⟩
     by_cases hnew2:day=d/\j=k
     ·obtain⟨rfl,rfl⟩:=hnew2;exact⟨_,List.mem_of_getElem? hset,gl,gb,ga,by have:=hgi.le;simp only;omega,Int.le_refl _⟩
     ·obtain⟨x,hx,hh⟩:=h.cover day j (by omega) hne;exact keep x hx hh
  ·rw[if_neg hx];refine⟨fun x hx=> ?_,fun day j hj hne=> ?_⟩
   ·rcases List.mem_append.1 hx with q|q
    ·exact h.good x q
    ·rw[List.mem_singleton.1 q];refine⟨⟨k,hk,rfl⟩,Int.natCast_nonneg _,Int.le_refl _,Int.le_refl _,hne0,fun day h1 h2=> ?_⟩;have h1':(d:Int)<=day:=h1;have h2':day<=(d:Int):=h2;obtain rfl:day=(d:Int):=by omega
     exact⟨rfl,rfl⟩
   ·by_cases hnew2:day=d/\j=k
    ·obtain⟨rfl,rfl⟩:=hnew2;exact⟨oneS b (day:Int) j,by simp,rfl,rfl,rfl,Int.le_refl _,Int.le_refl _⟩
    ·obtain⟨x,hx,hh⟩:=h.cover day j (by omega) hne;exact⟨x,List.mem_append_left _ hx,hh⟩
theorem inv_strB{b:Book}{d:Nat}{l:List Stretch}(h:InvS b d 0 l):∀k,k<=b.bodies.length->InvS b d k (strB b (d:Int) l k)
 |0,_=>h
 |k+1,hk=>inv_stepS (inv_strB h k (by omega)) (by omega)
theorem inv_strD(b:Book):∀d,InvS b d 0 (strD b d)
 |0=>⟨fun x hx=>absurd hx List.not_mem_nil,fun day j hj=>by omega⟩
 |d+1=>by
  have:=inv_strB (inv_strD b d) b.bodies.length (Nat.le_refl _);have e:strD b (d+1)=strB b (d:Int) (strD b d) b.bodies.length:=rfl;rw[e];refine⟨fun x hx=> ?_,fun day j hj hne=>this.cover day j (by omega) hne⟩;obtain⟨g1,g2,g3,g4,g5,g6⟩:=this.good x hx;exact⟨g1,g2,g3,by omega,g5,g6⟩
theorem stretch_seen{b:Book}(h:OkBook b){t:Truth}(ht:t∈truthsR b []){head:Int}(hh:0<=head/\head<b.bodies.length){day:Int}(hd:0<=day/\day<=364){s:ByteArray}(hs:s≠ByteArray.empty):
  seenR b t head day=s↔∃x∈stretchesR b,x.as_=s/\(t.haves.getD x.line.toNat []).getD x.body.toNat 0=head/\x.span.lo<=day/\day<=x.span.hi:=by
 have hinv:=inv_strD b 365;have hln:=lineN_in b day;have hperm:(atR b t day).Perm (firstH b):=have_in h ht (by omega);obtain⟨p1,p2,p3,p4⟩:=perm_get hperm
 have hin:head∈atR b t day:=hperm.mem_iff.2 (by
  unfold firstH
  rw[List.mem_map];exact⟨head.toNat,List.mem_range.2 (by omega),by omega⟩)
 obtain⟨b1,b2,b3⟩:=bodyOf_in hin;constructor
 ·intro e;have hcov:=hinv.cover day.toNat (bodyOf (atR b t day) head).toNat (.inl ⟨by omega,by omega⟩);have hdn:((day.toNat:Nat):Int)=day:=Int.toNat_of_nonneg hd.1;rw[hdn]at hcov;have hnm:nmd b (bodyOf (atR b t day) head).toNat day=s:=e;rw[hnm]at hcov;obtain⟨x,hx,h1,h2,h3,h4,h5⟩:=hcov hs;refine⟨x,hx,by rw[h3,hnm],?_,h4,h5⟩;rw[h1,h2,Int.toNat_natCast];exact b3
 ·rintro⟨x,hx,h1,h2,h3,h4⟩
  obtain⟨g1,g2,g3,g4,g5,g6⟩:=hinv.good x hx;obtain⟨j,hj,hjb⟩:=g1;obtain⟨q1,q2⟩:=g6 day h3 h4
  have hat:(atR b t day).getD j 0=head:=by
   unfold atR;rw[q1];rw[hjb,Int.toNat_natCast]at h2;exact h2
  have hbj:(bodyOf (atR b t day) head).toNat=j:=nodup_get p2 (by omega) (by omega) (b3.trans hat.symm);show nmd b (bodyOf (atR b t day) head).toNat day=s;rw[hbj,<-h1,<-q2,hjb,Int.toNat_natCast]
end
noncomputable section
inductive P86
 |e
inductive R86
 |r0 (r0:Bool)
def T86(s:ByteArray)(y:Stretch):P86->Tr P86 R86
 |.e=>(.out (.r0 (!(y.as_.toList==s.toList))))
noncomputable def g86(s:ByteArray)(y:Stretch):P86->List Item × St
 |.e=>bd Tryz.f86 [.agg [iI y.line,iI y.body,.str y.as_,iI y.span.lo,iI y.span.hi],rR (.str s)] 6
def n86:R86->Exit × St
 |.r0 r0=>(.ret,⟨mk 8 [(3,.bool r0)],[],[]⟩)
def v86:R86->V
 |.r0 r0=>.bool r0
theorem s86(s:ByteArray)(y:Stretch):Sm 0 (g86 s y) (T86 s y) (n86)
 |.e=>⟨400,by kernel_rfl⟩
theorem q86:∀r,bodyQ Tryz.prog Tryz.f86 (·=v86 r) (n86 r).1 (n86 r).2
 |.r0 r0=>bq (.bool r0) (by kernel_rfl)
theorem w86(s:ByteArray)(y:Stretch){post:V->Prop}(h:WQ (T86 s y) v86 post .e):PC 86 [.agg [iI y.line,iI y.body,.str y.as_,iI y.span.lo,iI y.span.hi],rR (.str s)] post:=
 PCalls.wq Tryz.func86 (s86 s y) q86 h
def delS(s:ByteArray)(y:Stretch):Bool:= !(y.as_.toList==s.toList)
theorem c86(s:ByteArray)(y:Stretch):PC 86 [.agg (tStretch.cells y),rR (.str s)] (·=.bool (delS s y)):=by
 refine w86 s y (WP.step ?_);simp only[T86,Go,Ends',v86,Tr.sure,SS];repeat' with_reducible first|intro _|apply aI
 all_goals simp[delS,Go,Ends',v86,-List.getD_eq_getElem?_getD, *]
 all_goals exact rfl
inductive P115d
 |e
 |l0 (x0_8:Int)
inductive R115d
 |r0 (r0:Int)
def T115d(s:ByteArray)(l:List Stretch):P115d->Tr P115d R115d
 |.e=>(.go (.l0 0))
 |.l0 x0_8=>let c1:=l.getD (x0_8).toNat tStretch.zero;(.br (decide (x0_8<(l.length:Int))) (.need (decide (0<=x0_8)&&decide (x0_8<(l.length:Int))) (.call 86 [.agg [iI (c1.line),iI (c1.body),.str (c1.as_),iI (c1.span.lo),iI (c1.span.hi)],rR (.str s)] (.bool (delS s c1)) true true (.br (delS s c1) (.out (.r0 x0_8)) (.need (inR .i64 (x0_8+(1:Int))) (.go (.l0 (x0_8+(1:Int)))))))) (.out (.r0 (-1))))
noncomputable def g115d(s:ByteArray)(l:List Stretch):P115d->List Item × St
 |.e=>bd Tryz.f115 [tStretch.lst l,fG 86 [rR (.str s)]] 17
 |.l0 x0_8=>(cutOf Tryz.f115 0,⟨mk 19 [(0,tStretch.lst l),(1,fG 86 [rR (.str s)]),(7,iI (l.length:Int)),(8,iI x0_8)],[],[]⟩)
def n115d:R115d->Exit × St
 |.r0 r0=>(.ret,⟨mk 19 [(4,iI r0)],[],[]⟩)
def v115d:R115d->V
 |.r0 r0=>iI r0
theorem s115d(s:ByteArray)(l:List Stretch):Sm 0 (g115d s l) (T115d s l) (n115d)
 |.e=>⟨400,by kernel_rfl⟩
 |.l0 _=>⟨400,by kernel_rfl⟩
theorem q115d:∀r,bodyQ Tryz.prog Tryz.f115 (·=v115d r) (n115d r).1 (n115d r).2
 |.r0 r0=>bq (iI r0) (by kernel_rfl)
theorem w115d(s:ByteArray)(l:List Stretch){post:V->Prop}(h:WQ (T115d s l) v115d post .e):PC 115 [tStretch.lst l,fG 86 [rR (.str s)]] post:=
 PCalls.wq Tryz.func115 (s115d s l) q115d h
def idxD(s:ByteArray)(l:List Stretch):Int:=match firstI (delS s) 0 l with|some i=>(i:Int)|none=> -1
theorem c115d(s:ByteArray)(l:List Stretch)(hl:l.length<=1000000):PC 115 [tStretch.lst l,fG 86 [rR (.str s)]] (·=iI (idxD s l)):=by
 have hz:tStretch.zero=zStretch:=rfl;refine w115d s l (WP.step ?_);simp only[T115d,Go,Ends',v115d,Tr.sure,SS];repeat' with_reducible first|intro _|apply aI
 refine WP.findI (fun i=>.l0 i) rfl l zStretch (delS s) (fun i hi=> ?_) fun hI=> ?_
 ·have hr1:inR .i64 ((i:Int)+1)=true:=inR64 (by omega) (by omega);have k86:=c86 s (l.getD i zStretch);refine WP.once ?_;simp only[T115d,Tr.sure,SS,hi,hz];repeat' with_reducible first|intro _|apply aI
  all_goals first|exact k86|(simp[hr1,idxD,Go,Ends',v115d,-List.getD_eq_getElem?_getD, *];done)|(simp_all [hr1,idxD,Go,Ends',v115d,-List.getD_eq_getElem?_getD];done)
 ·refine WP.step ?_;simp only[T115d,Go,Ends',v115d,Tr.sure,SS];repeat' with_reducible first|intro _|apply aI
  all_goals simp[hI,idxD,Go,Ends',v115d,-List.getD_eq_getElem?_getD, *]
def padD(l:List Stretch)(n:Nat):List Stretch:=l++List.replicate (n-l.length) zStretch
inductive P85
 |e
 |l0 (x0_5:Int) (x0_6:Int) (a0_0:List Stretch)
inductive R85
 |r0 (r0:List Stretch)
 |r1 (r0:List Stretch) (r1:Nat)
def T85(n:Nat)(s:ByteArray)(l:List Stretch):P85->Tr P85 R85
 |.e=>(.call 115 [.list 5 n (rowsOf tStretch l),fG 86 [rR (.str s)]] (iI (idxD s l)) ((decide (n<=n))&&true) true (.br ((idxD s l)==(-1)) (.out (.r0 l)) (.need (inR .i64 ((idxD s l)+(1:Int))) (.go (.l0 (idxD s l) ((idxD s l)+(1:Int)) l)))))
 |.l0 x0_5 x0_6 a0_0=>let c2:=a0_0.getD (x0_6).toNat tStretch.zero;let c1:List V:=[iI (c2.line),iI (c2.body),.str (c2.as_),iI (c2.span.lo),iI (c2.span.hi)];let c3:=((n:Int)).toNat-(x0_5).toNat;let c4:=rowsOf tStretch a0_0;let c5:=([iI 0,iI 0,.str (ByteArray.mk #[]),iI 0,iI 0]:List V);let c6:=x0_6+(1:Int);let c7:=(x0_5).toNat;let c8:=padD (a0_0.take (x0_5).toNat) n;let c9:=(c1:List V);(.br (decide (x0_6<(n:Int))) (.need ((decide (0<=x0_6)&&decide (x0_6<(n:Int)))&&decide (n<=n)) (.need (decide ((x0_6).toNat<n)&&decide (0+5<=5)) (.call 86 [.agg c1,rR (.str s)] (.bool (delS s c2)) true true (.br (!(delS s c2)) (.need ((decide (0<=x0_5)&&decide (x0_5<(n:Int)))&&decide (n<=n)) (.need ((decide ((x0_5).toNat<n)&&decide (0+c9.length<=5))&&underL 0 c9) (.telb 0 5 n (fun r' j=>if r'=(x0_5).toNat/\0<=j/\j<0+c9.length then c9.getD (j-0) uU else c4 r' j) (rowsOf tStretch (a0_0.set c7 c2)) (.need (inR .i64 (x0_5+(1:Int))) (.need (inR .i64 c6) (.go (.l0 (x0_5+(1:Int)) c6 (a0_0.set c7 c2)))))))) (.need (inR .i64 c6) (.go (.l0 x0_5 c6 a0_0))))))) (.need (((decide (0<=x0_5)&&decide (x0_5<=(n:Int)))&&decide ((n:Int)<=(n:Int)))&&decide (n<=n)) (.sem (opAt Tryz.f85 11 3) [(.tmp 38,.sub 0 c7 0 5 c3)] [.rows 142 5 n c4] (.tuple []) [.rows 142 5 n (fun q j=>if(x0_5).toNat<=q/\q<(x0_5).toNat+c3 then c5.getD j uU else c4 q j)] true (.wait 1 (.telb 0 5 n (fun q j=>if(x0_5).toNat<=q/\q<(x0_5).toNat+c3 then c5.getD j uU else c4 q j) (rowsOf tStretch c8) (.need (((decide (0<=(0:Int))&&decide ((0:Int)<=x0_5))&&decide (x0_5<=(n:Int)))&&decide (n<=n)) (.out (.r1 c8 c7))))))))
noncomputable def g85(n:Nat)(s:ByteArray)(l:List Stretch):P85->List Item × St
 |.e=>([.code (Tryz.f85.body.getD .skip)],⟨[.row 0 n,fG 86 [rR (.str s)]]++List.replicate 40 uU,[.rows 142 5 n (rowsOf tStretch l)],[]⟩)
 |.l0 x0_5 x0_6 a0_0=>(cutOf Tryz.f85 0,⟨mk 42 [(0,.row 0 n),(1,fG 86 [rR (.str s)]),(5,iI x0_5),(6,iI x0_6)],[.rows 142 5 n (rowsOf tStretch a0_0)],[]⟩)
def n85(n:Nat)(s:ByteArray)(l:List Stretch):R85->Exit × St
 |.r0 r0=>(.ret,⟨mk 42 [(4,.row 0 n)],[.rows 142 5 n (rowsOf tStretch r0)],[]⟩)
 |.r1 r0 r1=>(.ret,⟨mk 42 [(4,.row 0 r1)],[.rows 142 5 n (rowsOf tStretch r0)],[]⟩)
theorem s85(n:Nat)(s:ByteArray)(l:List Stretch):Sm 1 (g85 n s l) (T85 n s l) (n85 n s l)
 |.e=>⟨400,by kernel_rfl⟩
 |.l0 _ _ _=>⟨400,by kernel_rfl⟩
def hh85(n:Nat)(s:ByteArray)(l:List Stretch):R85->List Blk
 |.r0 r0=>[.rows 142 5 n (rowsOf tStretch r0)]
 |.r1 r0 r1=>[.rows 142 5 n (rowsOf tStretch r0)]
def v85(n:Nat)(s:ByteArray)(l:List Stretch):R85->V
 |.r0 r0=>.row 0 n
 |.r1 r0 r1=>.row 0 r1
theorem q85(n:Nat)(s:ByteArray)(l:List Stretch):∀r,((n85 n s l r).1=.normal\/(n85 n s l r).1=.ret)/\(n85 n s l r).2.d=[]/\(n85 n s l r).2.h=hh85 n s l r/\resultV Tryz.prog Tryz.f85 (n85 n s l r).2=some (v85 n s l r)
 |.r0 r0=>⟨.inr rfl,rfl,rfl,by kernel_rfl⟩
 |.r1 r0 r1=>⟨.inr rfl,rfl,rfl,by kernel_rfl⟩
theorem w85(n:Nat)(s:ByteArray)(l:List Stretch){V0:V}{h':List Blk}(h:WP Tryz.prog ⟨none,1⟩ (T85 n s l) (Ends' fun r=>v85 n s l r=V0/\hh85 n s l r=h') .e):HCalls Tryz.prog 85 [.row 0 n,fG 86 [rR (.str s)]] V0 [.rows 142 5 n (rowsOf tStretch l)] h':=
 HCalls.wp mx Tryz.func85 (by kernel_rfl) (by kernel_rfl) (T85 n s l) (g85 n s l) (n85 n s l) .e rfl (s85 n s l) h fun r hr=>by rw[<-hr.1,<-hr.2];exact q85 n s l r
def kept(s:ByteArray)(l:List Stretch)(j:Nat):List Stretch:=(l.take j).filter fun x=> !(delS s x)
def lay85(s:ByteArray)(l:List Stretch)(j:Nat):List Stretch:=kept s l j++l.drop (kept s l j).length
theorem kept_len(s:ByteArray)(l:List Stretch)(j:Nat):(kept s l j).length<=j:=by
 unfold kept;exact Nat.le_trans (List.length_filter_le _ _) (by rw[List.length_take];omega)
theorem kept_le(s:ByteArray)(l:List Stretch)(j:Nat):(kept s l j).length<=l.length:=by
 unfold kept;exact Nat.le_trans (List.length_filter_le _ _) (by rw[List.length_take];omega)
theorem kept_y{s:ByteArray}{l:List Stretch}{j:Nat}(hj:j<l.length)(h:delS s (l.getD j zStretch)=false):kept s l (j+1)=kept s l j++ [l.getD j zStretch]:=by
 unfold kept;rw[take_snoc zStretch l j hj,List.filter_append,List.filter_cons,h];rfl
theorem kept_n{s:ByteArray}{l:List Stretch}{j:Nat}(hj:j<l.length)(h:delS s (l.getD j zStretch)=true):kept s l (j+1)=kept s l j:=by
 unfold kept;rw[take_snoc zStretch l j hj,List.filter_append,List.filter_cons,h];simp
theorem lay_len(s:ByteArray)(l:List Stretch)(j:Nat):(lay85 s l j).length=l.length:=by
 have:=kept_le s l j;unfold lay85;rw[List.length_append,List.length_drop];omega
theorem lay_get{s:ByteArray}{l:List Stretch}{j:Nat}(hj:j<l.length):(lay85 s l j).getD j zStretch=l.getD j zStretch:=by
 have:=kept_len s l j;unfold lay85;rw[gE,List.getElem?_append_right this,List.getElem?_drop,gE,show(kept s l j).length+(j-(kept s l j).length)=j by omega]
theorem lay_y{s:ByteArray}{l:List Stretch}{j:Nat}(hj:j<l.length)(h:delS s (l.getD j zStretch)=false):(lay85 s l j).set (kept s l j).length (l.getD j zStretch)=lay85 s l (j+1):=by
 have hk:=kept_len s l j;unfold lay85;rw[kept_y hj h,List.set_append_right _ _ (Nat.le_refl _),Nat.sub_self,drop_cons zStretch l (kept s l j).length (by omega),List.set_cons_zero,List.length_append,List.length_singleton];simp
theorem lay_n{s:ByteArray}{l:List Stretch}{j:Nat}(hj:j<l.length)(h:delS s (l.getD j zStretch)=true):lay85 s l (j+1)=lay85 s l j:=by unfold lay85;rw[kept_n hj h]
theorem firstI_before{τ:Type}{p:τ->Bool}(dflt:τ):∀ {l:List τ} {k i:Nat},firstI p k l=some i->∀j,k+j<i->p (l.getD j dflt)=false
 |[],_,_,h=>by cases h
 |x::l,k,i,h=>fun j hj=>by
  simp only[firstI]at h;split at h
  ·cases h;omega
  ·rename_i hp
   cases j with
   |zero=>simpa using hp
   |succ j=>exact firstI_before dflt h j (by omega)
theorem kept_all{s:ByteArray}{l:List Stretch}:∀j,j<=l.length->(∀i,i<j->delS s (l.getD i zStretch)=false)->kept s l j=l.take j
 |0,_,_=>rfl
 |j+1,hj,h=>by rw[kept_y (by omega) (h j (by omega)),kept_all j (by omega) (fun i hi=>h i (by omega)),<-take_snoc zStretch l j (by omega)]
theorem tel_clear85(L:List Stretch)(n i:Nat)(hn:L.length=n)(hi:i<=n){q j:Nat}(hq:q<n)(hj:j<5):
  VLe (if i<=q/\q<i+(n-i)then([iI 0,iI 0,.str (ByteArray.mk #[]),iI 0,iI 0]:List V).getD j uU else rowsOf tStretch L q j) (rowsOf tStretch (padD (L.take i) n) q j):=by
 have hl:(L.take i).length=i:=by rw[List.length_take];omega
 unfold rowsOf padD;rw[hl,gE (l:=_++_)];by_cases h:i<=q
 ·rw[if_pos ⟨h,by omega⟩,List.getElem?_append_right (by omega),List.getElem?_replicate,if_pos (by omega)];exact VLe.refl _
 ·rw[if_neg (by omega),aL (by omega),List.getElem?_take_of_lt (by omega),<-List.getD_eq_getElem?_getD];exact VLe.refl _
theorem tel_set85(L:List Stretch)(i:Nat)(x:Stretch){n r j:Nat}(hr:r<n)(hj:j<5)(hn:L.length=n):
  VLe (if r=i/\0<=j/\j<0+([iI x.line,iI x.body,.str x.as_,iI x.span.lo,iI x.span.hi]:List V).length then([iI x.line,iI x.body,.str x.as_,iI x.span.lo,iI x.span.hi]:List V).getD (j-0) uU else rowsOf tStretch L r j) (rowsOf tStretch (L.set i x) r j):=
 tel_set tStretch L i x (n:=n) (w:=5) [iI x.line,iI x.body,.str x.as_,iI x.span.lo,iI x.span.hi] rfl rfl hn.symm r j hr hj
theorem underS(x:Stretch):underL 0 [V.int .i64 x.line,iI x.body,.str x.as_,iI x.span.lo,iI x.span.hi]=true:=rfl
theorem sem85(L:List Stretch)(n i:Nat)(hi:i<=n):SemOK Tryz.prog (opAt Tryz.f85 11 3) [(.tmp 38,.sub 0 i 0 5 (n-i))] [.rows 142 5 n (rowsOf tStretch L)] (.tuple []) [.rows 142 5 n (fun q j=>if i<=q/\q<i+(n-i)then([iI 0,iI 0,.str (ByteArray.mk #[]),iI 0,iI 0]:List V).getD j uU else rowsOf tStretch L q j)]:=by
 have e:opAt Tryz.f85 11 3=.call {callee:=.builtin .clear,args:= #[.tmp 38],argTypes:= #[138]}:=by kernel_rfl
 rw[e];exact sem_clear (e:=142) (i:=0) (by kernel_rfl) (by kernel_rfl) rfl rfl rfl (by omega)
set_option maxHeartbeats 4000000 in
theorem c85(s:ByteArray)(l:List Stretch)(hl:l.length<=100000):HCalls Tryz.prog 85 [.row 0 l.length,fG 86 [rR (.str s)]] (.row 0 (l.filter fun x=> !(delS s x)).length) [.rows 142 5 l.length (rowsOf tStretch l)] [.rows 142 5 l.length (rowsOf tStretch (padD (l.filter fun x=> !(delS s x)) l.length))]:=by
 have hz:tStretch.zero=zStretch:=rfl;have k115:=c115d s l (by omega);have hkf:kept s l l.length=l.filter fun x=> !(delS s x):=by unfold kept;rw[List.take_length]
 rw[<-hkf]
 cases hf:firstI (delS s) 0 l with
 |none=>
  have hidx:idxD s l= -1:=by unfold idxD;rw[hf]
  have hall:∀i,i<l.length->delS s (l.getD i zStretch)=false:=fun i hi=>by
   have:=firstI_any (delS s) l 0;rw[hf]at this;have h2:=List.any_eq_false.1 this.symm (l.getD i zStretch) (getD_mem zStretch l i hi);simpa using h2
  have hk:=kept_all l.length (Nat.le_refl _) hall;rw[List.take_length]at hk;have hpd:padD l l.length=l:=by unfold padD;rw[Nat.sub_self];simp
  rw[hk,hpd];rw[hidx]at k115;clear hk hkf hpd hall hf
  refine w85 l.length s l (WP.step ?_);simp only[T85,Go,Ends',v85,Tr.sure,SS,hidx];repeat' with_reducible first|intro _|apply aI
  all_goals first|exact k115|(simp[hidx,Go,Ends',v85,-List.getD_eq_getElem?_getD, *];done)|skip
  all_goals exact rfl
 |some i0=>
  obtain⟨-,i1,i2⟩:=firstI_get zStretch hf;rw[Nat.sub_zero]at i1 i2;have hbef:=fun j (hj:j<i0)=>firstI_before zStretch hf j (by omega);have hidx:idxD s l=(i0:Int):=by unfold idxD;rw[hf]
  have hk0:=kept_all i0 (by omega) hbef;have hk1:kept s l (i0+1)=l.take i0:=by rw[kept_n i1 i2,hk0]
  have hk1l:(kept s l (i0+1)).length=i0:=by rw[hk1,List.length_take];omega
  have hL0:lay85 s l (i0+1)=l:=by unfold lay85;rw[hk1l,hk1,List.take_append_drop]
  have hne:((i0:Int)== -1)=false:=by rw[beq_eq_false_iff_ne];omega
  have hr0:inR .i64 ((i0:Int)+1)=true:=inR64 (by omega) (by omega)
  have hmain:WP Tryz.prog ⟨none,1⟩ (T85 l.length s l) (Ends' fun r=>v85 l.length s l r=.row 0 (kept s l l.length).length/\hh85 l.length s l r=[.rows 142 5 l.length (rowsOf tStretch (padD (kept s l l.length) l.length))]) (.l0 (i0:Int) ((i0:Int)+1) l):=by
   refine WP.run (fun k=>.l0 ((kept s l (i0+1+k)).length:Int) ((i0:Int)+1+(k:Int)) (lay85 s l (i0+1+k))) (by rw[Nat.add_zero,hk1l,hL0];simp) (l.length-(i0+1)) (fun k hk=> ?_) ?_
   ·obtain⟨j,hj⟩:∃j,j=i0+1+k:=⟨_,rfl⟩
    have ej:(i0:Int)+1+(k:Int)=(j:Int):=by omega
    have ej2:(i0:Int)+1+((k+1:Nat):Int)=(j:Int)+1:=by omega
    have ej3:i0+1+(k+1)=j+1:=by omega
    rw[ej2,ej3,ej,<-hj];have hjl:j<l.length:=by omega
    have hj':(j:Int)<l.length:=by omega
    have hr:inR .i64 ((j:Int)+1)=true:=inR64 (by omega) (by omega);have hkl:=kept_len s l j;have hr2:inR .i64 (((kept s l j).length:Int)+1)=true:=inR64 (by omega) (by omega);have hki:((kept s l j).length:Int)<l.length:=by omega
    have hki2:(kept s l j).length<l.length:=by omega
    have hget:=lay_get (s:=s) hjl;have hln:=lay_len s l j;have k86:=c86 s (l.getD j zStretch)
    cases hd:delS s (l.getD j zStretch)with
    |true=>
     rw[lay_n hjl hd,kept_n hjl hd];rw[hd]at k86;generalize lay85 s l j=L at*
     clear hj ej ej2 ej3 hk1 hk1l hk0 hL0 hkf hbef hf i2 k115
     refine WP.once ?_;simp only[T85,Tr.sure,SS,hj',hz,hget,hd,Int.toNat_natCast];repeat' with_reducible first|intro _|apply aI
     all_goals first|exact k86|(simp[hr,Go,Ends',v85,-List.getD_eq_getElem?_getD, *];done)
    |false=>
     have hky:((kept s l (j+1)).length:Int)=((kept s l j).length:Int)+1:=by rw[kept_y hjl hd,List.length_append,List.length_singleton];omega
     rw[hky,<-lay_y hjl hd];rw[hd]at k86;generalize lay85 s l j=L at*
     generalize kept s l j=Kp at*
     generalize l.getD j zStretch=X at*
     clear hj ej ej2 ej3 hk1 hk1l hk0 hL0 hkf hbef hf i2 k115 hky
     refine WP.once ?_;simp only[T85,Tr.sure,SS,hj',hki,hki2,hz,hget,hd,Int.toNat_natCast];repeat' with_reducible first|intro _|apply aI
     all_goals first|exact k86|exact(by with_reducible exact tel_set85 _ _ _ (by assumption) (by assumption) (by assumption))|exact(by with_reducible exact underS _)|(simp[hr,hr2,Go,Ends',v85,-List.getD_eq_getElem?_getD, *];done)
   ·have hkl:=kept_le s l l.length;have e1:i0+1+(l.length-(i0+1))=l.length:=by omega
    have e2:(i0:Int)+1+((l.length-(i0+1):Nat):Int)=l.length:=by omega
    rw[e1,e2];have hln:=lay_len s l l.length;have htk:(lay85 s l l.length).take (kept s l l.length).length=kept s l l.length:=by unfold lay85;rw[List.take_append_of_le_length (Nat.le_refl _),List.take_length]
    have hle2:((kept s l l.length).length:Int)<=l.length:=by omega
    have ks:=sem85 (lay85 s l l.length) l.length (kept s l l.length).length hkl;have kt:=fun {q j:Nat} (hq:q<l.length) (hj:j<5)=>tel_clear85 (lay85 s l l.length) l.length (kept s l l.length).length hln hkl hq hj;rw[htk]at kt;generalize lay85 s l l.length=L at*
    generalize kept s l l.length=Kp at*
    clear e1 e2 hk1 hk1l hk0 hL0 hkf hbef hf i2 k115
    refine WP.step ?_;simp only[T85,Go,Ends',v85,Tr.sure,SS,Int.lt_irrefl,hle2,htk,Int.toNat_natCast];repeat' with_reducible first|intro _|apply aI
    all_goals first|exact ks|exact(by with_reducible exact kt (by assumption) (by assumption))|(simp[Go,Ends',v85,-List.getD_eq_getElem?_getD, *];done)|skip
    all_goals exact rfl
  rw[hidx]at k115;clear hk1 hk1l hk0 hL0 hbef hf i2 hkf
  refine w85 l.length s l (WP.step ?_);simp only[T85,Go,Ends',v85,Tr.sure,SS,hidx,hne];repeat' with_reducible first|intro _|apply aI
  all_goals first|exact k115|exact hmain|(simp[hidx,hne,hr0,Go,Ends',v85,-List.getD_eq_getElem?_getD, *];done)
end
noncomputable section
inductive P84h
 |e
 |l0 (x0_10:Int) (a0_0:List Stretch)
 |l1 (x0_10:Int) (x1_19:Int) (a1_0:List Stretch)
inductive R84h
 |r0 (r0:Nat) (r1:List Stretch) (r2:Nat)
def T84h(x:Look):P84h->Tr P84h R84h
 |.e=>(.wait 2 (.own 2 142 5 (.go (.l0 0 ([])))))
 |.l0 x0_10 a0_0=>(.br (decide (x0_10<(365:Int))) (.go (.l1 x0_10 0 a0_0)) (.wait 2 (.telb 0 5 a0_0.length (rowsRev tStretch a0_0) (rowsOf tStretch a0_0.reverse) (.out (.r0 a0_0.length a0_0.reverse a0_0.length)))))
 |.l1 x0_10 x1_19 a1_0=>let c2:=namedR (x.b.bodies.getD (x1_19).toNat zBody) x0_10;let c1:=idxS (⟨(lineN x.b x0_10),x1_19,c2,(⟨x0_10,x0_10⟩:Span)⟩:Stretch) x0_10 a1_0.reverse;let c3:List V:=[iI (lineN x.b x0_10),iI x1_19,.str c2,iI x0_10,iI x0_10];let c4:=x1_19+(1:Int);let c5:=setS a1_0 c1 x0_10;let c6:=(x.b.bodies.length:Int);(.br (decide (x1_19<c6)) (.front [(2,77,[lk x,iI x0_10],iI (lineN x.b x0_10)),(7,81,[lk x,iI x1_19,iI x0_10],.str c2)] [] true true (.call 115 [.list 5 a1_0.length (rowsRev tStretch a1_0),fG 116 [.cref 5 fun q=>(c3:List V).getD q uU,rR (iI x0_10)]] (iI c1) ((decide (a1_0.length<=a1_0.length))&&true) true (.br (c2.toList==(ByteArray.mk #[]).toList) (.need (inR .i64 c4) (.go (.l1 x0_10 c4 a1_0))) (.br (decide (c1≥(0:Int))) (.drop ⟨[.nil,uU,.nil,.nil,.nil,uU,uU,.nil,uU,uU,.nil,uU,uU,uU,uU,uU,uU,uU,.nil,.nil,uU,uU,uU,uU,uU,uU,uU,uU,uU,uU,uU,uU,uU,uU,uU,uU,uU,uU,uU,uU,uU,uU,uU,uU,uU,uU,uU,uU,uU,uU,uU,uU,uU,uU,uU,uU,uU],[.void,.void,.void],[]⟩ (.over (regionF Tryz.f84 13) ⟨[lk x,uU,.row 0 a1_0.length,.func (.func 81) [lk x] [],.ref 1 0 0,uU,uU,iI c1,uU,uU,iI x0_10,uU,uU,uU,uU,uU,uU,uU,iI c6,iI x1_19,uU,uU,uU,uU,uU,uU,uU,uU,uU,uU,uU,uU,uU,uU,uU,uU,uU,uU,uU,uU,uU,uU,uU,uU,uU,uU,uU,uU,uU,uU,uU,uU,uU,uU,uU,uU,uU],[.rows 142 5 a1_0.length (rowsRev tStretch a1_0),.cells [iI x0_10],.cells c3],[]⟩ .normal ⟨[lk x,uU,.row 0 (c5.length),.func (.func 81) [lk x] [],.ref 1 0 0,uU,uU,iI c1,uU,uU,iI x0_10,uU,uU,uU,uU,uU,uU,uU,iI c6,iI x1_19,uU,uU,uU,uU,uU,uU,uU,uU,uU,uU,uU,uU,uU,uU,uU,uU,uU,uU,uU,uU,uU,uU,uU,uU,uU,uU,uU,uU,uU,uU,uU,uU,uU,uU,uU,uU,uU],[.rows 142 5 (c5.length) (rowsRev tStretch c5),.cells [iI x0_10],.cells c3],[]⟩ true (.need (inR .i64 c4) (.go (.l1 x0_10 c4 c5))))) (.need ((decide (a1_0.length=a1_0.length)&&decide (a1_0.length+1<=4294967296))&&decide (1<=1)) (.scal (fun _=>true) (.need (inR .i64 c4) (.go (.l1 x0_10 c4 ((⟨(lineN x.b x0_10),x1_19,c2,(⟨x0_10,x0_10⟩:Span)⟩:Stretch)::a1_0)))))))))) (.need (inR .i64 (x0_10+(1:Int))) (.go (.l0 (x0_10+(1:Int)) a1_0))))
noncomputable def g84h(x:Look):P84h->List Item × St
 |.e=>bd Tryz.f84 [lk x] 56
 |.l0 x0_10 a0_0=>(cutOf Tryz.f84 0,⟨mk 57 [(0,lk x),(2,.row 0 a0_0.length),(3,.func (.func 81) [lk x] []),(10,iI x0_10)],[.rows 142 5 a0_0.length (rowsRev tStretch a0_0)],[]⟩)
 |.l1 x0_10 x1_19 a1_0=>(cutOf Tryz.f84 1,⟨mk 57 [(0,lk x),(2,.row 0 a1_0.length),(3,.func (.func 81) [lk x] []),(4,.ref 1 0 0),(10,iI x0_10),(18,iI (x.b.bodies.length:Int)),(19,iI x1_19)],[.rows 142 5 a1_0.length (rowsRev tStretch a1_0),.cells [iI x0_10]],[]⟩)
def n84h:R84h->Exit × St
 |.r0 r0 r1 r2=>(.ret,⟨mk 57 [(2,.row 0 r2)],[.rows 142 5 r0 (rowsOf tStretch r1)],[]⟩)
theorem s84h(x:Look):Sm 0 (g84h x) (T84h x) (n84h)
 |.e=>⟨400,by kernel_rfl⟩
 |.l0 _ _=>⟨400,by kernel_rfl⟩
 |.l1 _ _ _=>⟨400,by kernel_rfl⟩
def hh84h:R84h->List Blk
 |.r0 r0 r1 r2=>[.rows 142 5 r0 (rowsOf tStretch r1)]
def v84h:R84h->V
 |.r0 r0 r1 r2=>.row 0 r2
theorem q84h:∀r,((n84h r).1=.normal\/(n84h r).1=.ret)/\(n84h r).2.d=[]/\(n84h r).2.h=hh84h r/\resultV Tryz.prog Tryz.f84 (n84h r).2=some (v84h r)
 |.r0 r0 r1 r2=>⟨.inr rfl,rfl,rfl,by kernel_rfl⟩
theorem w84h(x:Look){V0:V}{h':List Blk}(h:WP Tryz.prog ⟨none,0⟩ (T84h x) (Ends' fun r=>v84h r=V0/\hh84h r=h') .e):HCalls Tryz.prog 84 [lk x] V0 [] h':=
 HCalls.wp mx Tryz.func84 (by kernel_rfl) (by kernel_rfl) (T84h x) (g84h x) (n84h) .e rfl (s84h x) h fun r hr=>by rw[<-hr.1,<-hr.2];exact q84h r
set_option maxHeartbeats 4000000 in
theorem c84h(b:Book)(h:OkBook b):HCalls Tryz.prog 84 [lk (lookOf b)] (.row 0 (stretchesR b).length) [] [.rows 142 5 (stretchesR b).length (rowsOf tStretch (stretchesR b))]:=by
 have hnb:=h.nb
 have hmain:WP Tryz.prog ⟨none,0⟩ (T84h (lookOf b)) (Ends' fun r=>v84h r=.row 0 (stretchesR b).length/\hh84h r=[.rows 142 5 (stretchesR b).length (rowsOf tStretch (stretchesR b))]) (.l0 0 []):=by
  refine WP.run (fun d=>.l0 (d:Int) (strD b d).reverse) rfl 365 (fun d hd=> ?_) ?_
  ·have hr:inR .i64 ((d:Int)+1)=true:=inR64 (by omega) (by omega);have hrm:inR .i64 ((d:Int)-1)=true:=inR64 (by omega) (by omega);have hd':(d:Int)<365:=by omega
   have hdl:=strD_len h d;have hci:((d+1:Nat):Int)=(d:Int)+1:=by omega
   have hnx:strD b (d+1)=strB b (d:Int) (strD b d) b.bodies.length:=rfl;rw[hnx];generalize strD b d=D at*
   refine WP.step ?_;simp only[T84h,Go,Ends',v84h,Tr.sure,SS,hd',lookOf_b,Int.toNat_natCast];repeat' with_reducible first|intro _|apply aI
   refine WP.run (fun k=>.l1 (d:Int) (k:Int) (strB b (d:Int) D k).reverse) rfl b.bodies.length (fun k hk=> ?_) ?_
   ·have hr2:inR .i64 ((k:Int)+1)=true:=inR64 (by omega) (by omega);have hk':(k:Int)<b.bodies.length:=by omega
    have hk0:(0:Int)<=k:=by omega
    have k77:=c77 b h (d:Int);have k81:=c81 b h (k:Int) (d:Int) ⟨by omega,by omega⟩;rw[Int.toNat_natCast]at k81;have hbl:=strB_len b (d:Int) D k;have hst:strB b (d:Int) D (k+1)=stepS b (d:Int) k (strB b (d:Int) D k):=rfl;rw[hst];generalize strB b (d:Int) D k=l at*
    have hll:l.length<=1000000:=by omega
    have hal:l.reverse.length+1<=4294967296:=by rw[List.length_reverse];omega
    have k115:=c115 (oneS b (d:Int) k) (d:Int) l hll hrm
    have kl:VLe (.list 5 l.reverse.length (rowsRev tStretch l.reverse)) (tStretch.lst l):=by
     have:=VLe.rev tStretch l.reverse;rwa[List.reverse_reverse]at this
    have k115':=PCalls.arg (pre:=[]) k115 kl;have hrr:l.reverse.reverse=l:=List.reverse_reverse _;have hone:(⟨lineN b (d:Int),(k:Int),namedR (b.bodies.getD k zBody) (d:Int),(⟨(d:Int),(d:Int)⟩:Span)⟩:Stretch)=oneS b (d:Int) k:=rfl;unfold stepS;by_cases he:((namedR (b.bodies.getD k zBody) (d:Int)).toList==(ByteArray.mk #[]).toList)=true
    ·rw[if_pos he];refine WP.once ?_;simp only[T84h,Tr.sure,SS,hk',hk0,lookOf_b,Int.toNat_natCast,he,hrr,hone];repeat' with_reducible first|intro _|apply aI
     all_goals first|exact k77|exact k81|exact k115'|(simp[hr2,Go,Ends',v84h,-List.getD_eq_getElem?_getD, *];done)
    ·rw[if_neg he];have he':((namedR (b.bodies.getD k zBody) (d:Int)).toList==(ByteArray.mk #[]).toList)=false:=by simpa using he
     by_cases hx:0<=idxS (oneS b (d:Int) k) (d:Int) l
     ·rw[if_pos hx];obtain⟨io,hio,hil⟩:=idxS_in _ _ _ hx;rw[hio]at hx k115'⊢;have hset:(setL l (io:Int) (d:Int)).reverse=setS l.reverse (io:Int) (d:Int):=by unfold setS;rw[List.reverse_reverse]
      rw[hset];have kov:=ov84_13 (lookOf b) l.reverse (d:Int) (b.bodies.length:Int) (k:Int) io (lineN b (d:Int)) (k:Int) (namedR (b.bodies.getD k zBody) (d:Int)) (d:Int) (d:Int) (by rw[List.length_reverse];exact hil);generalize l.reverse=A at*
      refine WP.once ?_;simp only[T84h,Tr.sure,SS,hk',hk0,lookOf_b,Int.toNat_natCast,he',hrr,hone,hio,hx];repeat' with_reducible first|intro _|apply aI
      all_goals first|exact k77|exact k81|exact k115'|exact kov|(simp[hr2,Go,Ends',v84h,-List.getD_eq_getElem?_getD, *];done)
     ·rw[if_neg hx];have hx':¬idxS (oneS b (d:Int) k) (d:Int) l≥0:=hx;have hap:(l++ [oneS b (d:Int) k]).reverse=oneS b (d:Int) k::l.reverse:=by simp
      rw[hap];generalize l.reverse=A at*
      refine WP.once ?_;simp only[T84h,Tr.sure,SS,hk',hk0,lookOf_b,Int.toNat_natCast,he',hrr,hone,hx'];repeat' with_reducible first|intro _|apply aI
      all_goals first|exact k77|exact k81|exact k115'|(simp[hr2,hal,Go,Ends',v84h,-List.getD_eq_getElem?_getD, *];done)
   ·rw[hci];generalize(strB b (d:Int) D b.bodies.length).reverse=A at*
    refine WP.once ?_;simp only[T84h,Tr.sure,SS,Int.lt_irrefl,lookOf_b];repeat' with_reducible first|intro _|apply aI
    all_goals simp[hr,Go,Ends',v84h,-List.getD_eq_getElem?_getD, *]
  ·have e:(strD b 365).reverse.reverse=stretchesR b:=by rw[List.reverse_reverse];rfl
   have kt:=fun {r j:Nat} (hr:r<(strD b 365).reverse.length) (_:j<5)=>(show VLe (rowsRev tStretch (strD b 365).reverse r j) (rowsOf tStretch (strD b 365).reverse.reverse r j)from by rw[rowsRev_get tStretch _ r j hr];exact VLe.refl _)
   have el:(strD b 365).reverse.length=(stretchesR b).length:=by rw[List.length_reverse];rfl
   generalize(strD b 365).reverse=A at*
   refine WP.step ?_;simp only[T84h,Go,Ends',v84h,Tr.sure,SS];repeat' with_reducible first|intro _|apply aI
   all_goals first|exact(by with_reducible exact kt (by assumption) (by assumption))|(simp[e,el,Go,Ends',v84h,-List.getD_eq_getElem?_getD, *];done)|(simp_all [e,el,Go,Ends',v84h,-List.getD_eq_getElem?_getD];done)|skip
   all_goals(show[Blk.rows 142 5 A.length (rowsOf tStretch A.reverse)]=_;rw[e,el])
 refine w84h (lookOf b) (WP.step ?_);simp only[T84h,Go,Ends',v84h,Tr.sure,SS];repeat' with_reducible first|intro _|apply aI
 all_goals exact hmain
end
end Go.Proofs.YtemgodefhcbleaaGreat
