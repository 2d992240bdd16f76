/-
  Part of the proof of the Claim laws. Conditions: those that stand in each theorem.
-/
import Derived.KernelRfl
import Derived.Laws.CopyRow
import Derived.Test.YtdamoemndifpmaaGreatB07
set_option linter.unusedSimpArgs false
set_option linter.unusedVariables false
set_option maxRecDepth 100000
namespace Go.Proofs.YtdamoemndifpmaaGreat
open Ab Go
theorem asc_eq:∀ {a b:List Int},a.Pairwise (·<·)->b.Pairwise (·<·)->(∀x,x∈a↔x∈b)->a=b
 |[],[],_,_,_=>rfl
 |[],y::b,_,_,h=>absurd ((h y).2 (by simp)) (by simp)
 |x::a,[],_,_,h=>absurd ((h x).1 (by simp)) (by simp)
 |x::a,y::b,ha,hb,h=>by
  have ha':=List.pairwise_cons.1 ha;have hb':=List.pairwise_cons.1 hb
  have hxy:x=y:=by
   have h1:=(h x).1 (by simp);have h2:=(h y).2 (by simp);rcases List.mem_cons.1 h1 with e|e
   ·exact e
   ·rcases List.mem_cons.1 h2 with e2|e2
    ·exact e2.symm
    ·have:=hb'.1 x e;have:=ha'.1 y e2;omega
  subst hxy;congr 1
  refine asc_eq ha'.2 hb'.2 fun z=> ?_;constructor
  ·intro hz;rcases List.mem_cons.1 ((h z).1 (by simp[hz]))with e|e
   ·have:=ha'.1 z hz;omega
   ·exact e
  ·intro hz;rcases List.mem_cons.1 ((h z).2 (by simp[hz]))with e|e
   ·have:=hb'.1 z hz;omega
   ·exact e
theorem sortZ_asc{l:List Int}(h:l.Nodup):(sortZ l).Pairwise (·<·):=by
 have h1:(sortZ l).Pairwise fun a b=>decide (a<=b)=true:=List.pairwise_mergeSort (fun a b c h1 h2=>by simp at h1 h2⊢;omega) (fun a b=>by simp;omega) l;have h2:(sortZ l).Nodup:=(List.mergeSort_perm l _).nodup_iff.2 h;have h3:=h1.and (List.nodup_iff_pairwise_ne.1 h2)
 exact h3.imp fun {a b} h=>by
  have:=of_decide_eq_true h.1;have:=h.2;omega
theorem caseSets_asc(c:Case):(caseSets c).Pairwise (·<·):=by
 unfold caseSets;rw[List.pairwise_map];exact(List.pairwise_lt_range.filter _).imp fun h=>by omega
theorem mem_caseSets{c:Case}(h5:c.claims.length<=5){x:Int}:x∈caseSets c↔∃l∈truths c.shop,x∈casesR c l:=by
 unfold caseSets;simp only[List.mem_map,List.mem_filter,List.mem_range,List.any_eq_true,hasN_iff];constructor
 ·rintro⟨n,⟨_,l,h1,h2⟩,rfl⟩;exact⟨l,h1,h2⟩
 ·rintro⟨l,h1,h2⟩
  have:=casesR_lt h5 h2;exact⟨x.toNat,⟨by omega,l,h1,by rw[Int.toNat_of_nonneg this.1];exact h2⟩,Int.toNat_of_nonneg this.1⟩
theorem preA_get(f:Nat->Cast){n i:Nat}(h:i<n):(preA f n).getD i zCast=f i:=by
 simp[preA,gE,h]
theorem preA_len(f:Nat->Cast)(n:Nat):(preA f n).length=n:=by simp[preA]
theorem lastA_stop{s:Shop}{f:Nat->Cast}{m q:Int}{n:Nat}(hz:∀i,n<=i->f i=zCast):∀k,lastA s f m q (n+k)=lastA s f m q n
 |0=>rfl
 |k+1=>by
  have e:lastA s f m q (n+(k+1))=lastStepA s m q f (n+k) (lastA s f m q (n+k)):=rfl;rw[e,lastA_stop hz k];unfold lastStepA;rw[if_neg];intro h;exact h.2 (hz _ (by omega))
theorem lastA_lastTo{s:Shop}{f:Nat->Cast}{m q:Int}{l:List Cast}:∀ {k:Nat},(∀i,i<k->l.getD i zCast=f i/\f i≠zCast)->lastA s f m q k=lastTo s l m q k
 |0,_=>rfl
 |k+1,h=>by
  have e1:lastA s f m q (k+1)=lastStepA s m q f k (lastA s f m q k):=rfl;have e2:lastTo s l m q (k+1)=lastStep s m q k (l.getD k zCast) (lastTo s l m q k):=rfl;rw[e1,e2,lastA_lastTo fun i hi=>h i (by omega),(h k (by omega)).1];unfold lastStepA lastStep;have:=(h k (by omega)).2;simp only[this,not_false_eq_true,and_true]
theorem lastA_pre{s:Shop}{f:Nat->Cast}{m q:Int}{n:Nat}(hn:n<=s.heads.length)(h1:∀i,i<n->f i≠zCast)(hz:∀i,n<=i->f i=zCast):lastA s f m q s.heads.length=lastOf s (preA f n) m q:=by
 obtain⟨k,hk⟩:∃k,s.heads.length=n+k:=⟨s.heads.length-n,by omega⟩
 rw[hk,lastA_stop hz k];unfold lastOf;rw[preA_len]
 exact lastA_lastTo fun i hi=>⟨preA_get f hi,h1 i hi⟩
theorem castOk_ne{s:Shop}{c:Cast}(h:CastOk s c):c≠zCast:=fun e=>by
 subst e;have:=h.2.2.1;simp[zCast]at this
theorem preA_upd(f:Nat->Cast)(h:Nat)(c:Cast):preA (upd f h c) (h+1)=preA f h++ [c]:=by
 unfold preA;rw[List.range_succ,List.map_append];congr 1
 ·refine List.map_congr_left fun i hi=> ?_;have:=List.mem_range.1 hi;unfold upd;rw[if_neg (by omega)]
 ·simp[upd]
theorem lastTo_snoc(s:Shop)(l:List Cast)(c:Cast)(m q:Int):∀k,k<=l.length->lastTo s (l++ [c]) m q k=lastTo s l m q k
 |0,_=>rfl
 |k+1,h=>by
  have e1:lastTo s (l++ [c]) m q (k+1)=lastStep s m q k ((l++ [c]).getD k zCast) (lastTo s (l++ [c]) m q k):=rfl;have e2:lastTo s l m q (k+1)=lastStep s m q k (l.getD k zCast) (lastTo s l m q k):=rfl;rw[e1,e2,lastTo_snoc s l c m q k (by omega),gE,gE,aL (by omega)]
theorem lastOf_snoc_other(s:Shop)(l:List Cast)(c:Cast){m q:Int}(h:c.mould≠m):lastOf s (l++ [c]) m q=lastOf s l m q:=by
 unfold lastOf;rw[List.length_append];have e:lastTo s (l++ [c]) m q (l.length+1)=lastStep s m q l.length ((l++ [c]).getD l.length zCast) (lastTo s (l++ [c]) m q l.length):=rfl;show lastTo s (l++ [c]) m q (l.length+1)=_;rw[e,lastTo_snoc s l c m q l.length (Nat.le_refl _)];have:(l++ [c]).getD l.length zCast=c:=by simp[gE]
 rw[this];unfold lastStep;rw[if_neg h]
theorem any_iff_range{p:Nat->Bool}{n:Nat}:(List.range n).any p=true↔∃i,i<n/\p i=true:=by simp
theorem dup_snoc(l:List Cast)(c:Cast)(h:dup l=false):dup (l++ [c])=l.any (sameC c):=by
 rw[Bool.eq_iff_iff];unfold dup at h⊢;rw[any_iff_range,List.any_eq_true];rw[Bool.eq_false_iff,ne_eq,any_iff_range]at h;constructor
 ·rintro⟨i,hi,hk⟩
  rw[any_iff_range]at hk;obtain⟨k,hk1,hk2⟩:=hk;rw[List.length_append]at hi;simp only[List.length_singleton]at hi;rw[gE,gE,aL (show k<l.length by omega)]at hk2;by_cases e:i=l.length
  ·subst e;refine⟨l.getD k zCast,getD_mem zCast l k hk1,?_⟩;simpa[gE]using hk2
  ·exfalso
   rw[aL (show i<l.length by omega)]at hk2;exact h ⟨i,by omega,by rw[any_iff_range];exact⟨k,hk1,by rw[gE,gE];exact hk2⟩⟩
 ·rintro⟨x,hx,hs⟩
  obtain⟨k,hk,rfl⟩:=List.getElem_of_mem hx;refine⟨l.length,by simp,?_⟩;rw[any_iff_range];refine⟨k,hk,?_⟩;rw[gE,gE,aL hk];simpa[hk]using hs
theorem agrees_snoc{s:Shop}{f:Nat->Cast}{h:Nat}{c:Cast}(hh:h<s.heads.length)(hc:CastOk s c)(h1:∀i,i<h->f i≠zCast)(hz:∀i,h<=i->f i=zCast)(ha:agrees s (preA f h)=true):agrees s (preA f h++ [c])=okA s f h c:=by
 unfold agrees at ha;rw[Bool.and_eq_true,Bool.not_eq_true',Bool.not_eq_true']at ha;unfold agrees okA;rw[dup_snoc _ _ ha.1];congr 2
 have hlast:∀q:Int,lastA s (upd f h c) c.mould q s.heads.length=lastOf s (preA f h++ [c]) c.mould q:=fun q=>by
  rw[<-preA_upd];refine lastA_pre (by omega) (fun i hi=> ?_) fun i hi=> ?_
  ·unfold upd;split
   ·exact castOk_ne hc
   ·exact h1 i (by omega)
  ·unfold upd;rw[if_neg (by omega)];exact hz i (by omega)
 rw[Bool.eq_iff_iff];unfold bad at ha⊢;have hno:=ha.2;rw[Bool.eq_false_iff,ne_eq,any_iff_range]at hno;rw[any_iff_range,any_iff_range];constructor
 ·rintro⟨m,hm,hb⟩
  rw[any_iff_range]at hb;obtain⟨q,hq,hb⟩:=hb;by_cases e:c.mould=(m:Int)
  ·refine⟨q,hq,?_⟩;rw[hlast,e];exact hb
  ·exfalso
   rw[lastOf_snoc_other s _ c e]at hb;exact hno ⟨m,hm,by rw[any_iff_range];exact⟨q,hq,hb⟩⟩
 ·rintro⟨q,hq,hb⟩
  refine⟨c.mould.toNat,by have:=hc.1;have:=hc.2.1;omega,?_⟩;rw[any_iff_range];refine⟨q,hq,?_⟩;rw[hlast]at hb;rw[Int.toNat_of_nonneg hc.1];exact hb
theorem flat_congr{τ υ:Type}{f g:τ->List υ}:∀ {l:List τ},(∀x∈l,f x=g x)->l.flatMap f=l.flatMap g
 |[],_=>rfl
 |x::l,h=>by rw[List.flatMap_cons,List.flatMap_cons,h x (by simp),flat_congr fun y hy=>h y (by simp[hy])]
def growF(s:Shop):Nat->List Cast->List (List Cast)
 |0,l=>[l]
 |n+1,l=>(ext s l).flatMap (growF s n)
theorem growF_N(s:Shop):∀(m n:Nat),(growN s n).flatMap (growF s m)=growN s (n+m)
 |0,n=>by simp[growF]
 |m+1,n=>by
  rw[show n+(m+1)=(n+1)+m by omega,<-growF_N s m (n+1)];simp only[growN,growF,List.flatMap_assoc]
theorem truths_F(s:Shop):truths s=growF s s.heads.length []:=by
 have:=growF_N s s.heads.length 0;simp only[growN,List.flatMap_cons,List.flatMap_nil,List.append_nil,Nat.zero_add]at this;exact this.symm
theorem flat_filter{τ υ:Type}(p:τ->Bool)(g:τ->List υ):∀l:List τ,(l.filter p).flatMap g=l.flatMap fun x=>if p x=true then g x else[]
 |[]=>rfl
 |x::l=>by
  rw[List.filter_cons,List.flatMap_cons,<-flat_filter p g l];cases p x<;>simp
theorem leaves_grow{s:Shop}:∀(n h:Nat) (f:Nat->Cast),h+n=s.heads.length->(∀i,i<h->f i≠zCast)->(∀i,h<=i->f i=zCast)->agrees s (preA f h)=true->(leavesA s n h f).map (fun g=>preA g s.heads.length)=growF s n (preA f h)
 |0,h,f,hn,_,_,_=>by
  have:h=s.heads.length:=by omega
  subst this;rfl
 |n+1,h,f,hn,h1,hz,ha=>by
  have hext:ext s (preA f h)=((allCasts s).filter (okA s f h)).map fun c=>preA f h++ [c]:=by
   unfold ext;rw[List.filter_map];congr 1
   refine List.filter_congr fun c hc=> ?_;exact agrees_snoc (by omega) (mem_allCasts.1 hc) h1 hz ha
  simp only[leavesA,growF,hext,List.flatMap_map,List.map_flatMap,flat_filter];refine flat_congr fun c hc=> ?_;have hc':=mem_allCasts.1 hc
  cases ho:okA s f h c with
  |false=>simp
  |true=>
   simp only[if_true]
   have g1:∀i,i<h+1->upd f h c i≠zCast:=fun i hi=>by
    unfold upd;split
    ·exact castOk_ne hc'
    ·exact h1 i (by omega)
   have g2:∀i,h+1<=i->upd f h c i=zCast:=fun i hi=>by
    unfold upd;rw[if_neg (by omega)];exact hz i (by omega)
   rw[leaves_grow n (h+1) (upd f h c) (by omega) g1 g2 (by rw[preA_upd,agrees_snoc (by omega) hc' h1 hz ha];exact ho),preA_upd]
theorem agrees_nil{s:Shop}(h:OkShop s):agrees s []=true:=by
 unfold agrees;rw[Bool.and_eq_true,Bool.not_eq_true',Bool.not_eq_true'];refine⟨rfl,?_⟩;rw[Bool.eq_false_iff];unfold bad;rw[ne_eq,any_iff_range];rintro⟨m,hm,hb⟩
 rw[any_iff_range]at hb;obtain⟨q,hq,hb⟩:=hb;have hf:=h.feat;have h1:=h.mould _ (getD_mem zMould s.moulds m hm);have h2:=h1.2.2 _ (getD_mem zSpan _ q (by omega))
 have e:lastOf s [] (m:Int) (q:Int)=(s.moulds.getD m zMould).lasts.getD q zSpan:=by
  simp[lastOf,lastTo,natF,span0]
 rw[e]at hb;have:=of_decide_eq_true hb;omega
theorem truths_A{s:Shop}(h:OkShop s):(leavesH s 0 fun _=>zCast).map (fun g=>preA g s.heads.length)=truths s:=by
 rw[truths_F];exact leaves_grow s.heads.length 0 (fun _=>zCast) (by omega) (fun i hi=>absurd hi (Nat.not_lt_zero i)) (fun _ _=>rfl) (agrees_nil h)
theorem leaves_ok{s:Shop}:∀(n h:Nat) (f:Nat->Cast),h+n=s.heads.length->(∀i,i<h->CastOk s (f i))->(∀i,h<=i->f i=zCast)->∀g∈leavesA s n h f,(∀i,i<s.heads.length->CastOk s (g i))/\∀i,s.heads.length<=i->g i=zCast
 |0,h,f,hn,h1,hz,g,hg=>by
  have:g=f:=by simpa[leavesA]using hg
  subst this;have:h=s.heads.length:=by omega
  subst this;exact⟨h1,hz⟩
 |n+1,h,f,hn,h1,hz,g,hg=>by
  simp only[leavesA,List.mem_flatMap]at hg;obtain⟨c,hc,hg⟩:=hg;split at hg
  ·refine leaves_ok n (h+1) (upd f h c) (by omega) (fun i hi=> ?_) (fun i hi=> ?_) g hg
   ·unfold upd;split
    ·exact mem_allCasts.1 hc
    ·exact h1 i (by omega)
   ·unfold upd;rw[if_neg (by omega)];exact hz i (by omega)
  ·simp at hg
theorem leaves_len{s:Shop}(h:OkShop s):∀(n k:Nat) (f:Nat->Cast),(leavesA s n k f).length<=8^n
 |0,_,_=>by simp[leavesA]
 |n+1,k,f=>by
  have h1:=flat_le (l:=allCasts s) (f:=fun c=>if okA s f k c=true then leavesA s n (k+1) (upd f k c)else[]) (b:=8^n) fun c _=>by
   split
   ·exact leaves_len h n _ _
   ·simp
  have h2:=allCasts_le h;simp only[leavesA];rw[Nat.pow_succ,Nat.mul_comm];exact Nat.le_trans h1 (Nat.mul_le_mul_right _ h2)
theorem setOf_or{c:Case}(h5:c.claims.length<=5){l:List Cast}{done:List (Int × Int)}{m f:Int}(hn:(m,f)∉done)(L:Int->Int->Int)(last:Int):orZ (setOf c l done L) (ownA c m f last c.claims.length)=setOf c l done L+aboutR c l m f last:=by
 have e:ownA c m f last c.claims.length=aboutR c l m f last:=mask_congr fun i _=>ownP_about c l m f last i;rw[e];unfold setOf aboutR aboutTo;rw[or_mask h5,mask_add];intro i _;simp only[setP,aboutP]
 cases hk:lasting (cl c i).kind with
 |false=>simp
 |true=>
  simp only[if_true,Bool.true_and];by_cases e:(cl c i).mould=m/\(cl c i).feature=f
  ·obtain⟨e1,e2⟩:=e;rw[e1,e2];have h1:done.contains (m,f)=false:=by simpa using hn
   rw[h1];simp
  ·have h2:((cl c i).mould==m&&((cl c i).feature==f&&so (cl c i) l last))=false:=by
    rw[Bool.eq_false_iff];intro h;simp only[Bool.and_eq_true,beq_iff_eq]at h;exact e ⟨h.1,h.2.1⟩
   rw[h2];simp
theorem fold_memA{c:Case}{f:Nat->Cast}{l:List Cast}(h5:c.claims.length<=5)(hs:∀m q,spanA c f m q=lastOf c.shop l m q):
  ∀(ps done:List (Int × Int)) (out:List Int),(done++ps).Nodup->(∀y,y∈out↔∃L,LastsOk c l done L/\y=setOf c l done L)->
   ∀y,y∈ps.foldl (fun out p=>stepA c f p.1 p.2 out) out↔∃L,LastsOk c l (done++ps) L/\y=setOf c l (done++ps) L
 |[],done,out,_,h=>by simpa using h
 |(m,q)::ps,done,out,hnd,h=>by
  have hn:(m,q)∉done:=fun hm=>by
   rw[List.nodup_append]at hnd;exact hnd.2.2 _ hm _ (by simp) rfl
  have key:=fold_memA h5 hs ps (done++ [(m,q)]) (stepA c f m q out) (by simpa using hnd) fun y=>by
   rw[mem_stepA,hs];constructor
   ·rintro⟨last,h1,h2,o,ho,rfl⟩
    obtain⟨L,hL,rfl⟩:=(h o).1 ho
    have hsame:∀p∈done,L p.1 p.2=(fun m' f'=>if m'=m/\f'=q then last else L m' f') p.1 p.2:=fun p hp=>by
     have:¬(p.1=m/\p.2=q):=fun e=>hn (by have:p=(m,q):=Prod.ext e.1 e.2;rwa[<-this]);simp only[this,if_false]
    refine⟨fun m' f'=>if m'=m/\f'=q then last else L m' f',fun p hp=> ?_,?_⟩
    ·rcases List.mem_append.1 hp with hp|hp
     ·have:=hL p hp;rw[<-hsame p hp];exact this
     ·simp only[List.mem_singleton]at hp;subst hp;simpa using⟨h1,h2⟩
    ·rw[setOf_or h5 hn,setOf_snoc hn,setOf_congr (L':=fun m' f'=>if m'=m/\f'=q then last else L m' f') hsame];simp
   ·rintro⟨L,hL,rfl⟩
    have:=hL (m,q) (by simp);refine⟨L m q,this.1,this.2,setOf c l done L,(h _).2 ⟨L,fun p hp=>hL p (List.mem_append_left _ hp),rfl⟩,?_⟩;rw[setOf_or h5 hn];exact setOf_snoc hn L
  simpa using key
theorem featA_fold(c:Case)(l:Nat->Cast)(m:Int)(out:List Int):∀n,featA c l m out n=((List.range n).map fun(f:Nat)=>(m,(f:Int))).foldl (fun out p=>stepA c l p.1 p.2 out) out
 |0=>rfl
 |n+1=>by
  rw[List.range_succ,List.map_append,List.foldl_append,<-featA_fold c l m out n];rfl
theorem mouldA_fold(c:Case)(l:Nat->Cast):∀n,mouldA c l n=(pairsOf n c.shop.features.toNat).foldl (fun out p=>stepA c l p.1 p.2 out) [maskTo (castPA c l) c.claims.length]
 |0=>rfl
 |n+1=>by
  rw[pairsOf,List.range_succ,List.flatMap_append,List.foldl_append];rw[show(List.flatMap (fun(m:Nat)=>(List.range c.shop.features.toNat).map fun(f:Nat)=>((m:Int),(f:Int))) (List.range n))=pairsOf n c.shop.features.toNat from rfl,<-mouldA_fold c l n];simp only[List.flatMap_cons,List.flatMap_nil,List.append_nil];rw[<-featA_fold];rfl
theorem so_pre{c:Case}(h:OkCase c)(f:Nat->Cast){i:Nat}(hi:i<c.claims.length):castPA c f i=castP c (preA f c.shop.heads.length) i:=by
 have hk:=h.cl hi;unfold castPA castP so
 cases hl:lasting (cl c i).kind with
 |true=>simp
 |false=>
  simp only[Bool.not_false,Bool.true_and,Bool.false_eq_true,if_false];have hkd:=hk.kind;have hg:∀n:Int,0<=n/\n<c.shop.heads.length->(preA f c.shop.heads.length).getD n.toNat zCast=f n.toNat:=fun n hn=>preA_get f (by omega);unfold soC soF;rcases show(cl c i).kind=0\/(cl c i).kind=1\/(cl c i).kind=2\/(cl c i).kind=3\/(cl c i).kind=4\/(cl c i).kind=5 by omega with e|e|e|e|e|e
  ·have ha:=(hk.cast e).1;simp only[e,hg _ ha];rfl
  ·have ha:=hk.pair (.inl e);simp only[e,hg _ ha.1,hg _ ha.2]
  ·have ha:=hk.pair (.inr (.inl e));simp only[e,hg _ ha.1,hg _ ha.2]
  ·have ha:=hk.pair (.inr (.inr e));simp only[e,hg _ ha.1,hg _ ha.2]
  ·rw[e]at hl;cases hl
  ·rw[e]at hl;cases hl
theorem mem_casesA{c:Case}(h:OkCase c){f:Nat->Cast}(h1:∀i,i<c.shop.heads.length->f i≠zCast)(hz:∀i,c.shop.heads.length<=i->f i=zCast)(y:Int):y∈casesA c f↔y∈casesR c (preA f c.shop.heads.length):=by
 have h5:=h.five;rw[mem_casesR h5];unfold casesA;rw[mouldA_fold];have hm:maskTo (castPA c f) c.claims.length=castTo c (preA f c.shop.heads.length) c.claims.length:=mask_congr fun i hi=>so_pre h f hi;rw[hm];have:=fold_memA (f:=f) (l:=preA f c.shop.heads.length) h5 (fun m q=>lastA_pre (Nat.le_refl _) h1 hz) (pairsOf c.shop.moulds.length c.shop.features.toNat) [] [castTo c (preA f c.shop.heads.length) c.claims.length] (by simpa using pairs_nodup _ _) start_mem y
 simpa using this
def eqC(f g:Nat->Cast):Bool:=((f 0).mould==(g 0).mould&&((f 0).number==(g 0).number&&true))&&(((f 1).mould==(g 1).mould&&((f 1).number==(g 1).number&&true))&&(((f 2).mould==(g 2).mould&&((f 2).number==(g 2).number&&true))&&(((f 3).mould==(g 3).mould&&((f 3).number==(g 3).number&&true))&&true)))
theorem cast_ext{a b:Cast}(h:(a.mould==b.mould&&(a.number==b.number&&true))=true):a=b:=by
 obtain⟨x,y⟩:=a;obtain⟨z,w⟩:=b;simp at h;simp[h]
theorem and_two{a b:Bool}(h:(a&&b)=true):a=true/\b=true:=by simpa using h
theorem eqC_eq{f g:Nat->Cast}(h:eqC f g=true)(hf:∀i,4<=i->f i=zCast)(hg:∀i,4<=i->g i=zCast):f=g:=by
 unfold eqC at h;obtain⟨g0,h⟩:=and_two h;obtain⟨g1,h⟩:=and_two h;obtain⟨g2,h⟩:=and_two h;obtain⟨g3,_⟩:=and_two h;funext i
 rcases Nat.lt_or_ge i 4 with q|q
 ·rcases show i=0\/i=1\/i=2\/i=3 by omega with e|e|e|e
  ·rw[e];exact cast_ext g0
  ·rw[e];exact cast_ext g1
  ·rw[e];exact cast_ext g2
  ·rw[e];exact cast_ext g3
 ·rw[hf i q,hg i q]
def keysL(M:List (Int × Int)):List Int:=M.map (·.1)
theorem keys_setM(k v:Int):∀M,keysL (setM M k v)=if k∈keysL M then keysL M else keysL M++ [k]
 |[]=>by simp[setM,keysL]
 |(a,b)::M=>by
  have ih:=keys_setM k v M;unfold keysL at ih⊢;by_cases e:a=k
  ·subst e;simp[setM]
  ·have hb:(a==k)=false:=by simpa using e
   have e2:¬k=a:=fun h=>e h.symm;simp only[setM,hb,cond_false,List.map_cons,ih,List.mem_cons,e2,false_or];split<;>simp
theorem getM_setM(k v b:Int):∀M,getM (setM M k v) b=if b=k then v else getM M b
 |[]=>by
  by_cases e:b=k
  ·subst e;simp[setM,getM]
  ·have:(k==b)=false:=by simp;exact fun h=>e h.symm
   simp[setM,getM,this,e]
 |(x,y)::M=>by
  have ih:=getM_setM k v b M;by_cases e:x=k
  ·subst e;simp only[setM,beq_self_eq_true,cond_true,getM];by_cases e2:b=x
   ·subst e2;simp
   ·have:(x==b)=false:=by simp;exact fun h=>e2 h.symm
    simp[this,e2]
  ·have hb:(x==k)=false:=by simpa using e
   simp only[setM,hb,cond_false,getM,ih];by_cases e2:b=k
   ·subst e2;have:(x==b)=false:=by simpa using e
    simp[this]
   ·simp[e2]
def countM(l:List Int)(M:List (Int × Int)):List (Int × Int):=l.foldl (fun M s=>setM M s (getM M s+1)) M
theorem countM_keys:∀(l:List Int) (M:List (Int × Int)),(keysL M).Nodup->(keysL (countM l M)).Nodup/\∀x,x∈keysL (countM l M)↔x∈keysL M\/x∈l
 |[],M,h=>⟨h,fun x=>by simp[countM]⟩
 |s::l,M,h=>by
  have hn:(keysL (setM M s (getM M s+1))).Nodup:=by
   rw[keys_setM];split
   ·exact h
   ·rename_i hs;rw[List.nodup_append];exact⟨h,by simp,fun a ha b hb e=>by simp only[List.mem_singleton]at hb;subst hb;subst e;exact hs ha⟩
  obtain⟨g1,g2⟩:=countM_keys l _ hn;refine⟨g1,fun x=> ?_⟩;have:countM (s::l) M=countM l (setM M s (getM M s+1)):=rfl;rw[this,g2,keys_setM];split
  ·rename_i hs;simp only[List.mem_cons];constructor
   ·rintro(h|h)
    ·exact .inl h
    ·exact .inr (.inr h)
   ·rintro(h|rfl|h)
    ·exact .inl h
    ·exact .inl hs
    ·exact .inr h
  ·simp only[List.mem_append,List.mem_cons,List.not_mem_nil,or_false,or_assoc]
theorem countM_le:∀(l:List Int) (M:List (Int × Int)) (n:Int),(∀k,0<=getM M k/\getM M k<=n)->∀k,0<=getM (countM l M) k/\getM (countM l M) k<=n+l.length
 |[],M,n,h,k=>by have:=h k;simp[countM];omega
 |s::l,M,n,h,k=>by
  have:=countM_le l (setM M s (getM M s+1)) (n+1) (fun b=>by
   rw[getM_setM];split
   ·have:=h s;omega
   ·have:=h b;omega) k
  have e:countM (s::l) M=countM l (setM M s (getM M s+1)):=rfl;rw[e];simp only[List.length_cons];omega
theorem countM_take(l:List Int)(M:List (Int × Int)){i:Nat}(hi:i<l.length):countM (l.take (i+1)) M=setM (countM (l.take i) M) (l.getD i 0) (getM (countM (l.take i) M) (l.getD i 0)+1):=by
 unfold countM;rw[take_snoc 0 l i hi,List.foldl_append];rfl
abbrev MC:Type:=List (Int × Int) × (Nat->Cast)
def roundM(c:Case)(p:MC)(f:Nat->Cast):MC:=if eqC f p.2=true/\0<p.1.length then p else(countM (casesA c f) p.1,f)
def keysTo(c:Case)(k:Nat):MC:=((leavesH c.shop 0 fun _=>zCast).take k).foldl (roundM c) ([],fun _=>zCast)
theorem keysTo_0(c:Case):keysTo c 0=([],fun _=>zCast):=rfl
theorem keysTo_succ(c:Case){k:Nat}{f:Nat->Cast}(hf:(leavesH c.shop 0 fun _=>zCast)[k]? =some f):keysTo c (k+1)=roundM c (keysTo c k) f:=by
 unfold keysTo;obtain⟨hk,he⟩:=List.getElem?_eq_some_iff.1 hf;rw[List.take_succ_eq_append_getElem hk,List.foldl_append,he];rfl
theorem keysTo_le{c:Case}(h:OkCase c):∀k,∀s,0<=getM (keysTo c k).1 s/\getM (keysTo c k).1 s<=k*5764801
 |0,s=>by simp[keysTo_0,getM]
 |k+1,s=>by
  have ih:=keysTo_le h k
  cases hf:(leavesH c.shop 0 fun _=>zCast)[k]? with
  |none=>
   have hl:=List.getElem?_eq_none_iff.1 hf;have:keysTo c (k+1)=keysTo c k:=by unfold keysTo;rw[List.take_of_length_le hl,List.take_of_length_le (by omega)]
   rw[this];have:=ih s;omega
  |some f=>
   rw[keysTo_succ c hf];unfold roundM;split
   ·have:=ih s;omega
   ·have h1:=countM_le (casesA c f) (keysTo c k).1 _ ih s
    have h2:(casesA c f).length<=5764801:=Nat.le_trans (mouldA_le h.shop f _ (Nat.le_refl _)) (by
     have:=h.shop.nm
     rcases show c.shop.moulds.length=0\/c.shop.moulds.length=1\/c.shop.moulds.length=2 by omega with e|e|e<;>rw[e]<;>decide)
    simp only;omega
theorem leaf_ok{c:Case}{k:Nat}{f:Nat->Cast}(hf:(leavesH c.shop 0 fun _=>zCast)[k]? =some f):(∀i,i<c.shop.heads.length->CastOk c.shop (f i))/\∀i,c.shop.heads.length<=i->f i=zCast:=
 leaves_ok c.shop.heads.length 0 (fun _=>zCast) (by omega) (fun i hi=>absurd hi (Nat.not_lt_zero i)) (fun _ _=>rfl) f (List.mem_of_getElem? hf)
theorem leaf_num{c:Case}(h:OkCase c){k:Nat}{f:Nat->Cast}(hf:(leavesH c.shop 0 fun _=>zCast)[k]? =some f)(i:Nat):0<=(f i).number/\(f i).number<=4:=by
 obtain⟨h1,h2⟩:=leaf_ok hf;rcases Nat.lt_or_ge i c.shop.heads.length with q|q
 ·have:=castOk_le h.shop (h1 i q);omega
 ·rw[h2 i q];simp[zCast]
structure KeysOk(c:Case)(k:Nat):Prop where
 nd:(keysL (keysTo c k).1).Nodup
 mem:∀x,x∈keysL (keysTo c k).1↔∃f∈(leavesH c.shop 0 fun _=>zCast).take k,x∈casesA c f
 last:∀i,4<=i->(keysTo c k).2 i=zCast
 met:0<(keysTo c k).1.length->(keysTo c k).2∈(leavesH c.shop 0 fun _=>zCast).take k
theorem keysOk{c:Case}(h:OkCase c):∀k,KeysOk c k
 |0=>⟨by simp[keysTo_0,keysL],fun x=>by simp[keysTo_0,keysL],fun _ _=>rfl,fun h=>by simp[keysTo_0]at h⟩
 |k+1=>by
  have ih:=keysOk h k
  cases hf:(leavesH c.shop 0 fun _=>zCast)[k]? with
  |none=>
   have hl:=List.getElem?_eq_none_iff.1 hf;have e1:(leavesH c.shop 0 fun _=>zCast).take (k+1)=(leavesH c.shop 0 fun _=>zCast).take k:=by rw[List.take_of_length_le hl,List.take_of_length_le (by omega)]
   have e2:keysTo c (k+1)=keysTo c k:=by unfold keysTo;rw[e1]
   exact⟨by rw[e2];exact ih.nd,by rw[e2,e1];exact ih.mem,by rw[e2];exact ih.last,by rw[e2,e1];exact ih.met⟩
  |some f=>
   obtain⟨hk,he⟩:=List.getElem?_eq_some_iff.1 hf;have ht:(leavesH c.shop 0 fun _=>zCast).take (k+1)=(leavesH c.shop 0 fun _=>zCast).take k++ [f]:=by rw[List.take_succ_eq_append_getElem hk,he]
   have h4:=h.shop.nh;have hf4:∀i,4<=i->f i=zCast:=fun i hi=>(leaf_ok hf).2 i (by omega);rw[show KeysOk c (k+1)↔KeysOk c (k+1)from Iff.rfl];have hr:=keysTo_succ c hf;by_cases hq:eqC f (keysTo c k).2=true/\0<(keysTo c k).1.length
   ·have hs:keysTo c (k+1)=keysTo c k:=by rw[hr,roundM,if_pos hq]
    have hfe:f=(keysTo c k).2:=eqC_eq hq.1 hf4 ih.last;have hmem:=ih.met hq.2;refine⟨by rw[hs];exact ih.nd,fun x=> ?_,by rw[hs];exact ih.last,fun _=>by rw[hs,ht];exact List.mem_append_left _ hmem⟩;rw[hs,ih.mem,ht];constructor
    ·rintro⟨g,hg,hx⟩;exact⟨g,List.mem_append_left _ hg,hx⟩
    ·rintro⟨g,hg,hx⟩
     rcases List.mem_append.1 hg with q|q
     ·exact⟨g,q,hx⟩
     ·simp only[List.mem_singleton]at q;subst q;exact⟨_,hmem,by rw[<-hfe];exact hx⟩
   ·have hs:keysTo c (k+1)=(countM (casesA c f) (keysTo c k).1,f):=by rw[hr,roundM,if_neg hq]
    obtain⟨g1,g2⟩:=countM_keys (casesA c f) (keysTo c k).1 ih.nd;refine⟨by rw[hs];exact g1,fun x=> ?_,by rw[hs];exact hf4,fun _=>by rw[hs,ht];exact List.mem_append_right _ (by simp)⟩;rw[hs,g2,ih.mem,ht];constructor
    ·rintro(⟨g,hg,hx⟩|hx)
     ·exact⟨g,List.mem_append_left _ hg,hx⟩
     ·exact⟨f,List.mem_append_right _ (by simp),hx⟩
    ·rintro⟨g,hg,hx⟩
     rcases List.mem_append.1 hg with q|q
     ·exact .inl ⟨g,q,hx⟩
     ·simp only[List.mem_singleton]at q;subst q;exact .inr hx
def metM(c:Case):List (Int × Int):=(keysTo c (leavesH c.shop 0 fun _=>zCast).length).1
theorem metM_keys{c:Case}(h:OkCase c):(keysL (metM c)).Nodup/\∀x,x∈keysL (metM c)↔x∈caseSets c:=by
 have k:=keysOk h (leavesH c.shop 0 fun _=>zCast).length;refine⟨k.nd,fun x=> ?_⟩;rw[metM,k.mem,List.take_length,mem_caseSets h.five,<-truths_A h.shop];simp only[List.mem_map];constructor
 ·rintro⟨f,hf,hx⟩
  obtain⟨i,hi,rfl⟩:=List.getElem_of_mem hf;obtain⟨h1,h2⟩:=leaf_ok (c:=c) (List.getElem?_eq_getElem hi);exact⟨_,⟨_,hf,rfl⟩,(mem_casesA h (fun i hi=>castOk_ne (h1 i hi)) h2 x).1 hx⟩
 ·rintro⟨l,⟨f,hf,rfl⟩,hx⟩
  obtain⟨i,hi,rfl⟩:=List.getElem_of_mem hf;obtain⟨h1,h2⟩:=leaf_ok (c:=c) (List.getElem?_eq_getElem hi);exact⟨_,hf,(mem_casesA h (fun i hi=>castOk_ne (h1 i hi)) h2 x).2 hx⟩
theorem sorted_keys{c:Case}(h:OkCase c){l:List Int}(hn:l.Nodup)(hm:∀x,x∈l↔x∈keysL (metM c)):sortZ l=caseSets c:=
 asc_eq (sortZ_asc hn) (caseSets_asc c) fun x=>by rw[mem_sortZ,hm,(metM_keys h).2]
end Go.Proofs.YtdamoemndifpmaaGreat
namespace Ab
open Go
theorem RS.reserve{β:Homes}{G K:Kept}{S:St}{a:Act}{w:World}(r:RS β G K S a w)(n:Nat):RS (β++List.replicate n Hm.void) G K {S with h:=S.h++List.replicate n .void} a w:=by
 refine⟨r.h.reserve _,r.size,fun j=>(r.tmp j).mono G.le_refl (Homes.le_append _ _),r.marks,fun j hj=> ?_⟩;obtain⟨y,y1,y2,y3⟩:=r.mark j hj;refine⟨y,Homes.le_append _ _ _ _ (by simp) y1,y2,?_⟩;show(S.h++_)[S.d.getD j 0]? =_;rw[aL (List.getElem?_eq_some_iff.1 y3).1];exact y3
section
variable {P:Program} {ro:Env} {ops:Array Oper} {S:St} {i:Nat} {o:Oper}
theorem AStep.app0(hi:ops[i]? =some o)(hw:wantedV ops S o=some true){s x:Operand}{t e:TypeId}{wd k q:Nat}{c:Nat->Nat->V}{zs:List V}
  (hop:o.op=.call {callee:=.builtin .append,args:= #[s,x],argTypes:= #[t,t]}) (hsv:S.eval s=.nils) (hxv:S.eval x=.list wd k c) (hu:P.underlying t=some (.slice e)) (hz:zeroCs P e=some zs)
  (hc:decide (hasT P e=true/\szOf P e=wd/\0<wd/\zs.length=wd/\P.bytesOf e<=32768)=true) (hvd:S.h[q]? =some .void)
  (hk:k<=4294967296) (hsc:∀r,r<k->∀j,j<wd->(c r j).scalar=true):
  AStep P ro ops i S ({S with h:=S.h.set q (.rows e wd k c)}.put o.dst (.row q k)):=by
 obtain⟨hT,hsz,h0,hzl,hby⟩:=of_decide_eq_true hc;refine AStep.of_val hi hw (fun c hcc=>by rw[hop]at hcc;cases hcc) fun β G K a w r=> ?_;have hs:=r.eval s;rw[hsv]at hs;have hx:=r.eval x;rw[hxv]at hx;have hlt:q<β.length:=by rw[r.h.len];exact(List.getElem?_eq_some_iff.1 hvd).1
 generalize hsx:a.eval s=sv at hs
 cases hs with
 |nils=>
  rename_i a0;obtain⟨v',w',r1,r2,r3,r5,r4⟩:=run_fresh (ty:=o.type) hu hT hsz h0 hz hzl hby r.h (a0:=a0) hx hk hsc
  have hrun:(execOp a.eval o).run P w=.ok (.value v') w':=by
   simp only[execOp,hop,resolve,Sem.run_bind,Sem.run_pure,Result.andThen_ok,invoke,builtin,List.map_toArray,List.map_cons,List.map_nil,hsx,r1]
  rcases r4 with⟨rfl,rfl,rfl⟩|⟨hpos,g,cap',cur,rfl,hge,hcur,hnc,hcm,hcsz,hrel⟩
  ·have hle:=le_set_void (x:=.nil) (r.h.void_home hvd);have q1:=r.refill hvd hle (r.h.fillNil hvd e c h0);exact⟨_,_,_,G,K,hrun,hle.low _,G.ext_refl K,K.le_refl,q1,.row0 (List.getElem?_set_self hlt)⟩
  ·have hle:=le_set_void (x:=.lie ⟨g,wd,cap'⟩) (r.h.void_home hvd);have hmn:k<=maxn:=by unfold maxn;omega
   have hg':g<w'.heap.size:=(Array.getElem?_eq_some_iff.1 hcur).1;have q1:=r.refill hvd hle (r.h.fillG r2 r3 (k:=.rows e wd k c) (x:=⟨g,wd,cap'⟩) hvd hge hg' ⟨rfl,h0,hcm,cur,hcur,hcsz,hnc,hmn,hrel⟩ r5);exact⟨_,_,_,G,K,hrun,hle.low _,G.ext_refl K,K.le_refl,q1,.row (List.getElem?_set_self hlt) hnc (Nat.le_refl _) hmn⟩
theorem AStep.lit(hi:ops[i]? =some o)(hw:wantedV ops S o=some true){t e:TypeId}{len:Nat}{parts:Array (Nat × Operand)}{zs cs:List V}
  (hop:o.op=.buildSlice t len parts) (hu:P.underlying t=some (.slice e)) (hz:zeroCs P e=some zs)
  (hc:decide (hasT P e=true/\0<szOf P e/\len*szOf P e<=16777216/\zs.length=szOf P e)=true)
  (hb:fillV P (fun i=>some (i*szOf P e,e)) ((List.range (len*szOf P e)).map fun q=>zs.getD (q%szOf P e) .undef) (mapV parts S.eval)=some cs) (himm:underL 0 cs=true):
  AStep P ro ops i S (S.put o.dst (if len=0 then .nils else .list (szOf P e) len (litC (szOf P e) len cs))):=by
 obtain⟨hT,h1,h2,hzl⟩:=of_decide_eq_true hc;refine AStep.of_val hi hw (fun c hcc=>by rw[hop]at hcc;cases hcc) fun β G K a w q=> ?_;obtain⟨ra,f1,f2,f3⟩:=buildSlice_run (G:=G) q.eval hu hT h1 h2 hz hzl hb himm o hop
 have hle:G.le ⟨fun b=>if b=w.heap.size then some (.cells ra e)else G b,G.amb⟩:=⟨fun b ob hob=>by
  by_cases hbs:b=w.heap.size
  ·have:=q.h.keep _ _ (q.h.gk _ _ hob);subst hbs;have:=(Array.getElem?_eq_some_iff.1 this).1;omega
  ·simpa[hbs]using hob,rfl⟩
 obtain⟨K',k1,k2,k3⟩:=q.h.kept (G':=⟨fun b=>if b=w.heap.size then some (.cells ra e)else G b,G.amb⟩) (w':=w.alloc (.cells ra e)) hle
  ⟨fun b ob hob=>by
   by_cases hbs:b=w.heap.size
   ·simp only[hbs,if_true]at hob;rw[hbs,heap_alloc_new,hob]
   ·simp only[hbs,if_false]at hob;have hk:=q.h.keep _ _ (q.h.gk _ _ hob)
    rw[heap_alloc_lt _ _ (Array.getElem?_eq_some_iff.1 hk).1];exact hk,q.h.gamb.mild (Mild.alloc w _)⟩
  (fun b ob hob=>by
   by_cases hbs:b=w.heap.size
   ·right;omega
   ·simp only[hbs,if_false]at hob
    exact .inl hob)
  (fun b hb=>heap_alloc_lt _ _ hb) (by simp) (Mild.alloc w _)
 refine⟨_,_,β,_,K',f1,Homes.low_refl _ _,k2,k1,⟨k3,q.size,fun j=>(q.tmp j).mono hle (Homes.le_refl _),q.marks,q.mark⟩,?_⟩;by_cases h0:len=0
 ·simp only[h0,if_true];exact .nils
 ·simp only[h0,if_false];have hlm:len<=16777216:=Nat.le_trans (Nat.le_mul_of_pos_right len h1) h2;refine .list (cs:=ra) (e:=e) (fz:=(0,0)) (by simp) (by omega) (Nat.le_refl _) (by unfold maxn;omega) fun p j hp _=> ?_;rw[Nat.zero_add,litC_eq hp];exact(f3 _).mono hle (Homes.le_refl _)
end
theorem AOps.tree{P:Program}{ro:Env}{ops:Array Oper}{is:List Nat}{S S':St}{g:DT}(h:runOpsG P ro.m ops (fun T d=>match d with|.done _ _=>some (.done .normal T)|_=>none) is none S g=some g)
  (hg:g.holds P ro (fun e T=>e=.normal/\T=S') (fun _ _=>False)):AOps P ro ops is S (fun e T=>e=.normal/\T=S'):=
 runOpsG_ok (L:=fun _ _=>False) (Q:=fun e T=>e=.normal/\T=S') (fun T d hd hh=>by
  split at hd
  ·cases hd;exact hh
  ·cases hd) is none S g h hg
end Ab
namespace Ab
open Go
section
variable {P:Program} {ro:Env} {ops:Array Oper} {S:St} {i:Nat} {o:Oper}
theorem AStep.to{S1 S2:St}(h:AStep P ro ops i S S1)(e:S1=S2):AStep P ro ops i S S2:=e▸h
theorem AStep.read{b:Bool}{v:V}(hi:ops[i]? =some o)(hw:wantedV ops S o=some true)(hf:∀d,o.op≠ .defer d)(he:evalOp P S.eval S.h o.op=some (b,v,S.h))(hb:b=true):AStep P ro ops i S (S.put o.dst v):=by
 subst hb;exact AStep.of_ops (AOps.step hi hw he (fun _ _=>rfl) (AOps.nil ⟨rfl,rfl⟩))
theorem AStep.tree{S':St}{g:DT}(h:runOpsG P ro.m ops (fun T d=>match d with|.done _ _=>some (.done .normal T)|_=>none) [i] none S g=some g)
  (hg:g.holds P ro (fun e T=>e=.normal/\T=S') (fun _ _=>False)):AStep P ro ops i S S':=AStep.of_ops (AOps.tree h hg)
end
end Ab
namespace Ab
open Go
theorem reach_ready{ops:Array Oper}{l:Array Bool}{i j:Nat}(h:reach ops 12 i j=true)(hc:Closed ops l)(hr:j∈Region.ready .any ops l):l.getD i false=true:=by
 rw[mem_ready]at hr;obtain⟨_,o,ho,hall⟩:=hr;refine reach_done hc 12 i j h fun o' ho' e he hb=> ?_;rw[ho]at ho';cases ho';exact hall e he hb
theorem reach_not{ops:Array Oper}{l:Array Bool}{i j:Nat}(h:reach ops 12 i j=true)(hc:Closed ops l)(hi:l.getD i false=false):l.getD j false=false:=by
 cases hj:l.getD j false with
 |false=>rfl
 |true=>exact absurd (reach_done hc 12 i j h (hc j hj)) (by rw[hi];exact Bool.false_ne_true)
theorem gset7{l:Array Bool}{i:Nat}(h:i<l.size)(q:Nat):(l.setIfInBounds i true).getD q false=if i=q then true else l.getD q false:=by
 by_cases e:i=q
 ·subst e;simp[h]
 ·rw[if_neg e,getD_set_ne false e]
section
variable {P:Program} {ro:Env} {ops:Array Oper} {S:St} {i:Nat} {o:Oper}
theorem AStep.alloc0(hi:ops[i]? =some o)(hw:wantedV ops S o=some true){t:TypeId}{q:Nat}{zs:List V}(hop:o.op=.alloc t)(hz:zeroCs P t=some zs)(hvd:S.h[q]? =some .void):
  AStep P ro ops i S ({S with h:=S.h.set q (zeroBlk P t zs).1}.put o.dst (.ref q 0 0)):=by
 refine AStep.of_val hi hw (fun c hcc=>by rw[hop]at hcc;cases hcc) fun β G K a w r=> ?_;obtain⟨z,z1,z2,z3⟩:=zeroCs_ok hz w;have hlt:q<β.length:=by rw[r.h.len];exact(List.getElem?_eq_some_iff.1 hvd).1
 have hle:=le_set_void (x:=.lie ⟨w.heap.size,(zeroBlk P t zs).2.1,(zeroBlk P t zs).2.2⟩) (r.h.void_home hvd)
 have hrun:(execOp a.eval o).run P w=.ok (.value (.pointer (some ⟨w.heap.size,0,none⟩))) (w.alloc (.cells z.cells t)):=by
  simp only[execOp,hop,Instr.alloc,Sem.run_bind,z1,Result.andThen_ok,newVar,newRow,run_newObj,Sem.run_pure,World.alloc_eq]
 refine⟨_,_,β.set q (.lie ⟨w.heap.size,(zeroBlk P t zs).2.1,(zeroBlk P t zs).2.2⟩),G,K,hrun,hle.low _,G.ext_refl K,K.le_refl,r.refill hvd hle (r.h.fillG (fun b hb=>heap_alloc_lt w _ hb) (by simp) hvd (x:=⟨w.heap.size,(zeroBlk P t zs).2.1,(zeroBlk P t zs).2.2⟩) (Nat.le_refl _) (by simp) (zeroBlk_ok w z2 z3) (Mild.alloc w _)),?_⟩;have:=Rel.ref (G:=G) (β:=β.set q (.lie ⟨w.heap.size,(zeroBlk P t zs).2.1,(zeroBlk P t zs).2.2⟩)) (i:=q) (r:=0) (off:=0) (List.getElem?_set_self hlt)
 simp only[Nat.zero_mul,Nat.add_zero]at this;exact this
end
abbrev Tab:=List (List Nat × List Nat)
def mkb(t:Tab)(i:Nat)(v:Bool)(c:Nat->Bool)(j:Nat):Bool:=
 bif Nat.beq j i then v else bif ((t.getD i ([],[])).1.any (Nat.beq j))then true else bif ((t.getD i ([],[])).2.any (Nat.beq j))then c j else false
def tabOK(ops:Array Oper)(t:Tab)(m:Nat):Bool:=
 (List.range m).all fun i=>((t.getD i ([],[])).1.all fun j=>reach ops 12 j i)&&(List.range m).all fun j=>Nat.beq j i||(t.getD i ([],[])).1.any (Nat.beq j)||(t.getD i ([],[])).2.any (Nat.beq j)||reach ops 12 i j
theorem beq_nat{a b:Nat}:Nat.beq a b=true↔a=b:=⟨Nat.eq_of_beq_eq_true,fun h=>h▸Nat.beq_refl a⟩
theorem any_beq{l:List Nat}{j:Nat}:l.any (Nat.beq j)=true↔j∈l:=by
 rw[List.any_eq_true];constructor
 ·rintro⟨x,hx,e⟩;rw[beq_nat.1 e];exact hx
 ·exact fun h=>⟨j,h,beq_nat.2 rfl⟩
theorem AWP.region_bits{P:Program}{ro:Env}{id:Nat}{ops:Array Oper}{S:St}{Q:Exit->St->Prop}(m nn:Nat)(t:Tab)(hmx:P.follows .mixedOrders=true)(st:(Nat->Bool)->St)
  (step:∀i,i<m->∀c,AStep P ro ops i (st (mkb t i false c)) (st (mkb t i true c)))
  (last:AOps P ro ops (List.range' m (ops.size-m)) (st fun j=>Nat.blt j m) Q)
  (hback:backOK ops=true:=by kernel_rfl) (hm:Nat.ble m ops.size=true:=by kernel_rfl) (ht:((List.range' m (ops.size-m)).all (tailAt ops))=true:=by kernel_rfl) (htab:tabOK ops t m=true:=by kernel_rfl)
  (h0:st (fun _=>false)={S with h:=S.h++List.replicate nn .void}:=by kernel_rfl):AWP P ro (.region id ops true) S Q:=by
 have hm':m<=ops.size:=Nat.le_of_ble_eq_true hm;refine AWP.region_anyC m hmx hback hm' (fun j h1 h2=> ?_) (fun l=>st fun j=>l.getD j false) (fun β G K a w r=>⟨_,Homes.le_append β (List.replicate nn Hm.void),?_⟩) (fun l i hl hi hli hlj hc hr=> ?_) (fun l hl h1 h2=> ?_)
 ·rw[List.all_eq_true]at ht;exact ht j (List.mem_range'_1.2 ⟨h1,by omega⟩)
 ·have e:(fun j=>(Array.replicate ops.size false).getD j false)=fun _=>false:=by
   funext j
   rw[aG,Array.getElem?_replicate];split<;>rfl
  rw[e,h0];exact r.reserve nn
 ·unfold tabOK at htab;rw[List.all_eq_true]at htab;have hti:=htab i (List.mem_range.2 hi);rw[Bool.and_eq_true,List.all_eq_true,List.all_eq_true]at hti;obtain⟨t1,t2⟩:=hti
  have key:∀v:Bool,∀j,(if i=j then v else l.getD j false)=mkb t i v (fun j=>l.getD j false) j:=fun v j=>by
   unfold mkb;by_cases e:i=j
   ·rw[if_pos e,beq_nat.2 e.symm];rfl
   ·rw[if_neg e,Bool.eq_false_iff.2 (fun q=>e (beq_nat.1 q).symm)];show _=bif _ then true else _;by_cases h1:j∈(t.getD i ([],[])).1
    ·rw[any_beq.2 h1];exact reach_ready (t1 j h1) hc hr
    ·rw[Bool.eq_false_iff.2 fun q=>h1 (any_beq.1 q)];show _=bif _ then _ else false;by_cases h2:j∈(t.getD i ([],[])).2
     ·rw[any_beq.2 h2];rfl
     ·rw[Bool.eq_false_iff.2 fun q=>h2 (any_beq.1 q)];show l.getD j false=false;by_cases hjm:j<m
      ·have:=t2 j (List.mem_range.2 hjm);rw[Bool.eq_false_iff.2 fun q=>e (beq_nat.1 q).symm,Bool.eq_false_iff.2 fun q=>h1 (any_beq.1 q),Bool.eq_false_iff.2 fun q=>h2 (any_beq.1 q)]at this;exact reach_not (by simpa using this) hc hli
      ·exact hlj j (by omega)
  have e1:(fun j=>l.getD j false)=mkb t i false fun j=>l.getD j false:=by
   funext j
   rw[<-key false j];split
   ·rename_i q;rw[<-q];exact hli
   ·rfl
  have e2:(fun j=>(l.setIfInBounds i true).getD j false)=mkb t i true fun j=>l.getD j false:=by
   funext j;rw[gset7 (by omega),key true j]
  show AStep P ro ops i (st fun j=>l.getD j false) (st fun j=>(l.setIfInBounds i true).getD j false);rw[e2];conv=>arg 5;rw[e1]
  exact step i hi _
 ·have e:(fun j=>l.getD j false)=fun j=>Nat.blt j m:=by
   funext j
   by_cases q:j<m
   ·rw[h1 j q,show Nat.blt j m=true from Nat.ble_eq_true_of_le q]
   ·rw[h2 j (by omega)];refine(Bool.eq_false_iff.2 fun z=>q ?_).symm;exact Nat.le_of_ble_eq_true z
  show AOps P ro ops _ (st fun j=>l.getD j false) Q;rw[e];exact last
theorem mkb_free(t:Tab)(i:Nat)(v:Bool)(c:Nat->Bool)(fr:List Nat)(h:(t.getD i ([],[])).2=fr):mkb t i v c=mkb t i v fun j=>(fr.map c).getD (fr.findIdx (Nat.beq j)) false:=by
 funext j
 unfold mkb;rw[h];by_cases q:fr.any (Nat.beq j)=true
 ·have hlt:fr.findIdx (Nat.beq j)<fr.length:=List.findIdx_lt_length.2 (List.any_eq_true.1 q);have hg:=List.findIdx_getElem (w:=hlt)
  have e:(fr.map c).getD (fr.findIdx (Nat.beq j)) false=c j:=by
   rw[gE,List.getElem?_map,List.getElem?_eq_getElem hlt];show c fr[fr.findIdx (Nat.beq j)]=c j;rw[<-beq_nat.1 hg]
  simp only[e]
 ·rw[Bool.eq_false_iff.2 q];rfl
section
variable {P:Program} {ro:Env} {ops:Array Oper} {i:Nat} {S S2:St}
theorem AStep.rd(b:Bool)(v:V)(hb:b=true)(hi:ops[i]? =some (ops.getD i default):=by kernel_rfl)(hw:wantedV ops S (ops.getD i default)=some true:=by kernel_rfl)(hf:(match(ops.getD i default).op with|.defer _=>false|_=>true)=true:=by kernel_rfl)
  (he:evalOp P S.eval S.h (ops.getD i default).op=some (b,v,S.h):=by kernel_rfl) (e:S.put (ops.getD i default).dst v=S2:=by kernel_rfl):AStep P ro ops i S S2:=
 AStep.to (AStep.read hi hw (fun d q=>by rw[q]at hf;cases hf) he hb) e
theorem AStep.lt(t e len:Nat)(parts:Array (Nat × Operand))(zs cs:List V)(hi:ops[i]? =some (ops.getD i default):=by kernel_rfl)(hw:wantedV ops S (ops.getD i default)=some true:=by kernel_rfl)(hop:(ops.getD i default).op=.buildSlice t len parts:=by kernel_rfl)(hu:P.underlying t=some (.slice e):=by kernel_rfl)(hz:zeroCs P e=some zs:=by kernel_rfl)
  (hc:decide (hasT P e=true/\0<szOf P e/\len*szOf P e<=16777216/\zs.length=szOf P e)=true:=by kernel_rfl)
  (hb:fillV P (fun i=>some (i*szOf P e,e)) ((List.range (len*szOf P e)).map fun q=>zs.getD (q%szOf P e) .undef) (mapV parts S.eval)=some cs:=by kernel_rfl) (himm:underL 0 cs=true:=by kernel_rfl)
  (h2:S.put (ops.getD i default).dst (if len=0 then .nils else .list (szOf P e) len (litC (szOf P e) len cs))=S2:=by kernel_rfl):AStep P ro ops i S S2:=AStep.to (AStep.lit hi hw hop hu hz hc hb himm) h2
theorem AStep.ap0(s x:Operand)(t e q wd k:Nat)(c:Nat->Nat->V)(zs:List V)(hk:k<=4294967296)(hsc:∀r,r<k->∀j,j<wd->(c r j).scalar=true)(hi:ops[i]? =some (ops.getD i default):=by kernel_rfl)(hw:wantedV ops S (ops.getD i default)=some true:=by kernel_rfl)
  (hop:(ops.getD i default).op=.call {callee:=.builtin .append,args:= #[s,x],argTypes:= #[t,t]}:=by kernel_rfl) (hsv:S.eval s=.nils:=by kernel_rfl) (hxv:S.eval x=.list wd k c:=by kernel_rfl) (hu:P.underlying t=some (.slice e):=by kernel_rfl) (hz:zeroCs P e=some zs:=by kernel_rfl)
  (hc:decide (hasT P e=true/\szOf P e=wd/\0<wd/\zs.length=wd/\P.bytesOf e<=32768)=true:=by kernel_rfl) (hvd:S.h[q]? =some .void:=by kernel_rfl)
  (h2:({S with h:=S.h.set q (.rows e wd k c)}.put (ops.getD i default).dst (.row q k))=S2:=by kernel_rfl):AStep P ro ops i S S2:=AStep.to (AStep.app0 hi hw hop hsv hxv hu hz hc hvd hk hsc) h2
theorem AStep.al(t q:Nat)(zs:List V)(hi:ops[i]? =some (ops.getD i default):=by kernel_rfl)(hw:wantedV ops S (ops.getD i default)=some true:=by kernel_rfl)(hop:(ops.getD i default).op=.alloc t:=by kernel_rfl)(hz:zeroCs P t=some zs:=by kernel_rfl)(hvd:S.h[q]? =some .void:=by kernel_rfl)
  (h2:({S with h:=S.h.set q (zeroBlk P t zs).1}.put (ops.getD i default).dst (.ref q 0 0))=S2:=by kernel_rfl):AStep P ro ops i S S2:=AStep.to (AStep.alloc0 hi hw hop hz hvd) h2
end
theorem RH.take{β:Homes}{G K:Kept}{h:List Blk}{w:World}(r:RH β G K h w){n:Nat}(hu:(h.take n).all (Blk.under n)=true):RH (β.take n) G K (h.take n) w:=by
 have get:∀ {i:Nat} {k:Blk},(h.take n)[i]? =some k->i<n/\h[i]? =some k:=fun {i k} hi=>by
  rw[List.getElem?_take]at hi;split at hi
  ·rename_i hn;exact⟨hn,hi⟩
  ·cases hi
 have getb:∀ {i:Nat},i<n->(β.take n)[i]? =β[i]? :=fun hi=>List.getElem?_take_of_lt hi;refine⟨by simp[r.len],fun i k hk=> ?_,fun i j x y k k' hi hj g g' hbi hbj e=> ?_,fun i x k hi g hb=> ?_,r.keep,r.gk,r.amb,fun i X tr hi=> ?_⟩
 ·obtain⟨h1,h2⟩:=get hk;rw[getb h1];exact(r.blk i k h2).take (List.all_eq_true.1 hu k (List.mem_of_getElem? hk))
 ·obtain⟨h1,h2⟩:=get hi;obtain⟨h3,h4⟩:=get hj;rw[getb h1]at hbi;rw[getb h3]at hbj;exact r.inj i j x y k k' h2 h4 g g' hbi hbj e
 ·obtain⟨h1,h2⟩:=get hi;rw[getb h1]at hb;exact r.sep i x k h2 g hb
 ·obtain⟨h1,h2⟩:=get hi;obtain⟨l,E,q1,q2,q3,q4⟩:=r.ext i X tr h2;refine⟨l,E,by rw[getb h1];exact q1,q2,q3,fun b hb=>⟨(q4 b hb).1,fun j x k hj g hbj=> ?_⟩⟩;obtain⟨h5,h6⟩:=get hj;rw[getb h5]at hbj;exact(q4 b hb).2 j x k h6 g hbj
theorem HCalls.of_bodyD{P:Program}{f:FuncId}{fn:Func}{c:Code}{args:List V}{v:V}{h h':List Blk}(hf:P.funcs[f]? =some fn)(hb:fn.body=some c)(hn:(fn.name== "runtime.NumGoroutine")=false)(hle0:h.length<=h'.length)
  (hw:AWP P ⟨none,h.length⟩ c {t:=args++List.replicate (fn.ntmps-args.length) .undef,h:=h,d:=[]} fun e S=>(e=.normal\/e=.ret)/\S.d.Nodup/\(shut S.d S.h).take h'.length=h'/\h'.all (Blk.under h'.length)=true/\v.under h'.length=true/\resultV P fn {S with h:=shut S.d S.h}=some v):HCalls P f args v h h':=by
 have hn':¬fn.name= "runtime.NumGoroutine" :=by simpa using hn
 refine⟨fun xs w=>by simp[callFunc,hf,hn',hb],fun β G K w xs rh hl hr=> ?_⟩;refine callsIn_wide.1 (callsIn_of_wp_marks (F:=wide ⟨none,0⟩) (n:=0) hf hb trivial ?_)
 have r:RS β G K {t:=args++List.replicate (fn.ntmps-args.length) .undef,h:=h,d:=[]} {tmps:=xs++Array.replicate (fn.ntmps-xs.size) Go.undef,defers:=[]} w:=by
  refine⟨rh,by simp[hl],fun j=> ?_,rfl,by simp⟩;rcases Nat.lt_or_ge j args.length with h1|h1
  ·rw[getD_append_left h1,agetD_append_left (by omega)];exact hr j h1
  ·rw[getD_append_right h1,agetD_append_right (by omega)]
   have:(List.replicate (fn.ntmps-args.length) V.undef).getD (j-args.length) .undef=.undef:=by
    rw[gE,List.getElem?_replicate];split<;>rfl
   rw[this];exact .undef _
 refine wpIn_mono (hw β G K _ w r) fun e a' w' hp=> ?_;obtain⟨S,β',G',K',h0,hG,hK,r',he,hnd,hh,hu,hvu,hv⟩:=hp
 have hle:β.le β':=by
  unfold Homes.low at h0;rwa[List.take_of_length_le (by simp only;rw[rh.len];exact Nat.le_refl _)]at h0
 have leaves:LeavesInM (wide ⟨none,0⟩) 0 P fn a'.tmps (fun e w'=>∃x β' G' K',e=.returned x/\β.le β'/\G.ext K G'/\K.le K'/\RH β' G' K' h' w'/\Rel G' β' v x) a'.defers .returning w':=by
  refine take_marks S.d a'.defers β' G' K' S.h a'.tmps w' r'.h r'.marks hnd r'.mark fun w2 r2=> ?_;obtain⟨x,hx,hrx⟩:=resultV_ok (S:={S with h:=shut S.d S.h}) r2 r'.tmp hv;have r3:=r2.take (n:=h'.length) (by rw[hh];exact hu);rw[hh]at r3;refine⟨x,hx,x,β'.take h'.length,G',K',rfl,fun i hm hv1 hi=> ?_,hG,hK,r3,hrx.take hvu⟩;have hib:i<β.length:=(List.getElem?_eq_some_iff.1 hi).1;rw[List.getElem?_take_of_lt (by rw[rh.len]at hib;omega)]
  exact hle i hm hv1 hi
 rcases he with rfl|rfl
 ·exact leaves
 ·exact leaves
theorem HCalls.wpD{α ρ:Type}{P:Program}(hmx:P.follows .mixedOrders=true){f:FuncId}{fn:Func}{c:Code}{args:List V}{v:V}{h h':List Blk}(hf:P.funcs[f]? =some fn)(hb:fn.body=some c)(hn:(fn.name== "runtime.NumGoroutine")=false)(hle0:h.length<=h'.length)
  (T:α->Tr α ρ) (cfg:α->List Item × St) (fin:ρ->Exit × St) (e:α) (he:cfg e=([.code c],{t:=args++List.replicate (fn.ntmps-args.length) .undef,h:=h,d:=[]}))
  (hsim:∀a,∃n,runG P h.length n (startOf (cfg a).1) (cfg a).2 ((T a).toD cfg fin)=some ((T a).toD cfg fin)) {pr:ρ->Prop} (hw:WP P ⟨none,h.length⟩ T (Ends' pr) e)
  (hfin:∀r,pr r->((fin r).1=.normal\/(fin r).1=.ret)/\(fin r).2.d.Nodup/\(shut (fin r).2.d (fin r).2.h).take h'.length=h'/\h'.all (Blk.under h'.length)=true/\v.under h'.length=true/\resultV P fn {(fin r).2 with h:=shut (fin r).2.d (fin r).2.h}=some v):HCalls P f args v h h':=
 HCalls.of_bodyD hf hb hn hle0 (AWP.wp hmx T cfg fin e he hsim hw hfin)
theorem Rel.low{G:Kept}{β γ:Homes}{v:V}{x:Value}(h:Rel G β v x)(hu:v.under 0=true):Rel G γ v x:=by
 have:=h.take (m:=0) hu;rw[List.take_zero]at this;exact this.up γ
def V.atR(i:Nat):V->V
 |.ref 0 r off=>.ref i r off
 |.row 0 n=>.row i n
 |v=>v
theorem HCalls.atRow{P:Program}{f:FuncId}{args:List V}{v:V}{et:TypeId}{wd n n2:Nat}{c0 c2:Nat->Nat->V}(hc:HCalls P f args v [.rows et wd n c0] [.rows et wd n2 c2])(ha:∀j,(∃r off,args.getD j .undef=.ref 0 r off)\/(∃m,args.getD j .undef=.row 0 m)\/(args.getD j .undef).under 0=true)(hv:(∃m,v=.row 0 m)\/v.under 0=true)(h0n:0<n)
  {h:List Blk} {i:Nat} (hi:h[i]? =some (.rows et wd n c0)):HCalls P f (args.map (V.atR i)) (V.atR i v) h (h.set i (.rows et wd n2 c2)):=
 ⟨hc.1,fun β G K w xs r hl hr=>by
  have hB:=r.blk i _ hi
  obtain⟨x,hx⟩:∃x,β[i]? =some (.lie x):=by
   cases hb:β[i]? with
   |none=>rw[hb]at hB;exact hB.elim
   |some m=>
    rw[hb]at hB
    cases m with
    |lie x=>exact⟨x,rfl⟩
    |void=>exact hB.elim
    |nil=>exact absurd hB.1 (by omega)
    |ext l=>exact hB.elim
  rw[hx]at hB;obtain⟨hKx,hlt⟩:=r.sep i x _ hi (by simp) hx
  obtain⟨K0,hK0⟩:∃K0:Kept,K0=⟨fun b=>if b=x.b then none else w.heap[b]?,K.amb⟩:=⟨_,rfl⟩
  have k0x:K0 x.b=none:=by rw[hK0];simp
  have k0o:∀b,b≠x.b->K0 b=w.heap[b]? :=fun b hb=>by rw[hK0];simp[hb]
  have hGK0:G.le K0:=⟨fun b o hb=>by
   have h1:=r.gk b o hb;have h2:b≠x.b:=fun e=>by rw[e,hKx]at h1;cases h1
   rw[k0o b h2];exact r.keep b o h1,r.gk.same.trans (by rw[hK0])⟩
  have r0:RH [.lie x] G K0 [.rows et wd n c0] w:=by
   refine⟨rfl,fun j k hj=> ?_,fun j l y z k k' hj hl _ _ _ _ _=> ?_,fun j y k hj _ hb=> ?_,fun b o hb=> ?_,hGK0,by rw[hK0];exact r.amb,fun j X tr hj=> ?_⟩
   ·match j,hj with
    |0,hj=>
     cases hj;exact hB
    |j+1,hj=>simp at hj
   ·match j,l,hj,hl with
    |0,0,_,_=>rfl
    |j+1,_,hj,_=>simp at hj
    |0,l+1,_,hl=>simp at hl
   ·match j,hj,hb with
    |0,_,hb=>cases hb;exact⟨k0x,hlt⟩
    |j+1,hj,_=>simp at hj
   ·by_cases e:b=x.b
    ·rw[e,k0x]at hb;cases hb
    ·rw[k0o b e]at hb;exact hb
   ·match j,hj with
    |0,hj=>cases hj
    |j+1,hj=>simp at hj
  refine(hc.tight rfl rfl [.lie x] G K0 w xs r0 (by simpa using hl) fun j hj=> ?_).mono ?_
  ·have h1:=hr j (by simpa using hj)
   have e1:(args.map (V.atR i)).getD j .undef=V.atR i (args.getD j .undef):=by
    simp only[gE,List.getElem?_map];cases args[j]? <;>rfl
   rw[e1]at h1;rcases ha j with⟨q,off,e⟩|⟨m,e⟩|hu
   ·rw[e]at h1⊢;change Rel G β (.ref i q off) _ at h1
    generalize xs.getD j Go.undef=y at h1
    cases h1 with
    |ref hb=>rw[hx]at hb;cases hb;exact .ref rfl
   ·rw[e]at h1⊢;change Rel G β (.row i m) _ at h1
    generalize xs.getD j Go.undef=y at h1
    cases h1 with
    |row hb q1 q2 q3=>rw[hx]at hb;cases hb;exact .row rfl q1 q2 q3
    |row0 hb=>rw[hx]at hb;cases hb
   ·have e2:V.atR i (args.getD j .undef)=args.getD j .undef:=by
     generalize args.getD j .undef=u at hu
     unfold V.atR;split
     ·simp[V.under]at hu
     ·simp[V.under]at hu
     ·rfl
    rw[e2]at h1;exact h1.low hu
  rintro e w' ⟨⟨y,γ,G',K',rfl,hγ,hG,hK,r',hy⟩,hmild⟩
  have hg0:γ=[.lie x]:=by
   have h1:=hγ 0 (.lie x) (by simp) rfl;have h2:γ.length=1:=r'.len
   match γ,h1,h2 with
   |[z],h1,_=>cases h1;rfl
  subst hg0
  have hold:∀b,b<w.heap.size->b≠x.b->w'.heap[b]? =w.heap[b]? :=fun b hb hne=>by
   have e1:w.heap[b]? =some w.heap[b]:=Array.getElem?_eq_getElem hb;rw[e1];exact r'.keep b _ (hK b _ (by rw[k0o b hne];exact e1))
  have hx':=r'.sep 0 x _ rfl (by simp) rfl
  have hsz:w.heap.size<=w'.heap.size:=by
   rcases Nat.lt_or_ge w'.heap.size w.heap.size with q|q
   ·by_cases e:w'.heap.size=x.b
    ·have:=hx'.2;omega
    ·have:=hold w'.heap.size q e;rw[Array.getElem?_eq_none (Nat.le_refl _),Array.getElem?_eq_getElem q]at this;cases this
   ·exact q
  have hnew:∀b o,G' b=some o->G b=some o\/w.heap.size<=b:=fun b o hb=>by
   rcases hG.2 b o hb with q|q
   ·exact .inl q
   ·rcases Nat.lt_or_ge b w.heap.size with z|z
    ·by_cases e:b=x.b
     ·have:=r'.gk b o hb;rw[e,hx'.1]at this;cases this
     ·rw[k0o b e,Array.getElem?_eq_getElem z]at q;cases q
    ·exact .inr z
  have hKlt:∀b o,K b=some o->b<w.heap.size:=fun b o hb=>(Array.getElem?_eq_some_iff.1 (r.keep b o hb)).1
  have hKn:∀b,w.heap.size<=b->K b=none:=fun b hb=>by
   cases q:K b with
   |none=>rfl
   |some o=>have:=hKlt b o q;omega
  obtain⟨K2,hK2⟩:∃K2:Kept,K2=⟨fun b=>match K b with|some o=>some o|none=>G' b,K.amb⟩:=⟨_,rfl⟩
  have k2K:∀b o,K b=some o->K2 b=some o:=fun b o hb=>by rw[hK2];simp[hb]
  have k2n:∀b,K b=none->K2 b=G' b:=fun b hb=>by rw[hK2];simp[hb]
  have k2none:∀b,b<w.heap.size->K b=none->K2 b=none:=fun b hb hn=>by
   rw[k2n b hn]
   cases q:G' b with
   |none=>rfl
   |some o=>
    rcases hnew b o q with z|z
    ·have:=r.gk b o z;rw[hn]at this;cases this
    ·omega
  have hsame:K.amb=G'.amb:=by rw[<-r.gk.same];exact hG.1.same
  refine⟨y,β,G',K2,rfl,Homes.le_refl _,⟨hG.1,fun b o hb=>(hnew b o hb).imp id (hKn b)⟩,⟨k2K,by rw[hK2]⟩,⟨by simp[r.len],fun j k hj=> ?_,fun j l y z k k' hj hl g g' hbj hbl e=> ?_,fun j y k hj g hb=> ?_,fun b o hb=> ?_,⟨fun b o hb=> ?_,?_⟩,?_,fun j X tr hj=> ?_⟩,?_⟩
  ·by_cases e:j=i
   ·subst e;rw[List.getElem?_set_self (List.getElem?_eq_some_iff.1 hi).1]at hj;cases hj;rw[hx];exact r'.blk 0 _ rfl
   ·rw[sN (Ne.symm e)]at hj;by_cases hg:k=.gone
    ·subst hg;cases(β[j]?.getD .void)<;>trivial
    refine(r.blk j k hj).mono hG.1 (Homes.le_refl _) fun y hy=> ?_
    have hb:β[j]? =some (.lie y):=by
     cases hb:β[j]? with
     |none=>simp[hb]at hy
     |some z=>simp[hb]at hy;rw[hy]
    refine hold y.b (r.sep j y k hj hg hb).2 fun e2=>e ?_;exact r.inj j i y x k _ hj hi hg (by simp) hb hx e2
  ·have look:∀ {j:Nat} {k:Blk},(h.set i (.rows et wd n2 c2))[j]? =some k->k≠ .gone->∃k2,h[j]? =some k2/\k2≠ .gone:=fun {j k} hj g=>by
    by_cases e:j=i
    ·subst e;exact⟨_,hi,by simp⟩
    ·rw[sN (Ne.symm e)]at hj;exact⟨k,hj,g⟩
   obtain⟨k2,q1,q2⟩:=look hj g;obtain⟨k3,q3,q4⟩:=look hl g';exact r.inj j l y z k2 k3 q1 q3 q2 q4 hbj hbl e
  ·by_cases e:j=i
   ·subst e;rw[hx]at hb;cases hb;exact⟨k2none _ hlt hKx,Nat.lt_of_lt_of_le hlt hsz⟩
   ·rw[sN (Ne.symm e)]at hj;have hs:=r.sep j y k hj g hb;exact⟨k2none _ hs.2 hs.1,Nat.lt_of_lt_of_le hs.2 hsz⟩
  ·cases q:K b with
   |none=>rw[k2n b q]at hb;exact r'.keep b o (r'.gk b o hb)
   |some o'=>
    rw[k2K b o' q]at hb;cases hb;have hne:b≠x.b:=fun e=>by rw[e,hKx]at q;cases q
    rw[hold b (hKlt b _ q) hne];exact r.keep b _ q
  ·cases q:K b with
   |none=>rw[k2n b q];exact hb
   |some o'=>
    rw[k2K b o' q];rcases hnew b o hb with z|z
    ·have:=r.gk b o z;rw[q]at this;exact this
    ·have:=hKlt b o' q;omega
  ·rw[hK2];exact hsame.symm
  ·rw[hK2];exact r.amb.mild hmild
  ·have hne:j≠i:=fun e=>by
    subst e;rw[List.getElem?_set_self (List.getElem?_eq_some_iff.1 hi).1]at hj;cases hj
   rw[sN (Ne.symm hne)]at hj;obtain⟨l,E,h1,h2,h3,h4⟩:=r.ext j X tr hj
   have hE:∀b,E b≠none->b<w.heap.size/\b≠x.b:=fun b hb=>⟨Ext.lt h2 hb,fun e=>(h4 b hb).2 i x _ hi (by simp) hx e.symm⟩
   refine⟨l,E,h1,X.stable h2 (fun b o hb=> ?_) (fun b o hb=> ?_) hsz hmild,⟨fun b o hb=>k2K b o (h3 b o hb),h3.same.trans (by rw[hK2])⟩,fun b hb=>⟨k2none b (hE b hb).1 (h4 b hb).1,fun q z k hq g hz=> ?_⟩⟩
   ·have q:=X.keeps h2 b o hb;have:=hE b (by rw[hb];simp);rw[hold b this.1 this.2];exact q
   ·have q:=h3 b o hb;have hne2:b≠x.b:=fun e=>by rw[e,hKx]at q;cases q
    rw[hold b (hKlt b o q) hne2];exact r.keep b o q
   ·by_cases e:q=i
    ·subst e;rw[hx]at hz;cases hz;exact fun e=>(hE b hb).2 e.symm
    ·rw[sN (Ne.symm e)]at hq;exact(h4 b hb).2 q z k hq g hz
  ·rcases hv with⟨m,rfl⟩|hv
   ·show Rel G' β (.row i m) y
    cases hy with
    |row hb q1 q2 q3=>cases hb;exact .row hx q1 q2 q3
    |row0 hb=>cases hb
   ·have e2:V.atR i v=v:=by
     unfold V.atR;split
     ·simp[V.under]at hv
     ·simp[V.under]at hv
     ·rfl
    rw[e2];exact hy.low hv⟩
theorem AWP.ownCell{P:Program}{ro:Env}{c:Code}{S:St}{Q:Exit->St->Prop}{i j n:Nat}{cs:List V}(e:TypeId)(c0:Nat->Nat->V)(hi:S.h[i]? =some (.cells cs))(hj:cs[j]? =some .nils)(hn:0<n)
  (h:AWP P ro c ⟨S.t,(S.h++ [Blk.rows e n 0 c0]).set i (.cells (cs.set j (.row S.h.length 0))),S.d⟩ Q):AWP P ro c S Q:=fun β G K a w r=>by
 have hil:=(List.getElem?_eq_some_iff.1 hi).1;have hjl:=(List.getElem?_eq_some_iff.1 hj).1;have r1:=r.push_none e c0 hn;have hz:(β++ [Hm.nil])[S.h.length]? =some .nil:=by rw[<-r.h.len];simp
 have hi1:(S.h++ [Blk.rows e n 0 c0])[i]? =some (.cells cs):=by rw[aL hil];exact hi
 have r2:RS (β++ [Hm.nil]) G K ⟨S.t,(S.h++ [Blk.rows e n 0 c0]).set i (.cells (cs.set j (.row S.h.length 0))),S.d⟩ a w:=by
  refine⟨r1.h.swap hi1 (by simp) rfl ?_,r1.size,r1.tmp,r1.marks,fun q hq=> ?_⟩
  ·have hB:=r1.h.blk i _ hi1;revert hB
   generalize(β++ [Hm.nil])[i]?.getD .void=z
   cases z with
   |void=>exact fun h=>h.elim
   |nil=>exact fun h=>h.elim
   |ext l=>exact fun h=>h.elim
   |lie y=>
    rintro⟨ca,t,h1,h2,h3⟩
    refine⟨ca,t,h1,by simpa using h2,fun q hq=> ?_⟩;have hq':q<cs.length:=by simpa using hq
    by_cases q1:j=q
    ·subst q1;have h4:=h3 j hjl;rw[gE,hj]at h4;rw[gE,List.getElem?_set_self hjl];generalize ca.getD j Go.undef=x at h4
     cases h4;exact .row0 hz
    ·rw[gE,sN q1,<-List.getD_eq_getElem?_getD];exact h3 q hq'
  ·obtain⟨x,h1,h2,h3⟩:=r1.mark q hq;have hne:i≠S.d.getD q 0:=by intro e9;rw[<-e9]at h3;rw[show({S with h:=S.h++ [Blk.rows e n 0 c0]}:St).h=S.h++ [.rows e n 0 c0]from rfl,hi1]at h3;cases h3
   refine⟨x,h1,h2,?_⟩;show((S.h++ [Blk.rows e n 0 c0]).set i _)[S.d.getD q 0]? =_;rw[sN hne];exact h3
 exact wpIn_mono (h _ G K a w r2) fun e a w hp=>hp.up ((Homes.le_append _ _).low _) (G.ext_refl K) K.le_refl
theorem HCalls.more{P:Program}{f:FuncId}{args:List V}{v:V}{h h':List Blk}(hc:HCalls P f args v h h')(hl:h'.length=h.length)(ha:underL h.length args=true)(hu:h.all (Blk.under h.length)=true)(hxa:extAs h h')(e:List Blk)(he:noExt e=true):HCalls P f args v (h++e) (h'++e):=
 ⟨hc.1,fun β G K w xs r hlen hr=>by
  have htk:(h++e).take h.length=h:=by simp
  have r1:RH (β.take h.length) G K h w:=by
   have:=r.take (n:=h.length) (by rw[htk];exact hu);rwa[htk]at this
  have hβ:β.length=h.length+e.length:=by rw[r.len,List.length_append]
  let EH:Nat->Prop:=fun b=>∃(i:Nat) (x:Home) (k:Blk),e[i]? =some k/\k≠ .gone/\β[h.length+i]? =some (.lie x)/\x.b=b
  have hget:∀ {i:Nat} {k:Blk},e[i]? =some k->(h++e)[h.length+i]? =some k:=fun {i k} hi=>by
   rw[List.getElem?_append_right (by omega),Nat.add_sub_cancel_left];exact hi
  have hEK:∀b,EH b->K b=none/\b<w.heap.size:=fun b ⟨i,x,k,h1,h2,h3,h4⟩=>by rw[<-h4];exact r.sep _ x k (hget h1) h2 h3
  obtain⟨K1,hK1⟩:∃K1:Kept,K1=⟨fun b=>open Classical in if EH b then w.heap[b]? else K b,K.amb⟩:=⟨_,rfl⟩
  have k1s:K1.amb=K.amb:=by rw[hK1]
  have k1y:∀b,EH b->K1 b=w.heap[b]? :=fun b hb=>by rw[hK1];simp only[if_pos hb]
  have k1n:∀b,¬EH b->K1 b=K b:=fun b hb=>by rw[hK1];simp only[if_neg hb]
  have hKK1:K.le K1:=⟨fun b o hb=>by rw[k1n b (fun q=>by rw[(hEK b q).1]at hb;cases hb)];exact hb,k1s.symm⟩
  have hkeep1:∀b o,K1 b=some o->w.heap[b]? =some o:=fun b o hb=>by
   by_cases q:EH b
   ·rw[k1y b q]at hb;exact hb
   ·rw[k1n b q]at hb;exact r.keep b o hb
  have hold:∀ {i:Nat} {k:Blk},h[i]? =some k->i<h.length/\(h++e)[i]? =some k:=fun {i k} hi=>by
   have:=(List.getElem?_eq_some_iff.1 hi).1;exact⟨this,by rw[aL this];exact hi⟩
  have hbt:∀ {i:Nat},i<h.length->(β.take h.length)[i]? =β[i]? :=fun hi=>List.getElem?_take_of_lt hi
  have hdis:∀(i:Nat) (x:Home) (k:Blk),h[i]? =some k->k≠ .gone->(β.take h.length)[i]? =some (.lie x)->¬EH x.b:=fun i x k hi hg hb ⟨j,y,k2,h1,h2,h3,h4⟩=>by
   obtain⟨q1,q2⟩:=hold hi;rw[hbt q1]at hb;have:=r.inj i (h.length+j) x y k k2 q2 (hget h1) hg h2 hb h3 h4.symm;omega
  obtain⟨E0,hE0⟩:=r1.extOK
  have hxe:∀(i:Nat) (X:Ext) (tr:List V),h[i]? =some (.ext X tr)->∃l E,(β.take h.length)[i]? =some (.ext l)/\X.I l tr E w/\X.base.le K1/\∀b,E b≠none->K1 b=none/\¬EH b/\∀(j:Nat) (x:Home) (k:Blk),h[j]? =some k->k≠ .gone->(β.take h.length)[j]? =some (.lie x)->x.b≠b:=fun i X tr hi=>by
   obtain⟨q1,q2⟩:=hold hi;obtain⟨l,E,p1,p2,p3,p4⟩:=r.ext i X tr q2;have hne:∀b,E b≠none->¬EH b:=fun b hb ⟨j,y,k2,h1,h2,h3,h4⟩=>(p4 b hb).2 (h.length+j) y k2 (hget h1) h2 h3 h4;refine⟨l,E,by rw[hbt q1];exact p1,p2,p3.trans hKK1,fun b hb=>⟨by rw[k1n b (hne b hb)];exact(p4 b hb).1,hne b hb,fun j x k hj hg hbj=> ?_⟩⟩;obtain⟨q3,q4⟩:=hold hj;rw[hbt q3]at hbj;exact(p4 b hb).2 j x k q4 hg hbj
  have r2:RH (β.take h.length) G K1 h w:=by
   refine⟨r1.len,r1.blk,r1.inj,fun i x k hi hg hb=>⟨by rw[k1n _ (hdis i x k hi hg hb)];exact(r1.sep i x k hi hg hb).1,(r1.sep i x k hi hg hb).2⟩,hkeep1,r1.gk.trans hKK1,by rw[k1s];exact r1.amb,fun i X tr hi=> ?_⟩;obtain⟨l,E,p1,p2,p3,p4⟩:=hxe i X tr hi;exact⟨l,E,p1,p2,p3,fun b hb=>⟨(p4 b hb).1,(p4 b hb).2.2⟩⟩
  refine(hc.2 (β.take h.length) G K1 w xs r2 hlen fun j hj=>(hr j hj).take (underL_getD ha j)).mono ?_;rintro e0 w' ⟨x,β',G',K',rfl,h1,h2,h3,h4,h5⟩
  have hβ':β'.length=h.length:=by rw[h4.len,hl]
  have hle:β.le (β'++β.drop h.length):=fun i z hv hz=>by
   rcases Nat.lt_or_ge i h.length with q|q
   ·rw[aL (by omega)];exact h1 i z hv (by rw[hbt q];exact hz)
   ·rw[List.getElem?_append_right (by omega),hβ',List.getElem?_drop,show h.length+(i-h.length)=i by omega];exact hz
  have hb2:∀i,(β'++β.drop h.length)[h.length+i]? =β[h.length+i]? :=fun i=>by
   rw[List.getElem?_append_right (by omega),hβ',List.getElem?_drop,Nat.add_sub_cancel_left]
  obtain⟨K2,hK2⟩:∃K2:Kept,K2=⟨fun b=>open Classical in if EH b then none else K' b,K'.amb⟩:=⟨_,rfl⟩
  have k2s:K2.amb=K'.amb:=by rw[hK2]
  have k2y:∀b,EH b->K2 b=none:=fun b hb=>by rw[hK2];simp only[if_pos hb]
  have k2n:∀b,¬EH b->K2 b=K' b:=fun b hb=>by rw[hK2];simp only[if_neg hb]
  have k2o:∀b o,K2 b=some o->K' b=some o:=fun b o hb=>by
   by_cases q:EH b
   ·rw[k2y b q]at hb;cases hb
   ·rw[k2n b q]at hb;exact hb
  have hKE:∀b,EH b->K' b=w.heap[b]?/\w'.heap[b]? =w.heap[b]? :=fun b hb=>by
   have e1:w.heap[b]? =some (w.heap[b]'(hEK b hb).2):=Array.getElem?_eq_getElem _;have e2:=h3 b _ (by rw[k1y b hb];exact e1);exact⟨e2.trans e1.symm,(h4.keep b _ e2).trans e1.symm⟩
  have hGE:∀b o,G' b=some o->¬EH b:=fun b o hb q=>by
   rcases h2.2 b o hb with z|z
   ·have:=r.gk b o z;rw[(hEK b q).1]at this;cases this
   ·rw[k1y b q,Array.getElem?_eq_getElem (hEK b q).2]at z;cases z
  have hG'K2:G'.le K2:=⟨fun b o hb=>by rw[k2n b (hGE b o hb)];exact h4.gk b o hb,h4.gk.same.trans k2s.symm⟩
  have hKK2:K.le K2:=⟨fun b o hb=>by rw[k2n b (fun q=>by rw[(hEK b q).1]at hb;cases hb)];exact h3 b o (hKK1 b o hb),k1s.symm.trans (h3.same.trans k2s.symm)⟩
  have hh':∀ {i:Nat} {k:Blk},(h'++e)[i]? =some k->(i<h.length/\h'[i]? =some k/\(β'++β.drop h.length)[i]? =β'[i]?)\/(∃j,i=h.length+j/\e[j]? =some k):=fun {i k} hi=>by
   rcases Nat.lt_or_ge i h.length with q|q
   ·rw[aL (by omega)]at hi;exact .inl ⟨q,hi,aL (by omega)⟩
   ·rw[List.getElem?_append_right (by omega),hl]at hi;exact .inr ⟨i-h.length,by omega,hi⟩
  have hsep':∀(i:Nat) (y:Home) (k:Blk),h'[i]? =some k->k≠ .gone->β'[i]? =some (.lie y)->¬EH y.b:=fun i y k hi hg hb q=>by
   have:=(h4.sep i y k hi hg hb).1;rw[(hKE _ q).1,Array.getElem?_eq_getElem (hEK _ q).2]at this;cases this
  refine⟨x,β'++β.drop h.length,G',K2,rfl,hle,⟨h2.1,fun b o hb=> ?_⟩,hKK2,⟨by simp[hβ',hl,hβ],fun i k hi=> ?_,fun i j y z k k2 hi hj g g2 hbi hbj he2=> ?_,fun i y k hi hg hb=> ?_,fun b o hb=>h4.keep b o (k2o b o hb),hG'K2,by rw[k2s];exact h4.amb,fun i X tr hi=> ?_⟩,h5.mono G'.le_refl (Homes.le_append _ _)⟩
  ·rcases h2.2 b o hb with z|z
   ·exact .inl z
   ·right
    by_cases q:EH b
    ·exact(hEK b q).1
    ·rw[k1n b q]at z;exact z
  ·by_cases hg:k=.gone
   ·subst hg;cases((β'++β.drop h.length)[i]?.getD .void)<;>trivial
   rcases hh' hi with⟨_,q2,q3⟩|⟨j,rfl,q2⟩
   ·rw[q3];exact(h4.blk i k q2).mono G'.le_refl (Homes.le_append _ _) fun _ _=>rfl
   ·rw[hb2];refine(r.blk _ k (hget q2)).mono h2.1 hle fun y hy=> ?_
    have hb:β[h.length+j]? =some (.lie y):=by
     cases hb:β[h.length+j]? with
     |none=>simp[hb]at hy
     |some z=>simp[hb]at hy;rw[hy]
    exact(hKE y.b ⟨j,y,k,q2,hg,hb,rfl⟩).2
  ·rcases hh' hi with⟨a1,a2,a3⟩|⟨p,rfl,a2⟩<;>rcases hh' hj with⟨c1,c2,c3⟩|⟨q,rfl,c2⟩
   ·rw[a3]at hbi;rw[c3]at hbj;exact h4.inj i j y z k k2 a2 c2 g g2 hbi hbj he2
   ·rw[a3]at hbi;rw[hb2]at hbj;exact absurd ⟨q,z,k2,c2,g2,hbj,he2.symm⟩ (hsep' i y k a2 g hbi)
   ·rw[c3]at hbj;rw[hb2]at hbi;exact absurd ⟨p,y,k,a2,g,hbi,he2⟩ (hsep' j z k2 c2 g2 hbj)
   ·rw[hb2]at hbi hbj;exact r.inj _ _ y z k k2 (hget a2) (hget c2) g g2 hbi hbj he2
  ·rcases hh' hi with⟨_,a2,a3⟩|⟨p,rfl,a2⟩
   ·rw[a3]at hb;exact⟨by rw[k2n _ (hsep' i y k a2 hg hb)];exact(h4.sep i y k a2 hg hb).1,(h4.sep i y k a2 hg hb).2⟩
   ·rw[hb2]at hb
    have hq:EH y.b:=⟨p,y,k,a2,hg,hb,rfl⟩
    refine⟨k2y _ hq,?_⟩;have:=(hKE _ hq).2;rw[Array.getElem?_eq_getElem (hEK _ hq).2]at this;exact(Array.getElem?_eq_some_iff.1 this).1
  ·rcases hh' hi with⟨_,a2,a3⟩|⟨p,rfl,a2⟩
   ·obtain⟨l,E,p1,p2,p3,p4⟩:=h4.ext i X tr a2
    have hne:∀b,E b≠none->¬EH b:=fun b hb q=>by
     have:=(p4 b hb).1;rw[(hKE _ q).1,Array.getElem?_eq_getElem (hEK _ q).2]at this;cases this
    have hbase:X.base.le K2:=by
     obtain⟨tr',ht⟩:=hxa i X tr a2;obtain⟨l2,E2,z1,z2,z3,z4⟩:=r.ext i X tr' (hold ht).2;exact z3.trans hKK2
    refine⟨l,E,by rw[a3];exact p1,p2,hbase,fun b hb=>⟨by rw[k2n b (hne b hb)];exact(p4 b hb).1,fun j y k hj hg hbj=> ?_⟩⟩;rcases hh' hj with⟨_,c2,c3⟩|⟨q,rfl,c2⟩
    ·rw[c3]at hbj;exact(p4 b hb).2 j y k c2 hg hbj
    ·rw[hb2]at hbj;exact fun e2=>hne b hb ⟨q,y,k,c2,hg,hbj,e2⟩
   ·exact absurd a2 (noExt_not he)⟩
section
variable {P:Program} {h:List Blk}
theorem run_copy_rowW(w:World)(dT sT ty elem:TypeId)(g o dLen dCap:Nat)(a:Addr)(sLen sCap:Nat)(cur:Array Value)(t:TypeId)(cs:List Value){sz:Nat}
  (hu:P.underlying dT=some (.slice elem)) (hs:(P.info? elem).map (·.size)=some sz)
  (hg:w.heap[g]? =some (.cells cur t (0,0))) (hn:cs.length=Nat.min sLen dLen*sz)
  (hsrc:∀j v,cs[j]? =some v->w.cell? (a.add j)=some v) (hfit:o+cs.length<=cur.size) (h1:∀v∈cs,v.oneCell'=true):
  (Builtin.copy_ #[dT,sT] ty #[.slice (some ⟨g,o,none⟩) dLen dCap,.slice (some a) sLen sCap]).run P w=
   .ok (goInt (Nat.min sLen dLen)) (w.setRow g (cur.toList.take o++cs++cur.toList.drop (o+cs.length)).toArray):=by
 have hl:=run_loadCells_list (P:=P) w a cs hsrc;have hst:=run_storeCells_at P g o t cs 0 cur w hg (by simpa using hfit) h1
 cases hq:P.info? elem with
 |none=>simp[hq]at hs
 |some i=>
  have hi:i.size=sz:=by simpa[hq]using hs
  simp[Builtin.copy_,run_underlying hu,Builtin.lenOf,Builtin.firstCells,Go.sizeOf,typeInfo,hq,hi,<-hn,hl,hst]
end
section
variable {P:Program} {h:List Blk}
def noK(w:World):Kept:=⟨fun _=>none,⟨w.os,w.output,w.tape,0⟩⟩
theorem split_at{es:Array MapEntry}{j:Nat}{e:MapEntry}(h:es[j]? =some e):es.toList=es.toList.take j++e::es.toList.drop (j+1):=by
 have e1:es.toList[j]? =some e:=by simpa using h
 obtain⟨l1,l2⟩:=List.getElem?_eq_some_iff.1 e1;rw[<-l2,List.getElem_cons_drop,List.take_append_drop]
variable {t kt et:TypeId} {M:List ((Nat->Int) × Int)} {q:Nat} {x y z:Operand} {F:Nat->Int} {c:Nat->Nat->V}
end
def jC(F:Int × Int):Array Value:= #[.int .i64 F.1,.int .i64 F.2]
def jK(F:Int × Int):Value:=.agg (jC F)
def jKV(F:Int × Int):V:=.agg [.int .i64 F.1,.int .i64 F.2]
def same2(F G:Int × Int):Bool:=F.1==G.1&&(F.2==G.2&&true)
theorem same2_iff{F G:Int × Int}:same2 F G=true↔F.1=G.1/\F.2=G.2:=by simp[same2]
theorem jK_same{F G:Int × Int}(h:same2 F G=true):jK F=jK G:=by
 obtain⟨h0,h1⟩:=same2_iff.1 h;unfold jK jC;rw[h0,h1]
theorem rel_jK{G0:Kept}{β:Homes}(F:Int × Int):Rel G0 β (jKV F) (jK F):=by
 refine .agg rfl fun j hj=> ?_;have hj':j<2:=hj;rcases show j=0\/j=1 by omega with rfl|rfl<;>exact .int _ _
theorem rel_jK_inv{G0:Kept}{β:Homes}{F:Int × Int}{y:Value}(h:Rel G0 β (.agg [.int .i64 F.1,.int .i64 F.2]) y):y=jK F:=by
 cases h with
 |agg hs hh=>
  rename_i xs;have h0:=rel_int_inv (hh 0 (Nat.zero_lt_succ 1));have h1:=rel_int_inv (hh 1 (Nat.lt_succ_self 1))
  have:xs=jC F:=by
   apply Array.ext
   ·exact hs.symm
   ·intro j h3 h2;have h5:j<2:=by rw[<-hs]at h3;exact h3
    rcases show j=0\/j=1 by omega with rfl|rfl
    ·rw[aG,Array.getElem?_eq_getElem h3]at h0;exact h0
    ·rw[aG,Array.getElem?_eq_getElem h3]at h1;exact h1
  rw[this];rfl
section
variable {P:Program} {h:List Blk}
theorem run_checkJ{kt e:TypeId}{f0 f1:Field}(hk:P.underlying kt=some (.struct #[f0,f1]))(he:P.underlying e=some (.int .i64))(hs:hasT P e=true)(h0:f0.type=e/\f0.offset=0/\(f0.name≠ "_"))(h1:f1.type=e/\f1.offset=1/\(f1.name≠ "_"))
  (hp:∀(F:Int × Int) (i:Nat),i<2->partV P e [.int .i64 F.1,.int .i64 F.2] i=some (if i=0 then .int .i64 F.1 else .int .i64 F.2)) (b:Bool) (F:Int × Int) (w:World):
  (Instr.checkKey b 10000 kt (jK F)).run P w=.ok () w:=by
 have hpart:∀i,i<2->∃y,(part e (jC F) i).run P w=.ok y w:=fun i hi=>by
  have hr:∀j,j<2->Rel (noK w) [] (([.int .i64 F.1,.int .i64 F.2]:List V).getD j .undef) ((jC F).getD j Go.undef):=fun j hj=>by
   rcases show j=0\/j=1 by omega with rfl|rfl<;>exact .int _ _
  obtain⟨y,h1,h2⟩:=part_ok hs (xs:=[.int .i64 F.1,.int .i64 F.2]) (cs:=jC F) rfl hr (hp F i hi) w;exact⟨y,h1⟩
 have hint:∀(n:Nat) (k:Value),(Instr.checkKey b (n+1) e k).run P w=.ok () w:=fun n k=>by
  simp only[Instr.checkKey,Sem.run_bind,run_underlying' he,Result.andThen_ok];rfl
 have:∀n,(Instr.checkKey b (n+2) kt (jK F)).run P w=.ok () w:=fun n=>by
  obtain⟨y0,p0⟩:=hpart 0 (by omega);obtain⟨y1,p1⟩:=hpart 1 (by omega);rw[Instr.checkKey.eq_def];simp only[jK,Sem.run_bind,run_underlying' hk,Result.andThen_ok];simp[h0.1,h0.2.1,h0.2.2,h1.1,h1.2.1,h1.2.2,Sem.run_bind,p0,p1,hint,Sem.run_pure]
 exact this 9998
structure KeyJ(P:Program)(kt:TypeId):Prop where
 und:∃fs,P.underlying kt=some (.struct fs)
 eqv:∀F G,eqV P 2 kt (jKV F) (jKV G)=some (same2 F G)
 chk:∀b F w,(Instr.checkKey b 10000 kt (jK F)).run P w=.ok () w
theorem run_equalJ{kt:TypeId}(hk:KeyJ P kt)(F G:Int × Int)(w:World):(Op.equal kt (jK F) (jK G)).run P w=.ok (same2 F G) w:=
 eqV_ok (G:=noK w) (β:=[]) 2 10000 (by omega) kt (jKV F) (jKV G) _ _ _ w (hk.eqv F G) (rel_jK F) (rel_jK G)
theorem find_noneJ{kt:TypeId}(hk:KeyJ P kt)(F:Int × Int)(w:World):∀(L:List MapEntry) (i:Nat),(∀e∈L,∃G,e.key=jK G/\same2 F G=false)->(Instr.findAsking kt (jK F) L i).run P w=.ok none w
 |[],_,_=>rfl
 |e::L,i,h=>by
  obtain⟨G,h1,h2⟩:=h e List.mem_cons_self;have ih:=find_noneJ hk F w L (i+1) fun e he=>h e (List.mem_cons_of_mem _ he);simp only[Instr.findAsking,Sem.run_bind,h1,run_equalJ hk,h2,Result.andThen_ok];simpa using ih
theorem find_someJ{kt:TypeId}(hk:KeyJ P kt)(F:Int × Int)(w:World)(e:MapEntry){G:Int × Int}(he:e.key=jK G)(hs:same2 F G=true)(L2:List MapEntry):∀(L1:List MapEntry) (i:Nat),(∀e∈L1,∃G,e.key=jK G/\same2 F G=false)->(Instr.findAsking kt (jK F) (L1++e::L2) i).run P w=.ok (some (i+L1.length,e.val)) w
 |[],i,_=>by
  simp only[List.nil_append,Instr.findAsking,Sem.run_bind,he,run_equalJ hk,hs,Result.andThen_ok];simp
 |d::L1,i,h=>by
  obtain⟨G2,h1,h2⟩:=h d List.mem_cons_self;have ih:=find_someJ hk F w e he hs L2 L1 (i+1) fun e he=>h e (List.mem_cons_of_mem _ he);simp only[List.cons_append,Instr.findAsking,Sem.run_bind,h1,run_equalJ hk,h2,Result.andThen_ok];simpa[Nat.add_assoc,Nat.add_comm 1]using ih
theorem findNow_J{fs:Array Field}(F:Int × Int)(L:List MapEntry)(hL:∀x∈L,∃G,x.key=jK G):(Instr.findNow (.struct fs) (jK F) L 0=some none/\L=[])\/Instr.findNow (.struct fs) (jK F) L 0=none:=by
 cases L with
 |nil=>exact .inl ⟨rfl,rfl⟩
 |cons x L=>
  obtain⟨G,h⟩:=hL x List.mem_cons_self;right
  simp[Instr.findNow,h,jK,Instr.sameNow]
theorem run_findJ{kt:TypeId}(hk:KeyJ P kt)(F:Int × Int)(w:World)(L:List MapEntry)(hL:∀x∈L,∃G,x.key=jK G){r:Option (Nat × Value)}(hr:(Instr.findAsking kt (jK F) L 0).run P w=.ok r w):(Instr.findKey kt (jK F) L).run P w=.ok r w:=by
 obtain⟨fs,hu⟩:=hk.und;rcases findNow_J (fs:=fs) F L hL with⟨h1,rfl⟩|h1
 ·have:r=none:=by
   simp[Instr.findAsking]at hr;exact hr.symm
  subst this;simp[Instr.findKey,run_underlying' hu,h1]
 ·simp[Instr.findKey,run_underlying' hu,h1,hr]
def entsJ(M:List ((Int × Int) × Int)):Array MapEntry:=((List.range M.length).map fun j=>({key:=jK (M.getD j ((0,0),0)).1,val:=.int .i64 (M.getD j ((0,0),0)).2,born:=j}:MapEntry)).toArray
def mJ(M:List ((Int × Int) × Int)):Blk:=.obj (.map (entsJ M) M.length)
theorem entsJ_size(M:List ((Int × Int) × Int)):(entsJ M).size=M.length:=by simp[entsJ]
theorem entsJ_get(M:List ((Int × Int) × Int))(j:Nat)(hj:j<M.length):∃e,(entsJ M)[j]? =some e/\e.key=jK M[j].1/\e.born=j/\e.val=.int .i64 M[j].2:=by
 refine⟨{key:=jK M[j].1,val:=.int .i64 M[j].2,born:=j},?_,rfl,rfl,rfl⟩;have e:M.getD j ((0,0),0)=M[j]:=by rw[gE,List.getElem?_eq_getElem hj];rfl
 rw[<-e];simp[entsJ,hj]
theorem entsJ_ext{es:Array MapEntry}{M:List ((Int × Int) × Int)}(hs:es.size=M.length)(he:∀j,(hj:j<M.length)->∃e,es[j]? =some e/\e.key=jK M[j].1/\e.born=j/\e.val=.int .i64 M[j].2):es=entsJ M:=by
 apply Array.ext
 ·rw[hs,entsJ_size]
 ·intro j h1 h2;obtain⟨e,g1,g2,g3,g4⟩:=he j (by omega);obtain⟨e',f1,f2,f3,f4⟩:=entsJ_get M j (by omega);rw[Array.getElem?_eq_getElem h1]at g1;rw[Array.getElem?_eq_getElem h2]at f1;cases g1;cases f1;have:∀a b:MapEntry,a.key=b.key->a.val=b.val->a.born=b.born->a=b:=fun a b q1 q2 q3=>by cases a;cases b;simp_all
  exact this _ _ (g2.trans f2.symm) (g4.trans f4.symm) (g3.trans f3.symm)
theorem keys_inJ{es:Array MapEntry}{M:List ((Int × Int) × Int)}(hs:es.size=M.length)(he:∀j,(hj:j<M.length)->∃e,es[j]? =some e/\e.key=jK M[j].1/\e.born=j/\e.val=.int .i64 M[j].2)(n:Nat){p:(Int × Int)->Prop}(hp:∀j,(hj:j<M.length)->j<n->p M[j].1):∀e∈es.toList.take n,∃G,e.key=jK G/\p G:=fun e hm=>by
 obtain⟨j,hj,rfl⟩:=List.getElem_of_mem hm;simp only[List.length_take,Array.length_toList]at hj;obtain⟨e,h1,h2,-⟩:=he j (by omega);have e1:es[j]? =some es[j]:=Array.getElem?_eq_getElem (by omega);rw[e1]at h1;cases h1;exact⟨M[j].1,by simpa using h2,hp j (by omega) (by omega)⟩
theorem put_mJ{β:Homes}{G K:Kept}{w:World}(r:RH β G K h w){q:Nat}{x:Home}{M M':List ((Int × Int) × Int)}(hq:h[q]? =some (mJ M))(hx:β[q]? =some (.lie x)){es es':Array MapEntry}(hh:w.heap[x.b]? =some (.map es M.length))(hs:es'.size=M'.length)
  (he:∀j,(hj:j<M'.length)->∃e,es'[j]? =some e/\e.key=jK M'[j].1/\e.born=j/\e.val=.int .i64 M'[j].2):RH β G K (h.set q (mJ M')) (w.putObj x.b (.map es' M'.length)):=by
 have hlt:=(Array.getElem?_eq_some_iff.1 hh).1;rw[entsJ_ext hs he];exact r.write (hm:=Mild.putObj _ _ _) hq (by simp[mJ]) hx (fun b hb=>World.putObj_heap_other hb) (by simp) (World.putObj_heap_same hlt)
theorem open_mJ{β:Homes}{G K:Kept}{w:World}(r:RH β G K h w){q:Nat}{M:List ((Int × Int) × Int)}{y:Value}(hq:h[q]? =some (mJ M))(hm:Rel G β (.map q) y):∃(x:Home) (es:Array MapEntry),y=.map (some x.b)/\β[q]? =some (.lie x)/\w.heap[x.b]? =some (.map es M.length)/\es.size=M.length/\
  (∀j,(hj:j<M.length)->∃e,es[j]? =some e/\e.key=jK M[j].1/\e.born=j/\e.val=.int .i64 M[j].2):=by
 obtain⟨b,hb⟩:=rel_map_inv hm;rw[hb]at hm;obtain⟨x,hx,rfl,hh⟩:=home_obj r hq hm;exact⟨x,entsJ M,hb,hx,hh,entsJ_size M,entsJ_get M⟩
variable {t kt et:TypeId} {M:List ((Int × Int) × Int)} {q:Nat} {x y z:Operand} {F:Int × Int}
theorem sem_lookupJ0(ht:P.underlying t=some (.map kt et))(hk:KeyJ P kt)(hz:(P.info? et).bind (·.zero)=some (.int .i64 0))(hq:h[q]? =some (mJ M))(hno:∀p∈M,same2 F p.1=false):
  SemOK P (.lookup t x y false) [(x,.map q),(y,.agg [.int .i64 F.1,.int .i64 F.2])] h (.int .i64 0) h:=fun β G K w ρ' oper ho _ r hr=>by
 obtain⟨xx,es,hb,hx,hh,hs,he⟩:=open_mJ r hq (hr (x,.map q) (by simp));have hy:=rel_jK_inv (hr (y,.agg [.int .i64 F.1,.int .i64 F.2]) (by simp));simp only at hb hy
 have hzv:(zeroValue et).run P w=.ok (.int .i64 0) w:=by
  cases hi:P.info? et with
  |none=>simp[hi]at hz
  |some i=>
   cases hz':i.zero with
   |none=>simp[hi,hz']at hz
   |some z=>
    simp[hi,hz']at hz;subst hz;simp only[zeroValue,Sem.run_bind,run_typeInfo' hi,Result.andThen_ok,hz',Sem.run_pure]
 have hn:=keys_inJ hs he es.size (p:=fun G=>same2 F G=false) (fun j hj _=>hno _ (List.getElem_mem hj));have hn2:=keys_inJ hs he es.size (p:=fun _=>True) (fun j hj _=>trivial);rw[<-Array.length_toList,List.take_length]at hn hn2;have hf:=run_findJ hk F w es.toList (fun e hm=>by obtain⟨G,h1,_⟩:=hn2 e hm;exact⟨G,h1⟩) (find_noneJ hk F w es.toList 0 hn);have hg:(getObj xx.b).run P w=.ok (.map es M.length) w:=MapKept.run_getObj_map hh
 refine opOK_value (y:=.int .i64 0) r ?_ (.int _ _)
 have hrun:(Instr.lookup t (.map (some xx.b)) (jK F) false).run P w=.ok (.int .i64 0) w:=by
  simp only[Instr.lookup,Sem.run_bind,run_underlying' ht,Result.andThen_ok,hg,Sem.run_pure,hk.chk,hf];simp[hzv]
 simp only[execOp,ho,hb,hy,Sem.run_bind,hrun,Result.andThen_ok,Sem.run_pure]
theorem found_J{kt:TypeId}(hk:KeyJ P kt){es:Array MapEntry}(hs:es.size=M.length)(he:∀j,(hj:j<M.length)->∃e,es[j]? =some e/\e.key=jK M[j].1/\e.born=j/\e.val=.int .i64 M[j].2){j:Nat}(hj:j<M.length)(hsm:same2 F M[j].1=true)(hne:∀i,(hi:i<M.length)->i<j->same2 F M[i].1=false)(w:World):
  ∃e,es[j]? =some e/\e.key=jK F/\e.born=j/\e.val=.int .i64 M[j].2/\(Instr.findKey kt (jK F) es.toList).run P w=.ok (some (j,.int .i64 M[j].2)) w:=by
 obtain⟨e,g1,g2,g3,g4⟩:=he j hj;have hn:=keys_inJ hs he j (p:=fun G=>same2 F G=false) hne;have hn2:=keys_inJ hs he es.size (p:=fun _=>True) (fun j hj _=>trivial);rw[<-Array.length_toList,List.take_length]at hn2;have hf:=find_someJ hk F w e g2 hsm (es.toList.drop (j+1)) (es.toList.take j) 0 hn;rw[<-split_at g1]at hf;have hl:(es.toList.take j).length=j:=by simp;omega
 rw[hl,Nat.zero_add,g4]at hf;exact⟨e,g1,by rw[g2,<-jK_same hsm],g3,g4,run_findJ hk F w es.toList (fun e hm=>by obtain⟨G,h1,_⟩:=hn2 e hm;exact⟨G,h1⟩) hf⟩
theorem sem_lookupJ1(ht:P.underlying t=some (.map kt et))(hk:KeyJ P kt)(hq:h[q]? =some (mJ M)){j:Nat}(hj:j<M.length)(hsm:same2 F M[j].1=true)(hne:∀i,(hi:i<M.length)->i<j->same2 F M[i].1=false):
  SemOK P (.lookup t x y false) [(x,.map q),(y,.agg [.int .i64 F.1,.int .i64 F.2])] h (.int .i64 M[j].2) h:=fun β G K w ρ' oper ho _ r hr=>by
 obtain⟨xx,es,hb,hx,hh,hs,he⟩:=open_mJ r hq (hr (x,.map q) (by simp));have hy:=rel_jK_inv (hr (y,.agg [.int .i64 F.1,.int .i64 F.2]) (by simp));simp only at hb hy;obtain⟨e,g1,g2,g3,g4,hf⟩:=found_J hk hs he hj hsm hne w;have hg:(getObj xx.b).run P w=.ok (.map es M.length) w:=MapKept.run_getObj_map hh;refine opOK_value (y:=.int .i64 M[j].2) r ?_ (.int _ _)
 have hrun:(Instr.lookup t (.map (some xx.b)) (jK F) false).run P w=.ok (.int .i64 M[j].2) w:=by
  simp only[Instr.lookup,Sem.run_bind,run_underlying' ht,Result.andThen_ok,hg,Sem.run_pure,hk.chk,hf];simp
 simp only[execOp,ho,hb,hy,Sem.run_bind,hrun,Result.andThen_ok,Sem.run_pure]
theorem sem_entryJ0(ht:P.underlying t=some (.map kt et))(hk:KeyJ P kt)(hz:(P.info? et).bind (·.zero)=some (.int .i64 0))(hq:h[q]? =some (mJ M))(hno:∀p∈M,same2 F p.1=false):
  SemOK P (.mapEntry t x y) [(x,.map q),(y,.agg [.int .i64 F.1,.int .i64 F.2])] h (.tuple [.int .i64 0,.int .i64 M.length]) (h.set q (mJ (M++ [(F,0)]))):=fun β G K w ρ' oper ho _ r hr=>by
 obtain⟨xx,es,hb,hx,hh,hs,he⟩:=open_mJ r hq (hr (x,.map q) (by simp));have hy:=rel_jK_inv (hr (y,.agg [.int .i64 F.1,.int .i64 F.2]) (by simp));simp only at hb hy
 have hzv:(zeroValue et).run P w=.ok (.int .i64 0) w:=by
  cases hi:P.info? et with
  |none=>simp[hi]at hz
  |some i=>
   cases hz':i.zero with
   |none=>simp[hi,hz']at hz
   |some z=>
    simp[hi,hz']at hz;subst hz;simp only[zeroValue,Sem.run_bind,run_typeInfo' hi,Result.andThen_ok,hz',Sem.run_pure]
 have hn:=keys_inJ hs he es.size (p:=fun G=>same2 F G=false) (fun j hj _=>hno _ (List.getElem_mem hj));have hn2:=keys_inJ hs he es.size (p:=fun _=>True) (fun j hj _=>trivial);rw[<-Array.length_toList,List.take_length]at hn hn2;have hf:=run_findJ hk F w es.toList (fun e hm=>by obtain⟨G,h1,_⟩:=hn2 e hm;exact⟨G,h1⟩) (find_noneJ hk F w es.toList 0 hn);have hg:(getObj xx.b).run P w=.ok (.map es M.length) w:=MapKept.run_getObj_map hh
 have hst:∀o,(setObj xx.b o).run P w=.ok () (w.putObj xx.b o):=fun o=>MapKept.run_setObj_map o hh
 have hrun:(Instr.mapEntry t (.map (some xx.b)) (jK F)).run P w=.ok (.tuple #[.int .i64 0,goInt M.length]) (w.putObj xx.b (.map (es.push {key:=jK F,val:=.int .i64 0,born:=M.length}) (M.length+1))):=by
  simp only[Instr.mapEntry,Sem.run_bind,run_underlying' ht,Result.andThen_ok,hg,Sem.run_pure,hk.chk,hf,hzv,hst]
 have hw:=put_mJ r (M':=M++ [(F,0)]) hq hx hh (es':=es.push {key:=jK F,val:=.int .i64 0,born:=M.length}) (by simp[hs]) (fun j hj=>by
  rw[List.length_append,List.length_singleton]at hj;by_cases hjm:j<M.length
  ·obtain⟨e,h1,h2,h3,h4⟩:=he j hjm;refine⟨e,by rw[Array.getElem?_push,if_neg (by omega)];exact h1,?_,h3,?_⟩
   ·rw[List.getElem_append_left hjm];exact h2
   ·rw[List.getElem_append_left hjm];exact h4
  ·obtain rfl:j=M.length:=by omega
   exact⟨{key:=jK F,val:=.int .i64 0,born:=M.length},by rw[Array.getElem?_push,if_pos hs.symm],by simp,rfl,by simp⟩)
 rw[List.length_append,List.length_singleton]at hw;refine⟨.value (.tuple #[.int .i64 0,goInt M.length]),_,β,?_,Homes.le_refl _,hw,.tuple rfl fun j hj=> ?_⟩
 ·simp only[execOp,ho,hb,hy,Sem.run_bind,hrun,Result.andThen_ok,Sem.run_pure]
 ·match j,hj with
  |0,_=>exact .int _ _
  |1,_=>exact .int _ _
theorem sem_entryJ1(ht:P.underlying t=some (.map kt et))(hk:KeyJ P kt)(hq:h[q]? =some (mJ M)){j:Nat}(hj:j<M.length)(hsm:same2 F M[j].1=true)(hne:∀i,(hi:i<M.length)->i<j->same2 F M[i].1=false):
  SemOK P (.mapEntry t x y) [(x,.map q),(y,.agg [.int .i64 F.1,.int .i64 F.2])] h (.tuple [.int .i64 M[j].2,.int .i64 j]) (h.set q (mJ M)):=fun β G K w ρ' oper ho _ r hr=>by
 obtain⟨xx,es,hb,hx,hh,hs,he⟩:=open_mJ r hq (hr (x,.map q) (by simp));have hy:=rel_jK_inv (hr (y,.agg [.int .i64 F.1,.int .i64 F.2]) (by simp));simp only at hb hy;obtain⟨e,g1,g2,g3,g4,hf⟩:=found_J hk hs he hj hsm hne w;have hg:(getObj xx.b).run P w=.ok (.map es M.length) w:=MapKept.run_getObj_map hh;have hst:∀o,(setObj xx.b o).run P w=.ok () (w.putObj xx.b o):=fun o=>MapKept.run_setObj_map o hh;have hsb:Instr.sameBits 10000 (jK F) (jK F)=true:=by simp[jK,jC,Instr.sameBits]
 have hke:(Instr.keyThatStays (jK F) (jK F)).run P w=.ok (jK F) w:=by simp[Instr.keyThatStays,hsb]
 have hrun:(Instr.mapEntry t (.map (some xx.b)) (jK F)).run P w=.ok (.tuple #[.int .i64 M[j].2,goInt j]) (w.putObj xx.b (.map (es.modify j fun e=>{e with key:=jK F}) M.length)):=by
  simp only[Instr.mapEntry,Sem.run_bind,run_underlying' ht,Result.andThen_ok,hg,Sem.run_pure,hk.chk,hf,g1,Option.map_some,Option.getD_some,g2,hke,hst,g3]
 have hw:=put_mJ r (M':=M) hq hx hh (es':=es.modify j fun e=>{e with key:=jK F}) (by simp[hs]) (fun i hi=>by
  obtain⟨e,h1,h2,h3,h4⟩:=he i hi;rw[Array.getElem?_modify];by_cases hij:j=i
  ·subst hij;exact⟨{e with key:=jK F},by simp[h1],jK_same hsm,h3,h4⟩
  ·exact⟨e,by rw[if_neg hij];exact h1,h2,h3,h4⟩)
 refine⟨.value (.tuple #[.int .i64 M[j].2,goInt j]),_,β,?_,Homes.le_refl _,hw,.tuple rfl fun j hj=> ?_⟩
 ·simp only[execOp,ho,hb,hy,Sem.run_bind,hrun,Result.andThen_ok,Sem.run_pure]
 ·match j,hj with
  |0,_=>exact .int _ _
  |1,_=>exact .int _ _
theorem sem_storeJ(hq:h[q]? =some (mJ M)){j:Nat}(hj:j<M.length)(n:Int):
  SemOK P (.entryStore t x y z) [(x,.map q),(y,.int .i64 j),(z,.int .i64 n)] h .undef (h.set q (mJ (M.set j (M[j].1,n)))):=fun β G K w ρ' oper ho _ r hr=>by
 obtain⟨xx,es,hb,hx,hh,hs,he⟩:=open_mJ r hq (hr (x,.map q) (by simp));have hy:=rel_int_inv (hr (y,.int .i64 j) (by simp));have hzz:=rel_int_inv (hr (z,.int .i64 n) (by simp));simp only at hb hy hzz;have hg:(getObj xx.b).run P w=.ok (.map es M.length) w:=MapKept.run_getObj_map hh;have hst:∀o,(setObj xx.b o).run P w=.ok () (w.putObj xx.b o):=fun o=>MapKept.run_setObj_map o hh
 have hborn:∀i,(hi:i<es.size)->es[i].born=i:=fun i hi=>by
  obtain⟨e,h1,h2,h3,h4⟩:=he i (by omega);rw[Array.getElem?_eq_getElem hi]at h1;cases h1;exact h3
 have hfi:es.findIdx? (fun e=>(e.born:Int)==(j:Int))=some j:=by
  rw[Array.findIdx?_eq_some_iff_getElem];refine⟨by omega,by rw[hborn j (by omega)];simp,fun i hi=> ?_⟩;rw[hborn i (by omega)];simp;omega
 have hrun:(Instr.entryStore t (.map (some xx.b)) (.int .i64 j) (.int .i64 n)).run P w=.ok () (w.putObj xx.b (.map (es.modify j fun e=>{e with val:=.int .i64 n}) M.length)):=by
  simp[Instr.entryStore,hg,asInt,asIntOf,hfi,hst]
 have hw:=put_mJ r (M':=M.set j (M[j].1,n)) hq hx hh (es':=es.modify j fun e=>{e with val:=.int .i64 n}) (by simp[hs]) (fun i hi=>by
  rw[List.length_set]at hi;obtain⟨e,h1,h2,h3,h4⟩:=he i hi;rw[Array.getElem?_modify];by_cases hij:j=i
  ·subst hij;exact⟨{e with val:=.int .i64 n},by simp[h1],by simpa using h2,h3,by simp⟩
  ·exact⟨e,by rw[if_neg hij];exact h1,by rw[List.getElem_set_ne hij];exact h2,h3,by rw[List.getElem_set_ne hij];exact h4⟩)
 rw[List.length_set]at hw;refine⟨.skip,_,β,?_,Homes.le_refl _,hw,rfl⟩;simp only[execOp,ho,hb,hy,hzz,Sem.run_bind,hrun,Result.andThen_ok,Sem.run_pure]
theorem sem_makeJ(t:TypeId):SemOK P (.makeMap t none) [] h (.map h.length) (h++ [mJ []]):=fun β G K w ρ' oper ho _ r _=>by
 refine⟨.value (.map (some w.heap.size)),w.alloc (.map #[] 0),β++ [Hm.lie ⟨w.heap.size,0,0⟩],?_,Homes.le_append _ _,r.push rfl (heap_alloc_new w _),.map (ref_new r _ _ _)⟩;simp only[execOp,ho,Sem.run_bind];simp only[Instr.makeMap,newObj];rfl
end
section
variable {P:Program} {h:List Blk}
def copyC(cs:List V)(off k wd:Nat)(c:Nat->Nat->V):List V:=(List.range cs.length).map fun j=>if off<=j/\j<off+k*wd then c ((j-off)/wd) ((j-off)%wd)else cs.getD j .undef
theorem copyC_len(cs:List V)(off k wd:Nat)(c:Nat->Nat->V):(copyC cs off k wd c).length=cs.length:=by simp[copyC]
theorem copyC_get(cs:List V)(off k wd:Nat)(c:Nat->Nat->V){j:Nat}(hj:j<cs.length):(copyC cs off k wd c).getD j .undef=if off<=j/\j<off+k*wd then c ((j-off)/wd) ((j-off)%wd)else cs.getD j .undef:=by
 unfold copyC;rw[gE,List.getElem?_map,List.getElem?_range hj];rfl
theorem sem_copyC{x y:Operand}{dT sT e:TypeId}{i m k wd off:Nat}{cs:List V}{c:Nat->Nat->V}(hk:k<=m)(h0:0<k)(hw0:0<wd)(hu:P.underlying dT=some (.slice e))(hs:(P.info? e).map (·.size)=some wd)(hi:h[i]? =some (.cells cs))(hoff:off+m*wd<=cs.length)
  (hc1:∀r,r<k->∀j,j<wd->(c r j).scalar=true):
  SemOK P (.call {callee:=.builtin .copy,args:= #[x,y],argTypes:= #[dT,sT]}) [(x,.sub i 0 off wd m),(y,.list wd k c)] h (.int .i64 k) (h.set i (.cells (copyC cs off k wd c))):=fun β G K w ρ' oper ho _ r hr=>by
 have hx:=hr (x,.sub i 0 off wd m) (by simp);have hy:=hr (y,.list wd k c) (by simp);simp only at hx hy;have hB:=r.blk i _ hi
 have fin:∀w',(Builtin.copy_ #[dT,sT] oper.type #[ρ' x,ρ' y]).run P w=.ok (.int .i64 k) w'->RH β G K (h.set i (.cells (copyC cs off k wd c))) w'->OpOK P β G K w ρ' oper (.int .i64 k) (h.set i (.cells (copyC cs off k wd c))):=fun w' hrun hrh=>
  ⟨.value (.int .i64 k),w',β,by
   simp only[execOp,ho,resolve,Sem.run_bind,Sem.run_pure,Result.andThen_ok,invoke,builtin,List.map_toArray,List.map_cons,List.map_nil,hrun],Homes.le_refl _,hrh,.int _ _⟩
 generalize hxv:ρ' x=xv at hx
 generalize hyv:ρ' y=yv at hy
 cases hx with
 |sub0=>omega
 |sub hb hcp hm=>
  rename_i cap z
  cases hy with
  |list0=>omega
  |list hG hsz hcap hn hc=>
   rename_i b2 off2 cap2 cs2 ct fz;rw[hb]at hB;obtain⟨cur,et,hh,hsz1,hrr⟩:=hB;have hsrc0:=r.keep _ _ (r.gk _ _ hG);have hcsz:off2+k*wd<=cs2.size:=hsz
   have hmul:∀q,q<k*wd->q/wd<k/\q%wd<wd/\(q/wd)*wd+q%wd=q:=fun q hq=>⟨Nat.div_lt_of_lt_mul (by rwa[Nat.mul_comm]),Nat.mod_lt _ hw0,by rw[Nat.mul_comm];exact Nat.div_add_mod q wd⟩
   have hkm:k*wd<=m*wd:=Nat.mul_le_mul_right _ hk;have hmin:Nat.min k m=k:=Nat.min_eq_left hk
   have hrow:=run_copy_rowW (P:=P) w dT sT oper.type e z.b off m cap ⟨b2,off2,none⟩ k cap2 cur et ((List.range (k*wd)).map fun j=>cs2.getD (off2+j) Go.undef) hu hs hh (by rw[hmin];simp) (fun j v hv=>by
    simp only[List.getElem?_map]at hv;rcases Nat.lt_or_ge j (k*wd)with q|q
    ·rw[List.getElem?_range q]at hv;simp only[Option.map_some,sJ]at hv;subst hv;rw[addr_add];simp only[World.cell?,hsrc0];rw[Array.getElem?_eq_getElem (by omega)];simp[aG,Array.getElem?_eq_getElem (show off2+j<cs2.size by omega)]
    ·rw[List.getElem?_eq_none (by simpa using q)]at hv;cases hv) (by simp;omega) (fun v hv=>by
    simp only[List.mem_map,List.mem_range]at hv;obtain⟨j,hj,rfl⟩:=hv;obtain⟨m1,m2,m3⟩:=hmul j hj;have:=hc (j/wd) (j%wd) m1 m2;rw[m3]at this
    exact(this.scalar (hc1 _ m1 _ m2)).2)
   rw[hmin]at hrow;refine fin _ (by rw[hxv,hyv];simpa[goInt]using hrow) (r.write hi (by simp) hb (fun b hb'=>setRow_other w _ _ _ hb') (by simp) ⟨_,et,setRow_heap w _ cur _ et _ hh,?_,fun j hj=> ?_⟩)
   ·rw[copyC_len];simp only[List.size_toArray,List.length_append,List.length_map,List.length_range,List.length_drop,List.length_take,Array.length_toList];omega
   ·rw[copyC_len]at hj;rw[copyC_get cs off k wd c hj];have hl1:(cur.toList.take off).length=off:=by simp;omega
    have hl2:((List.range (k*wd)).map fun j=>cs2.getD (off2+j) Go.undef).length=k*wd:=by simp
    rw[aG,List.getElem?_toArray];by_cases q1:j<off
    ·rw[if_neg (by omega),aL (by omega),List.getElem?_take,if_pos q1];have:=hrr j hj;rw[aG]at this;simpa using this
    ·by_cases q2:j<off+k*wd
     ·rw[if_pos ⟨by omega,q2⟩,List.getElem?_append_right (by omega),hl1,aL (by simp;omega),List.getElem?_map,List.getElem?_range (by omega)];obtain⟨m1,m2,m3⟩:=hmul (j-off) (by omega);have:=hc ((j-off)/wd) ((j-off)%wd) m1 m2;rw[m3]at this;have:=this.mono (Kept.le_refl _) (Homes.nil_le β);simpa[aG]using this
     ·rw[if_neg (by omega),List.getElem?_append_right (by omega),hl1,List.getElem?_append_right (by simp;omega),List.length_map,List.length_range,List.getElem?_drop];have e:off+k*wd+(j-off-k*wd)=j:=by omega
      rw[e];have:=hrr j hj;rw[aG]at this;simpa using this
end
theorem AWP.rangeM{P:Program}{m m0:Nat}{S:St}{g:Operand}{ps:Array Tmp}{assign body:Code}{f:FuncId}{caps ys:List V}{go:Nat->Bool}{H:Nat->List Blk}{jx:Exit}{jc:Code}{Q:Exit->St->Prop}(hm:m<=m0)(h0:m0<=S.h.length)
  (hg:S.eval g=.func (.func f) [] caps) (hcaps:underL 0 caps=true) (hcf:∀xs w,(callFunc f xs).run P w=.ok (.enter f xs) w) (hit:Iter P f caps ys) (hH0:H 0=S.h) (hlen:∀k,(H k).length=S.h.length) (hne:∀k,extAs S.h (H k))
  (hd:S.d=[]) (hgo:go 0=true) (hj:exitCode jx=some jc) (hm0:∀j,(S.t.getD j .undef).under m0=true)
  (hround:∀(l:Nat) (k:Nat) (us:List V),ys[k]? =some (.tuple us)->go k=true->us.length=ps.size/\
   AWP P ⟨some l,m0⟩ assign ⟨setPs ps.toList us S.t,H k,[]⟩ fun e S1=>e=.normal/\extAs S.h S1.h/\
    AWP P ⟨some l,m0⟩ body S1 fun e S2=>e=(bif go (k+1)then .normal else jx)/\S2.h=H (k+1))
  (hQ:Q (bif go (stopK go 0 ys.length)then .normal else jx) {t:=S.t,h:=H (stopK go 0 ys.length)++ [.obj (.deferred (some []))],d:=[S.h.length]}):
  AWP P ⟨none,m⟩ (.rangeFunc g ps assign body) S Q:=fun β G K a w r=>
 range_wpM r hg hcaps hcf hit hH0 hlen hne hgo hj (fun G2 β2 h1 h2 j=>((r.tmp j).take (hm0 j)).mono h1 h2) hround fun β2 G2 K3 D w4 q1 hlb q2 q3 hr5=>by
  generalize stopK go 0 ys.length=kk at hr5 hQ
  have hb:Homes.low m0 β (β2++ [Hm.lie ⟨D,0,0⟩]):=Homes.le.trans q1 (Homes.le_append _ _);refine⟨{t:=S.t,h:=H kk++ [.obj (.deferred (some []))],d:=[S.h.length]},β2++ [Hm.lie ⟨D,0,0⟩],G2,K3,hb.mono hm,q2,q3,⟨hr5,r.size,fun j=>((r.tmp j).take (hm0 j)).mono q2.1 hb,?_,fun j hj=> ?_⟩,hQ⟩
  ·have hdf:=r.marks;rw[hd]at hdf;simp at hdf;simp[hdf]
  ·have:j=0:=by have:j<1:=hj;omega
   subst this;refine⟨⟨D,0,0⟩,?_,rfl,?_⟩
   ·simp[<-hlb]
   ·simp[<-hlen kk]
theorem stopT_all:∀n k,stopK (fun _=>true) k n=k+n
 |0,k=>rfl
 |n+1,k=>by
  show(bif true then stopK (fun _=>true) (k+1) n else k)=_;rw[cond_true,stopT_all n (k+1)];omega
theorem AWP.rangeMT{P:Program}{m m0:Nat}{S:St}{g:Operand}{ps:Array Tmp}{assign body:Code}{f:FuncId}{caps ys:List V}{H:Nat->List Blk}(hm:m<=m0)(h0:m0<=S.h.length)
  (hg:S.eval g=.func (.func f) [] caps) (hcaps:underL 0 caps=true) (hcf:∀xs w,(callFunc f xs).run P w=.ok (.enter f xs) w) (hit:Iter P f caps ys) (hH0:H 0=S.h) (hlen:∀k,(H k).length=S.h.length) (hne:∀k,noExt (H k)=true) (hd:S.d=[]) (hm0:∀j,(S.t.getD j .undef).under m0=true)
  (hround:∀(l:Nat) (k:Nat) (us:List V),ys[k]? =some (.tuple us)->us.length=ps.size/\
   AWP P ⟨some l,m0⟩ assign ⟨setPs ps.toList us S.t,H k,[]⟩ fun e S1=>e=.normal/\noExt S1.h=true/\
    AWP P ⟨some l,m0⟩ body S1 fun e S2=>e=.normal/\S2.h=H (k+1)):
  AWP P ⟨none,m⟩ (.rangeFunc g ps assign body) S fun e T=>e=.normal/\T=⟨S.t,H ys.length++ [.obj (.deferred (some []))],[S.h.length]⟩:=by
 refine AWP.rangeM (go:=fun _=>true) (jx:=.ret) (jc:=.ret) hm h0 hg hcaps hcf hit hH0 hlen (fun k=>.of_no (hne k)) hd rfl rfl hm0 (fun l k us h1 _=> ?_) ?_
 ·obtain⟨p1,p2⟩:=hround l k us h1;exact⟨p1,p2.mono fun e S1 ⟨q1,q2,q3⟩=>⟨q1,.of_no q2,q3⟩⟩
 ·refine⟨by cases stopK (fun _=>true) 0 ys.length<;>rfl,?_⟩;rw[stopT_all,Nat.zero_add]
end Ab
