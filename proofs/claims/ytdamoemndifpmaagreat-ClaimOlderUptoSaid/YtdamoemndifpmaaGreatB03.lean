/-
  Part of the proof of the Claim laws. Conditions: those that stand in each theorem.
-/
import Derived.OrdersIn
import Derived.Laws.AppendOwn
import Derived.ArgAppend
import Derived.Test.YtdamoemndifpmaaGreatB02
set_option linter.unusedSimpArgs false
set_option linter.unusedVariables false
namespace Ab
open Go
def AStep(P:Program)(ro:Env)(ops:Array Oper)(i:Nat)(S S':St):Prop:=
 ∀β G K a w (Kc:Act->World->Prop) (Qc:Exit->Act->World->Prop),RS β G K S a w->(∀β' G' K' a' w',Homes.low ro.m β β'->G.ext K G'->K.le K'->RS β' G' K' S' a' w'->Kc a' w')->wpOpIn (wide ro) 0 P ops Qc i Kc a w
def unl(l:Array Bool):Nat->Nat
 |0=>0
 |k+1=>unl l k+if l.getD k false=true then 0 else 1
theorem unl_pos(l:Array Bool)(i:Nat)(h:l.getD i false=false):∀k,i<k->0<unl l k:=by
 intro k
 induction k with
 |zero=>intro hk;omega
 |succ k ih=>
  intro hk;simp only[unl];by_cases e:i=k
  ·subst e;rw[h];simp
  ·have:=ih (by omega);omega
theorem unl_set(l:Array Bool)(i:Nat)(hi:i<l.size)(h:l.getD i false=false):∀k,unl (l.setIfInBounds i true) k=if i<k then unl l k-1 else unl l k:=by
 intro k
 induction k with
 |zero=>simp[unl]
 |succ k ih=>
  simp only[unl,ih];by_cases e:i=k
  ·subst e;have:(l.setIfInBounds i true).getD i false=true:=by simp[hi]
   rw[this,h];simp
  ·rw[getD_set_ne false e];by_cases hk:i<k
   ·have pos:=unl_pos l i h k hk;rw[if_pos hk,if_pos (show i<k+1 by omega)];split<;>omega
   ·rw[if_neg hk,if_neg (show¬i<k+1 by omega)]
theorem unl_zero(l:Array Bool):∀k,unl l k=0->∀i,i<k->l.getD i false=true:=by
 intro k
 induction k with
 |zero=>intro _ i hi;omega
 |succ k ih=>
  intro h i hi;simp only[unl]at h;have h1:unl l k=0:=by omega
  by_cases e:i=k
  ·subst e
   cases hc:l.getD i false with
   |true=>rfl
   |false=>rw[hc]at h;simp at h
  ·exact ih h1 i (by omega)
def reach(ops:Array Oper):Nat->Nat->Nat->Bool
 |0,_,_=>false
 |f+1,i,j=>
  match ops[j]? with
  |some o=>(o.after.any fun e=>e.on==i&&Region.binds .any e)||o.after.any fun e=>Region.binds .any e&&reach ops f i e.on
  |none=>false
def tailAt(ops:Array Oper)(j:Nat):Bool:=
 match ops[j]? with
 |some _=>(List.range j).all fun i=>reach ops 9 i j
 |none=>false
def Closed(ops:Array Oper)(l:Array Bool):Prop:=∀j,l.getD j false=true->∀o,ops[j]? =some o->∀e∈o.after,Region.binds .any e=true->l.getD e.on false=true
theorem reach_done{ops:Array Oper}{l:Array Bool}(hc:Closed ops l):∀(f i j:Nat),reach ops f i j=true->(∀o,ops[j]? =some o->∀e∈o.after,Region.binds .any e=true->l.getD e.on false=true)->l.getD i false=true:=by
 intro f
 induction f with
 |zero=>intro i j h;simp[reach]at h
 |succ f ih=>
  intro i j h hj;simp only[reach]at h;split at h
  ·rename_i o ho;rw[Bool.or_eq_true]at h;rcases h with h|h
   ·rw[Array.any_eq_true]at h;obtain⟨q,hq,hb⟩:=h;simp only[Bool.and_eq_true,beq_iff_eq]at hb;have:=hj o ho o.after[q] (Array.getElem_mem hq) hb.2;rwa[hb.1]at this
   ·rw[Array.any_eq_true]at h;obtain⟨q,hq,hb⟩:=h;simp only[Bool.and_eq_true]at hb;have hd:=hj o ho o.after[q] (Array.getElem_mem hq) hb.1;exact ih i _ hb.2 fun o' ho' e he hbe=>hc _ hd o' ho' e he hbe
  ·cases h
theorem tailAt_ready{ops:Array Oper}{j:Nat}{l:Array Bool}(hc:Closed ops l)(h:tailAt ops j=true)(hr:j∈Region.ready .any ops l):∀i,i<j->l.getD i false=true:=by
 rw[mem_ready]at hr;obtain⟨_,o,ho,hall⟩:=hr;intro i hi;simp only[tailAt,ho,List.all_eq_true,List.mem_range]at h;refine reach_done hc 9 i j (h i hi) fun o' ho' e he hb=> ?_;rw[ho]at ho';cases ho';exact hall e he hb
theorem Closed.set{ops:Array Oper}{l:Array Bool}(hc:Closed ops l){i:Nat}(hr:i∈Region.ready .any ops l):Closed ops (l.setIfInBounds i true):=by
 rw[mem_ready]at hr;obtain⟨_,o,ho,hall⟩:=hr
 have up:∀k,l.getD k false=true->(l.setIfInBounds i true).getD k false=true:=fun k hk=>by
  by_cases e:k=i
  ·subst e
   have:k<l.size:=by
    rcases Nat.lt_or_ge k l.size with z|z
    ·exact z
    ·simp[aG,Array.getElem?_eq_none z]at hk
   simp[this]
  ·rw[getD_set_ne false (Ne.symm e)];exact hk
 intro j hj o' ho' e he hb;by_cases q:j=i
 ·subst q;rw[ho]at ho';cases ho';exact up _ (hall e he hb)
 ·rw[getD_set_ne false (Ne.symm q)]at hj;exact up _ (hc j hj o' ho' e he hb)
def backOK(ops:Array Oper):Bool:=(List.range ops.size).all fun j=>match ops[j]? with|some o=>o.after.all fun e=> !Region.binds .any e||decide (e.on<j)|none=>true
theorem backOK_spec{ops:Array Oper}(h:backOK ops=true){j:Nat}{o:Oper}(ho:ops[j]? =some o):∀e∈o.after,Region.binds .any e=true->e.on<j:=by
 have hlt:=(Array.getElem?_eq_some_iff.1 ho).1;simp only[backOK,List.all_eq_true,List.mem_range]at h;have:=h j hlt;rw[ho]at this;simp only[Array.all_eq_true_iff_forall_mem,Bool.or_eq_true,Bool.not_eq_true',decide_eq_true_eq]at this;intro e he hb;rcases this e he with q|q
 ·rw[hb]at q;cases q
 ·exact q
theorem least_ready{ops:Array Oper}(hb:backOK ops=true){l:Array Bool}(hl:l.size=ops.size){q:Nat}(hq:q<ops.size)(h1:∀i,i<q->l.getD i false=true)(h2:l.getD q false=false):q∈Region.ready .any ops l:=by
 rw[mem_ready];refine⟨?_,ops[q],Array.getElem?_eq_getElem hq,fun e he hbd=>h1 _ (backOK_spec hb (Array.getElem?_eq_getElem hq) e he hbd)⟩;have e:l.getD q true=l.getD q false:=by simp[aG,show q<l.size by omega]
 rw[e];exact h2
theorem tail_any{P:Program}{ro:Env}{ops:Array Oper}{Q:Exit->Act->World->Prop}{m:Nat}(hback:backOK ops=true)(ht:∀j,m<=j->j<ops.size->tailAt ops j=true):
  ∀(k q fuel:Nat) (l:Array Bool) (a:Act) (w:World),q+k=ops.size->m<=q->k<=fuel->l.size=ops.size->(∀i,i<q->l.getD i false=true)->(∀i,q<=i->i<ops.size->l.getD i false=false)->
   wpOpsIn (wide ro) 0 P ops Q (List.range' q k) a w->wpAnyIn (wide ro) 0 P .any ops Q fuel l a w:=by
 intro k
 induction k with
 |zero=>
  intro q fuel l a w hq hm hf hl h1 h2 h
  have hr:Region.ready .any ops l=[]:=by
   apply List.eq_nil_iff_forall_not_mem.2;intro i hi;rw[mem_ready]at hi;obtain⟨h0,o,ho,_⟩:=hi;have hlt:=(Array.getElem?_eq_some_iff.1 ho).1;have:=h1 i (by omega);have e:l.getD i true=l.getD i false:=by simp[aG,show i<l.size by omega]
   rw[e,this]at h0;cases h0
  cases fuel with
  |zero=>exact⟨hr,h⟩
  |succ f=>exact⟨fun _=>h,fun i hi=>by rw[hr]at hi;cases hi⟩
 |succ k ih=>
  intro q fuel l a w hq hm hf hl h1 h2 h
  obtain⟨f,rfl⟩:∃f,fuel=f+1:=⟨fuel-1,by omega⟩
  have only:∀i,i∈Region.ready .any ops l->i=q:=fun i hi=>by
   have hi':=hi;rw[mem_ready]at hi';obtain⟨h0,o,ho,_⟩:=hi';have hlt:=(Array.getElem?_eq_some_iff.1 ho).1;have e:l.getD i true=l.getD i false:=by simp[aG,show i<l.size by omega]
   rcases Nat.lt_trichotomy i q with z|z|z
   ·have:=h1 i z;rw[e,this]at h0;cases h0
   ·exact z
   ·have hcl:Closed ops l:=fun j hj o' ho' e' he' hb'=>by
     have hjl:=(Array.getElem?_eq_some_iff.1 ho').1
     have hjq:j<q:=by
      rcases Nat.lt_or_ge j q with y|y
      ·exact y
      ·have:=h2 j y hjl;rw[this]at hj;cases hj
     exact h1 _ (Nat.lt_trans (backOK_spec hback ho' e' he' hb') hjq)
    have:=tailAt_ready hcl (ht i (by omega) hlt) hi q z;rw[h2 q (Nat.le_refl _) (by omega)]at this;cases this
  refine⟨fun hnil=> ?_,fun i hi=> ?_⟩
  ·have:=least_ready hback hl (q:=q) (by omega) h1 (h2 q (Nat.le_refl _) (by omega));rw[hnil]at this;cases this
  ·have:=only i hi;subst this;rw[List.range'_succ,wpOpsIn_cons]at h;refine wpOpIn_mono (fun a' w' h'=>ih (i+1) f _ a' w' (by omega) (by omega) (by omega) (by simp[hl]) (fun i' hi'=> ?_) (fun i' hi' hs=> ?_) h') h
   ·by_cases e:i'=i
    ·subst e;simp[show i'<l.size by omega]
    ·rw[getD_set_ne false (Ne.symm e)];exact h1 i' (by omega)
   ·rw[getD_set_ne false (by omega)];exact h2 i' (by omega) hs
theorem any_mono{F:Fence}{n:Nat}{P:Program}{md:Region.Mode}{ops:Array Oper}{Q Q':Exit->Act->World->Prop}(hq:∀e a w,Q e a w->Q' e a w):∀ {fuel:Nat} {l:Array Bool} {a:Act} {w:World},
  wpAnyIn F n P md ops Q fuel l a w->wpAnyIn F n P md ops Q' fuel l a w:=by
 intro fuel
 induction fuel with
 |zero=>intro l a w h;exact⟨h.1,hq _ _ _ h.2⟩
 |succ f ih=>
  intro l a w h;refine⟨fun hn=>hq _ _ _ (h.1 hn),fun i hi=> ?_⟩;have:=h.2 i hi;unfold wpOpIn at this⊢
  cases ho:ops[i]? with
  |none=>simp only[ho]at this;exact ih this
  |some o=>
   simp only[ho]at this⊢;by_cases hw:Region.wanted o (yielded ops a.tmps)=true
   ·simp only[hw,if_true]at this⊢;exact⟨this.1,uponIn_mono (fun _ _=>ih) hq _ this.2⟩
   ·simp only[hw,if_false,Bool.false_eq_true]at this⊢;exact⟨this.1,ih this.2⟩
theorem AWP.region_any{P:Program}{ro:Env}{id:Nat}{ops:Array Oper}{S:St}{Q:Exit->St->Prop}(m:Nat)(hmx:P.follows .mixedOrders=true)(hback:backOK ops=true)(hm:m<=ops.size)
  (ht:∀j,m<=j->j<ops.size->tailAt ops j=true) (inv:Array Bool->St) (h0:∀β G K a w,RS β G K S a w->∃β',β.le β'/\RS β' G K (inv (Array.replicate ops.size false)) a w)
  (step:∀(l:Array Bool) (i:Nat),l.size=ops.size->i<m->l.getD i false=false->(∀j,m<=j->l.getD j false=false)->i∈Region.ready .any ops l->AStep P ro ops i (inv l) (inv (l.setIfInBounds i true)))
  (last:∀(l:Array Bool),l.size=ops.size->(∀i,i<m->l.getD i false=true)->(∀j,m<=j->l.getD j false=false)->AOps P ro ops (List.range' m (ops.size-m)) (inv l) Q):AWP P ro (.region id ops true) S Q:=fun β G K a w r=>by
 refine wpIn_region_any hmx ?_
 have key:∀(fuel:Nat) (l:Array Bool) β G K a w,l.size=ops.size->unl l m+(ops.size-m)<=fuel->(∀j,m<=j->l.getD j false=false)->Closed ops l->RS β G K (inv l) a w->wpAnyIn (wide ro) 0 P .any ops (Post ro.m Q β G K) fuel l a w:=by
  intro fuel
  induction fuel with
  |zero=>
   intro l β G K a w hl hf hj hcl r;have h1:=unl_zero l m (by omega);exact tail_any hback ht (ops.size-m) m 0 l a w (by omega) (Nat.le_refl _) (by omega) hl h1 (fun i hi _=>hj i hi) (last l hl h1 hj β G K a w r)
  |succ fuel ih=>
   intro l β G K a w hl hf hj hcl r;by_cases hz:unl l m=0
   ·have h1:=unl_zero l m hz;exact tail_any hback ht (ops.size-m) m (fuel+1) l a w (by omega) (Nat.le_refl _) (by omega) hl h1 (fun i hi _=>hj i hi) (last l hl h1 hj β G K a w r)
   ·
    have ex:∃q,q<m/\l.getD q false=false/\∀i,i<q->l.getD i false=true:=by
     clear ih hf r step last
     have:∀k,unl l k≠0->∃q,q<k/\l.getD q false=false/\∀i,i<q->l.getD i false=true:=by
      intro k
      induction k with
      |zero=>intro h;simp[unl]at h
      |succ k ihk=>
       intro h;by_cases hk:unl l k=0
       ·refine⟨k,by omega,?_,unl_zero l k hk⟩
        cases hc:l.getD k false with
        |false=>rfl
        |true=>simp[unl,hk,hc]at h
       ·obtain⟨q,q1,q2,q3⟩:=ihk hk;exact⟨q,by omega,q2,q3⟩
     exact this m hz
    obtain⟨q,q1,q2,q3⟩:=ex;refine⟨fun hnil=> ?_,fun i hi=> ?_⟩
    ·have:=least_ready hback hl (q:=q) (by omega) q3 q2;rw[hnil]at this;cases this
    ·have hi':=hi;rw[mem_ready]at hi';obtain⟨e0,o,ho,_⟩:=hi';have hlt:=(Array.getElem?_eq_some_iff.1 ho).1;have e:l.getD i true=l.getD i false:=by simp[aG,show i<l.size by omega]
     rw[e]at e0
     have him:i<m:=by
      rcases Nat.lt_or_ge i m with z|z
      ·exact z
      ·have:=tailAt_ready hcl (ht i z hlt) hi q (by omega);rw[q2]at this;cases this
     refine step l i hl him e0 hj hi β G K a w _ _ r fun β' G' K' a' w' hL hG hK r'=> ?_;have hu:=unl_set l i (by omega) e0 m;rw[if_pos him]at hu;have hpos:=unl_pos l i e0 m him;have:=ih (l.setIfInBounds i true) β' G' K' a' w' (by simp[hl]) (by omega) (fun j hj'=>by rw[getD_set_ne false (by omega)];exact hj j hj') (hcl.set hi) r';exact any_mono (fun e a w hp=>hp.up hL hG hK) this
 obtain⟨β',hle,r'⟩:=h0 β G K a w r;refine any_mono (fun e a w hp=>hp.up (hle.low _) (G.ext_refl K) K.le_refl) (key ops.size _ β' G K a _ (by simp) ?_ (fun j _=> ?_) (fun j hj=> ?_) r'.drew)
 ·have:∀k,unl (Array.replicate ops.size false) k<=k:=by
   intro k
   induction k with
   |zero=>simp[unl]
   |succ k ih=>simp only[unl];split<;>omega
  have:=this m;omega
 ·simp only[aG,Array.getElem?_replicate];split<;>rfl
 ·exfalso
  have:(Array.replicate ops.size false).getD j false=false:=by simp only[aG,Array.getElem?_replicate];split<;>rfl
  rw[this]at hj;cases hj
def isRead:Op->Bool
 |.alloc _|.box _ _|.buildSlice _ _ _|.store _ _ _|.makeSlice _ _ _=>false
 |_=>true
theorem loadV_app{P:Program}{h:List Blk}{t:TypeId}{v:V}{r:Bool × V}(l:List Blk)(he:loadV P h t v=some r):loadV P (h++l) t v=some r:=by
 cases v with
 |ref i rr off=>
  simp only[loadV]at he⊢
  cases hk:h[i]? with
  |none=>rw[hk]at he;simp at he
  |some k=>rw[aL (List.getElem?_eq_some_iff.1 hk).1,hk];rw[hk]at he;exact he
 |_=>exact he
theorem loadA_app{P:Program}{h:List Blk}{t:TypeId}{v u:V}(l:List Blk)(he:loadA P h t v=some u):loadA P (h++l) t v=some u:=by
 unfold loadA at he⊢;split at he
 ·cases v with
  |ref i rr off=>
   simp only at he⊢
   cases hk:h[i]? with
   |none=>rw[hk]at he;simp at he
   |some k=>rw[aL (List.getElem?_eq_some_iff.1 hk).1,hk];rw[hk]at he;exact he
  |_=>exact he
 ·cases he
theorem loadA_none_app{P:Program}{h:List Blk}{t:TypeId}{v:V}{r:Bool × V}(l:List Blk)(hn:loadA P h t v=none)(he:loadV P h t v=some r):loadA P (h++l) t v=none:=by
 cases v with
 |ref i rr off=>
  cases hk:h[i]? with
  |none=>simp[loadV,hk]at he
  |some k=>
   unfold loadA at hn⊢;simp only[aL (List.getElem?_eq_some_iff.1 hk).1]at hn⊢;exact hn
 |_=>unfold loadA;split<;>rfl
theorem there_app{h:List Blk}{v:V}(l:List Blk)(he:there h v=true):there (h++l) v=true:=by
 cases v<;>first|rfl|skip
 simp only[there,decide_eq_true_eq]at he⊢;simp;omega
theorem rowsAt_app{h:List Blk}{v:V}{n:Nat}(l:List Blk)(he:there h v=true):rowsAt (h++l) n v=rowsAt h n v:=by
 cases v<;>first|rfl|skip
 simp only[there,decide_eq_true_eq]at he;simp only[rowsAt,aL he]
theorem indexAddrV_app{P:Program}{h:List Blk}{t:TypeId}{x i:V}{r:Bool × V}(l:List Blk)(he:indexAddrV P h t x i=some r):indexAddrV P (h++l) t x i=some r:=by
 unfold indexAddrV at he⊢;split at he
 ·exact he
 ·rename_i e b n k j hu
  cases hk:h[b]? with
  |none=>rw[hk]at he;simp at he
  |some q=>rw[aL (List.getElem?_eq_some_iff.1 hk).1,hk];rw[hk]at he;exact he
 ·rename_i len e k j hu;split at he
  ·rename_i hc;rw[if_pos ⟨hc.1,there_app l hc.2⟩,rowsAt_app l hc.2];exact he
  ·cases he
 ·cases he
theorem sliceH_app{P:Program}{h:List Blk}{t:TypeId}{x lo hi:V}{l0:Bool}{r:Bool × V}(l:List Blk)(he:sliceH P h t x lo hi l0=some r):sliceH P (h++l) t x lo hi l0=some r:=by
 unfold sliceH at he⊢;split at he
 ·rename_i e b n k lv k' u hu
  cases hk:h[b]? with
  |none=>rw[hk]at he;simp at he
  |some q=>rw[aL (List.getElem?_eq_some_iff.1 hk).1,hk];rw[hk]at he;exact he
 ·rename_i len e b rr off k lv k' u hu;split at he
  ·rename_i hc;have ht:there h (.ref b rr off)=true:=by simp[there,hc.2.2]
   rw[if_pos ⟨hc.1,hc.2.1,by simp;omega⟩,rowsAt_app l ht]
   cases hra:rowsAt h (szOf P e) (.ref b rr off)with
   |none=>rw[hra]at he;exact he
   |some b'=>
    rw[hra]at he
    have hb:b'=b:=by
     unfold rowsAt at hra;simp only at hra;split at hra
     ·split at hra
      ·simpa using hra.symm
      ·cases hra
     ·cases hra
    subst hb;cases l0
    ·exact he
    ·simp only[aL hc.2.2];exact he
  ·cases he
 ·exact he
 ·cases he
theorem sliceH_none_app{P:Program}{h:List Blk}{t:TypeId}{x lo hi lo' hi':V}{l0:Bool}{r:Bool × V}(l:List Blk)(hn:sliceH P h t x lo hi l0=none)(he:sliceV P t x lo' hi'=some r):sliceH P (h++l) t x lo hi l0=none:=by
 unfold sliceV at he;split at he
 ·unfold sliceH;split<;>first|rfl|simp_all
 ·unfold sliceH;split<;>first|rfl|simp_all
 ·cases he
theorem evalOp_app'{P:Program}{ρ:Operand->V}{h:List Blk}{op:Op}(hr:isRead op=true)(h1:∀t a,op≠ .load t a)(h2:∀t x i,op≠ .indexAddr t x i)(h3:∀t x lo hi mx,op≠ .slice t x lo hi mx)(l:List Blk):
  evalOp P ρ (h++l) op=(evalOp P ρ h op).map fun(b,v,_)=>(b,v,h++l):=by
 cases op
 case load t a=>exact absurd rfl (h1 t a)
 case indexAddr t x i=>exact absurd rfl (h2 t x i)
 case slice t x lo hi mx=>exact absurd rfl (h3 t x lo hi mx)
 case call c=>
  obtain⟨cal,args,ts⟩:=c
  cases cal with
  |builtin bb=>cases bb<;>simp only[evalOp]<;>(repeat' (first|rfl|split))
  |value f=>rfl
  |invoke a b=>rfl
 all_goals first
  |(simp[isRead]at hr;done)
  |(simp only[evalOp]<;>(repeat' (first|rfl|split)))
theorem evalOp_slice_app{P:Program}{ρ:Operand->V}{h h':List Blk}{t:TypeId}{x:Operand}{lo hi mx:Option Operand}{b:Bool}{v:V}(l:List Blk)(he:evalOp P ρ h (.slice t x lo hi mx)=some (b,v,h')):
  h'=h/\evalOp P ρ (h++l) (.slice t x lo hi mx)=some (b,v,h++l):=by
 have two:∀(q:Option (Bool × V)) (a1 a2 a3 a4:V) (l0:Bool),q=sliceV P t (ρ x) a1 a2->
   (match sliceH P h t (ρ x) a3 a4 l0 with|some (ob,v)=>some (ob,v,h)|none=>match q with|some (ob,v)=>some (ob,v,h)|none=>none)=some (b,v,h')->
   h'=h/\(match sliceH P (h++l) t (ρ x) a3 a4 l0 with|some (ob,v)=>some (ob,v,h++l)|none=>match q with|some (ob,v)=>some (ob,v,h++l)|none=>none)=some (b,v,h++l):=by
  intro q a1 a2 a3 a4 l0 hq hh
  cases hs:sliceH P h t (ρ x) a3 a4 l0 with
  |some r=>
   rw[hs]at hh;rw[sliceH_app l hs];simp only[sJ,Prod.mk.injEq]at hh⊢;exact⟨hh.2.2.symm,hh.1,hh.2.1,trivial⟩
  |none=>
   rw[hs]at hh
   cases q with
   |none=>cases hh
   |some r=>
    rw[sliceH_none_app l hs hq.symm];simp only[sJ,Prod.mk.injEq]at hh⊢;exact⟨hh.2.2.symm,hh.1,hh.2.1,trivial⟩
 cases lo with
 |none=>
  cases hi with
  |none=>
   cases mx with
   |some _=>simp[evalOp]at he
   |none=>
    simp only[evalOp]at he⊢
    cases hs:sliceH P h t (ρ x) (.int .i64 0) (lenAt P t (ρ x)) true with
    |none=>rw[hs]at he;cases he
    |some r=>
     rw[hs]at he;rw[sliceH_app l hs];simp only[sJ,Prod.mk.injEq]at he⊢;exact⟨he.2.2.symm,he.1,he.2.1,trivial⟩
  |some hi=>
   cases mx with
   |some _=>simp[evalOp]at he
   |none=>simp only[evalOp]at he⊢;exact two _ _ _ _ _ _ rfl he
 |some lo=>
  cases hi with
  |none=>
   cases mx with
   |some _=>simp[evalOp]at he
   |none=>simp only[evalOp]at he⊢;exact two _ _ _ _ _ _ rfl he
  |some hi=>
   cases mx with
   |some _=>simp[evalOp]at he
   |none=>simp only[evalOp]at he⊢;exact two _ _ _ _ _ _ rfl he
theorem evalOp_read_app{P:Program}{ρ:Operand->V}{h h':List Blk}{op:Op}{b:Bool}{v:V}(hr:isRead op=true)(l:List Blk)(he:evalOp P ρ h op=some (b,v,h')):h'=h/\evalOp P ρ (h++l) op=some (b,v,h++l):=by
 by_cases h1:∃t a,op=.load t a
 ·obtain⟨t,a,rfl⟩:=h1;simp only[evalOp]at he⊢;split at he
  ·rename_i ht;rw[if_pos ht];split at he
   ·rename_i u hl;rw[loadA_app l hl];simp only[sJ,Prod.mk.injEq]at he⊢;exact⟨he.2.2.symm,he.1,he.2.1,trivial⟩
   split at he
   ·rename_i hn _ ob u hl;rw[loadA_none_app l hn hl,loadV_app l hl];simp only[sJ,Prod.mk.injEq]at he⊢;exact⟨he.2.2.symm,he.1,he.2.1,trivial⟩
   ·cases he
  ·cases he
 by_cases h2:∃t x i,op=.indexAddr t x i
 ·obtain⟨t,x,i,rfl⟩:=h2;simp only[evalOp]at he⊢;split at he
  ·rename_i ob u hl;rw[indexAddrV_app l hl];simp only[sJ,Prod.mk.injEq]at he⊢;exact⟨he.2.2.symm,he.1,he.2.1,trivial⟩
  ·cases he
 by_cases h3:∃t x lo hi mx,op=.slice t x lo hi mx
 ·obtain⟨t,x,lo,hi,mx,rfl⟩:=h3;exact evalOp_slice_app l he
 ·have e0:=evalOp_app' (P:=P) (ρ:=ρ) (h:=h) hr (fun t a e=>h1 ⟨t,a,e⟩) (fun t x i e=>h2 ⟨t,x,i,e⟩) (fun t x lo hi mx e=>h3 ⟨t,x,lo,hi,mx,e⟩) [];rw[List.append_nil,he]at e0;simp only[Option.map_some,sJ,Prod.mk.injEq,true_and]at e0;refine⟨e0,?_⟩;rw[evalOp_app' hr (fun t a e=>h1 ⟨t,a,e⟩) (fun t x i e=>h2 ⟨t,x,i,e⟩) (fun t x lo hi mx e=>h3 ⟨t,x,lo,hi,mx,e⟩) l,he];rfl
theorem evalOp_app{P:Program}{ρ:Operand->V}{h h':List Blk}{op:Op}{b:Bool}{v:V}(hr:isRead op=true)(l:List Blk)(he:evalOp P ρ h op=some (b,v,h')):evalOp P ρ (h++l) op=some (b,v,h++l):=(evalOp_read_app hr l he).2
theorem mapV_congr{ρ ρ':Operand->V}{l:Array (Nat × Operand)}(h:∀x∈(l.toList.map (·.2)),ρ x=ρ' x):mapV l ρ=mapV l ρ':=by
 unfold mapV;apply List.map_congr_left;intro p hp;have:=h p.2 (List.mem_map_of_mem hp);simp[this]
theorem evalOp_congr{P:Program}{ρ ρ':Operand->V}{h:List Blk}{op:Op}(hρ:∀x∈op.operands,ρ x=ρ' x)(hr:isRead op=true):evalOp P ρ h op=evalOp P ρ' h op:=by
 cases op
 case build t parts=>
  have:mapV parts ρ=mapV parts ρ':=mapV_congr fun x hx=>hρ x (by simpa[Op.operands]using hx);simp only[evalOp,this]
 case slice t x lo hi mx=>
  have hx:=hρ x (by simp[Op.operands]);cases lo<;>cases hi<;>cases mx<;>simp only[evalOp,hx]<;>(try rfl)
  ·rename_i hi;rw[hρ hi (by simp[Op.operands])]
  ·rename_i lo;rw[hρ lo (by simp[Op.operands])]
  ·rename_i lo hi;rw[hρ lo (by simp[Op.operands]),hρ hi (by simp[Op.operands])]
 case makeFunc fn first caps=>
  have h1:first.toList.map ρ=first.toList.map ρ':=List.map_congr_left fun x hx=>hρ x (by simp[Op.operands]at hx⊢;exact .inl hx)
  have h2:caps.toList.map ρ=caps.toList.map ρ':=List.map_congr_left fun x hx=>hρ x (by simp[Op.operands]at hx⊢;exact .inr hx);simp only[evalOp,h1,h2]
 case call c=>
  obtain⟨cal,args,ts⟩:=c
  cases cal with
  |builtin bb=>
   cases bb<;>simp only[evalOp]
   case len=>
    have:args.size=1->ρ (args.getD 0 (.const (.bool true)))=ρ' (args.getD 0 (.const (.bool true))):=fun hs=>by
     apply hρ;obtain⟨x,rfl⟩:=size_one args hs;simp[Op.operands,Call.operands]
    by_cases hs:args.size=1
    ·rw[this hs]
    ·simp only[hs,false_and,if_false];split<;>split<;>rfl
   all_goals
    split
    ·rename_i x y hxy;have e1:=hρ x (by simp only[Op.operands,Call.operands,Array.mem_append];right;rw[<-Array.mem_toList_iff,hxy];simp);have e2:=hρ y (by simp only[Op.operands,Call.operands,Array.mem_append];right;rw[<-Array.mem_toList_iff,hxy];simp);rw[e1,e2]
    ·rfl
  |value f=>rfl
  |invoke a b=>rfl
 all_goals first
  |(simp[isRead]at hr;done)
  |rfl
  |(have h1:=hρ _ (show _∈Op.operands _ by simp[Op.operands];exact .inl rfl);simp only[evalOp,h1];done)
  |skip
 all_goals simp only[evalOp]
 case pick c a b=>rw[hρ c (by simp[Op.operands]),hρ a (by simp[Op.operands]),hρ b (by simp[Op.operands])]
 all_goals first
  |(rw[hρ _ (by simp[Op.operands])];done)
  |(rename_i x y;rw[hρ x (by simp[Op.operands]),hρ y (by simp[Op.operands])];done)
  |(rename_i x y _;rw[hρ x (by simp[Op.operands]),hρ y (by simp[Op.operands])];done)
  |(rename_i x _;rw[hρ x (by simp[Op.operands])];done)
abbrev FR:=Bool × V × Option Blk × Option (FuncId × List V)
def frOp(P:Program)(h0:List Blk)(nb:Nat)(cr:Nat->V)(S:St)(i:Nat)(o:Oper):Option FR:=
 match o.op with
 |.alloc t=>
  match zeroCs P t with
  |some zs=>some (true,.ref (h0.length+nb) 0 0,some (zeroBlk P t zs).1,none)
  |none=>none
 |.box t x=>
  match cellsOf P t (S.eval x)with
  |some vs=>some (true,.ref (h0.length+nb) 0 0,some (newBlk P t (S.eval x) vs).1,none)
  |none=>none
 |.buildSlice t len parts=>
  match P.underlying t with
  |some (.slice e)=>
   if hasT P e=true/\0<szOf P e/\len*szOf P e<=16777216 then
    match zeroCs P e with
    |some zs=>
     if zs.length=szOf P e then
      match fillV P (fun i=>some (i*szOf P e,e)) ((List.range (len*szOf P e)).map fun q=>zs.getD (q%szOf P e) .undef) (mapV parts S.eval)with
      |some cs=>if underL 0 cs=true then some (true,(if len=0 then .nils else .list (szOf P e) len (litC (szOf P e) len cs)),none,none)else none
      |none=>none
     else none
    |none=>none
   else none
  |_=>none
 |.call {callee:=.value f,args:=args,argTypes:=_}=>
  match fnOf (S.eval f)with
  |some (g,first,caps)=>some (true,cr i,none,some (g,callArgs S first caps args))
  |none=>none
 |.call {callee:=.builtin .append,args:=⟨[s,x]⟩,argTypes:=⟨[t,t']⟩}=>
  match P.underlying t,S.eval s,S.eval x with
  |some (.slice e),.nils,.list w k c=>
   match zeroCs P e with
   |some zs=>
    if t=t'/\hasT P e=true/\szOf P e=w/\0<w/\zs.length=w/\P.bytesOf e<=32768 then
     some (decide (k<=4294967296)&&(List.range k).all fun r=>(List.range w).all fun j=>(c r j).scalar,.row (h0.length+nb) k,some (.rows e w k c),none)
    else none
   |none=>none
  |_,_,_=>none
 |op=>
  if isRead op=true then
   match evalOp P S.eval h0 op with
   |some (b,v,_)=>some (b,v,none,none)
   |none=>none
  else none
def ovr(ov:List (Nat × Bool))(i:Nat)(r:FR):FR:=
 match ov.lookup i,r.2.1 with
 |some c,.bool b=>(r.1&&(b==c),.bool c,r.2.2)
 |_,_=>r
theorem ovr_eq{ov:List (Nat × Bool)}{i:Nat}{r:FR}(h:(ovr ov i r).1=true):r=ovr ov i r:=by
 unfold ovr at h⊢;split
 ·rename_i c b _ hb;rename_i hl;simp only[hl,hb,Bool.and_eq_true,beq_iff_eq]at h;obtain⟨h1,rfl⟩:=h;obtain⟨r1,r2,r3⟩:=r;simp only at hb h1⊢;subst hb;subst h1;simp
 ·rfl
def frRun(P:Program)(ops:Array Oper)(h0:List Blk)(cr:Nat->V)(ov:List (Nat × Bool)):List Nat->Nat->St->Option (List FR)
 |[],_,_=>some []
 |i::is,nb,S=>
  match ops[i]? with
  |none=>none
  |some o=>
   match wantedV ops S o with
   |some false=>
    match frRun P ops h0 cr ov is nb (S.put o.dst (.tuple []))with
    |some rs=>some ((true,.tuple [],none,none)::rs)
    |none=>none
   |some true=>
    match frOp P h0 nb cr S i o with
    |some r=>
     match frRun P ops h0 cr ov is (if(ovr ov i r).2.2.1.isSome=true then nb+1 else nb) (S.put o.dst (ovr ov i r).2.1)with
     |some rs=>some (ovr ov i r::rs)
     |none=>none
    |none=>none
   |none=>none
abbrev fr0:FR:=(true,.tuple [],none,none)
def dstOf(ops:Array Oper)(j:Nat):Option Tmp:=(ops[j]?).bind (·.dst)
def who(ops:Array Oper)(m:Nat)(l:Nat->Bool)(x:Nat):Option Nat:=(List.range m).find? fun j=>l j&&(dstOf ops j==some x)
def tAt(ops:Array Oper)(m:Nat)(rs:List FR)(l:Nat->Bool)(t0:List V):List V:=
 (List.range t0.length).map fun x=>match who ops m l x with|some j=>(rs.getD j fr0).2.1|none=>t0.getD x .undef
def frontOK(ops:Array Oper)(m:Nat):Bool:=
 (List.range m).all fun i=>
  ((List.range m).all fun j=>i==j||(dstOf ops i).isNone||dstOf ops i !=dstOf ops j)&&
  match ops[i]? with
  |none=>true
  |some o=>(o.looksAt ops).all fun x=>(List.range m).all fun j=>dstOf ops j !=some x||(decide (j<i)&&o.after.any fun e=>e.on==j&&Region.binds .any e)
section
variable {P:Program} {ops:Array Oper} {m:Nat} {rs:List FR} {t0:List V}
theorem front_dst(hf:frontOK ops m=true){i j:Nat}(hi:i<m)(hj:j<m){d:Tmp}(h1:dstOf ops i=some d)(h2:dstOf ops j=some d):i=j:=by
 simp only[frontOK,List.all_eq_true,List.mem_range,Bool.and_eq_true]at hf;have:=(hf i hi).1 j hj;simp only[Bool.or_eq_true,beq_iff_eq,bne_iff_ne,h1,h2,Option.isNone_some,Bool.false_eq_true,or_false,ne_eq,not_true_eq_false]at this;exact this
theorem front_look(hf:frontOK ops m=true){i j:Nat}(hi:i<m)(hj:j<m){o:Oper}(ho:ops[i]? =some o){x:Tmp}(hx:x∈o.looksAt ops)(hd:dstOf ops j=some x):j<i/\∃e∈o.after,e.on=j/\Region.binds .any e=true:=by
 simp only[frontOK,List.all_eq_true,List.mem_range,Bool.and_eq_true]at hf;have:=(hf i hi).2;rw[ho]at this;simp only[List.all_eq_true,List.mem_range]at this;have:=this x hx j hj;simp only[hd,Bool.or_eq_true,bne_iff_ne,ne_eq,not_true_eq_false,false_or,Bool.and_eq_true,decide_eq_true_eq]at this;refine⟨this.1,?_⟩;rw[Array.any_eq_true]at this;obtain⟨q,hq,hb⟩:=this.2;simp only[Bool.and_eq_true,beq_iff_eq]at hb
 exact⟨_,Array.getElem_mem hq,hb.1,hb.2⟩
theorem tAt_len(l:Nat->Bool):(tAt ops m rs l t0).length=t0.length:=by simp[tAt]
theorem tAt_getD(l:Nat->Bool)(x:Nat)(hx:x<t0.length):(tAt ops m rs l t0).getD x .undef=match who ops m l x with|some j=>(rs.getD j fr0).2.1|none=>t0.getD x .undef:=by
 unfold tAt;rw[getD_ofFn _ _ hx]
theorem who_none{l:Nat->Bool}{x:Nat}:who ops m l x=none↔∀j,j<m->l j=true->dstOf ops j≠some x:=by
 unfold who;rw[List.find?_eq_none];constructor
 ·intro h j hj hl hd;have:=h j (List.mem_range.2 hj);simp[hl,hd]at this
 ·intro h j hj;have:=h j (List.mem_range.1 hj);simp only[Bool.and_eq_true,beq_iff_eq,not_and];exact fun hl=>this hl
theorem who_some(hf:frontOK ops m=true){l:Nat->Bool}{x j:Nat}(hj:j<m)(hl:l j=true)(hd:dstOf ops j=some x):who ops m l x=some j:=by
 cases h:who ops m l x with
 |none=>exact absurd hd (who_none.1 h j hj hl)
 |some k=>
  have h1:=List.find?_some h;have h2:=List.mem_of_find?_eq_some h;simp only[Bool.and_eq_true,beq_iff_eq]at h1;rw[front_dst hf (List.mem_range.1 h2) hj h1.2 hd]
theorem tAt_set(hf:frontOK ops m=true){l l':Nat->Bool}{i:Nat}(hi:i<m)(hli:l i=false)(hl':∀j,j<m->l' j=(l j||j==i)):tAt ops m rs l' t0=match dstOf ops i with|some d=>(tAt ops m rs l t0).set d (rs.getD i fr0).2.1|none=>tAt ops m rs l t0:=by
 have hlen:∀q,(tAt ops m rs q t0).length=t0.length:=fun q=>tAt_len q
 have pt:∀x,x<t0.length->dstOf ops i≠some x->(tAt ops m rs l' t0).getD x .undef=(tAt ops m rs l t0).getD x .undef:=fun x hx hne=>by
  rw[tAt_getD _ _ hx,tAt_getD _ _ hx]
  have:who ops m l' x=who ops m l x:=by
   cases h:who ops m l x with
   |none=>
    rw[who_none]at h⊢;intro j hj hlj;rw[hl' j hj]at hlj;simp only[Bool.or_eq_true,beq_iff_eq]at hlj;rcases hlj with q|q
    ·exact h j hj q
    ·subst q;exact hne
   |some k=>
    have h1:=List.find?_some h;have h2:=List.mem_range.1 (List.mem_of_find?_eq_some h);simp only[Bool.and_eq_true,beq_iff_eq]at h1;exact who_some hf h2 (by rw[hl' k h2,h1.1];rfl) h1.2
  rw[this]
 apply List.ext_getElem?;intro x
 have conv:∀(q:List V),q.length=t0.length->x<t0.length->q[x]? =some (q.getD x .undef):=fun q hq hx=>by
  rw[gE,List.getElem?_eq_getElem (by omega)];rfl
 rcases Nat.lt_or_ge x t0.length with hx|hx
 ·cases hd:dstOf ops i with
  |none=>
   simp only;rw[conv _ (hlen _) hx,conv _ (hlen _) hx,pt x hx (by rw[hd];simp)]
  |some d=>
   simp only;by_cases e:d=x
   ·subst e;rw[List.getElem?_set_self (by rw[hlen];exact hx),conv _ (hlen _) hx,tAt_getD _ _ hx,who_some hf hi (by rw[hl' i hi];simp) hd]
   ·rw[sN e,conv _ (hlen _) hx,conv _ (hlen _) hx,pt x hx (by rw[hd];simp[e])]
 ·rw[List.getElem?_eq_none (by rw[hlen];exact hx)]
  cases hd:dstOf ops i with
  |none=>simp only;rw[List.getElem?_eq_none (by rw[hlen];exact hx)]
  |some d=>simp only;rw[List.getElem?_eq_none (by simp[hlen];exact hx)]
theorem tAt_none{l:Nat->Bool}(h:∀j,j<m->l j=false):tAt ops m rs l t0=t0:=by
 apply List.ext_getElem?;intro x;rcases Nat.lt_or_ge x t0.length with hx|hx
 ·have h1:(tAt ops m rs l t0)[x]? =some ((tAt ops m rs l t0).getD x .undef):=by
   rw[gE,List.getElem?_eq_getElem (by rw[tAt_len];exact hx)];rfl
  rw[h1,tAt_getD _ _ hx];have:who ops m l x=none:=who_none.2 fun j hj hl=>by rw[h j hj]at hl;cases hl
  rw[this];simp only;rw[gE,List.getElem?_eq_getElem hx];rfl
 ·rw[List.getElem?_eq_none (by rw[tAt_len];exact hx),List.getElem?_eq_none hx]
def rank(rs:List FR):Nat->Nat
 |0=>0
 |i+1=>rank rs i+if(rs.getD i fr0).2.2.1.isSome=true then 1 else 0
def bl(rs:List FR)(l:Nat->Bool):Nat->List Blk
 |0=>[]
 |i+1=>bl rs l i++match(rs.getD i fr0).2.2.1 with|some k=>[if l i=true then k else .void]|none=>[]
theorem bl_len(l:Nat->Bool):∀k,(bl rs l k).length=rank rs k:=by
 intro k
 induction k with
 |zero=>rfl
 |succ k ih=>
  simp only[bl,rank,List.length_append,ih];cases(rs.getD k fr0).2.2.1<;>simp
theorem rank_mono{i k:Nat}(h:i<=k):rank rs i<=rank rs k:=by
 induction k with
 |zero=>
      have:i=0:=by omega
      subst this;exact Nat.le_refl _
 |succ k ih=>
  by_cases e:i=k+1
  ·subst e;exact Nat.le_refl _
  ·simp only[rank];have:=ih (by omega);omega
theorem bl_set{l l':Nat->Bool}{i:Nat}(hl:∀j,j≠i->l' j=l j)(hi:l' i=true):∀k,bl rs l' k=if i<k then(match(rs.getD i fr0).2.2.1 with|some b=>(bl rs l k).set (rank rs i) b|none=>bl rs l k)else bl rs l k:=by
 intro k
 induction k with
 |zero=>simp[bl]
 |succ k ih=>
  simp only[bl,ih];by_cases e:k=i
  ·subst e;rw[if_neg (Nat.lt_irrefl _),if_pos (Nat.lt_succ_self _)]
   cases hb:(rs.getD k fr0).2.2.1 with
   |none=>simp
   |some b=>
    simp only[hi,if_true];rw[List.set_append_right _ _ (by rw[bl_len];exact Nat.le_refl _),bl_len,Nat.sub_self];rfl
  ·rw[hl k e];by_cases hk:i<k
   ·rw[if_pos hk,if_pos (by omega)]
    cases hb:(rs.getD i fr0).2.2.1 with
    |none=>rfl
    |some b=>
     simp only;rw[List.set_append_left];rw[bl_len];have h1:rank rs (i+1)<=rank rs k:=rank_mono hk;simp only[rank,hb,Option.isSome_some,if_true]at h1;omega
   ·rw[if_neg hk,if_neg (by omega)]
theorem bl_get{l:Nat->Bool}{i k:Nat}(hik:i<k){b:Blk}(hb:(rs.getD i fr0).2.2.1=some b):(bl rs l k)[rank rs i]? =some (if l i=true then b else .void):=by
 induction k with
 |zero=>omega
 |succ k ih=>
  simp only[bl];by_cases e:k=i
  ·subst e;rw[List.getElem?_append_right (by rw[bl_len];exact Nat.le_refl _),bl_len,Nat.sub_self,hb];rfl
  ·have hk:i<k:=by omega
   rw[aL]
   ·exact ih hk
   ·rw[bl_len];have h1:rank rs (i+1)<=rank rs k:=rank_mono hk;simp only[rank,hb,Option.isSome_some,if_true]at h1;omega
theorem bl_none{l:Nat->Bool}(h:∀j,l j=false):∀k,bl rs l k=List.replicate (rank rs k) .void:=by
 intro k
 induction k with
 |zero=>rfl
 |succ k ih=>
  simp only[bl,rank,ih,h]
  cases(rs.getD k fr0).2.2.1 with
  |none=>simp
  |some b=>simp[List.replicate_succ']
end
theorem rep_get{α:Type}{n i:Nat}{a k:α}(h:(List.replicate n a)[i]? =some k):k=a:=by
 rw[List.getElem?_replicate]at h;split at h
 ·cases h;rfl
 ·cases h
theorem RH.reserve{β:Homes}{G K:Kept}{h:List Blk}{w:World}(r:RH β G K h w)(n:Nat):RH (β++List.replicate n Hm.void) G K (h++List.replicate n Blk.void) w:=by
 have hl:=r.len
 have home:∀ {i:Nat} {x:Home},(β++List.replicate n Hm.void)[i]? =some (.lie x)->i<h.length/\β[i]? =some (.lie x):=fun {i x} hb=>by
  rcases Nat.lt_or_ge i h.length with hlt|hge
  ·rw[aL (by omega)]at hb;exact⟨hlt,hb⟩
  ·rw[List.getElem?_append_right (by omega)]at hb;have:=rep_get hb;cases this
 refine⟨by simp[hl],fun i k hk=> ?_,fun i j x y k k' hi hj g g' hbi hbj hxy=> ?_,fun i x k hi g hb=> ?_,r.keep,r.gk,r.amb,fun i X tr hi=> ?_⟩
 ·rcases Nat.lt_or_ge i h.length with hlt|hge
  ·rw[aL hlt]at hk;rw[aL (by omega)];by_cases hg:k=.gone
   ·subst hg;cases(β[i]?.getD .void)<;>trivial
   exact(r.blk i k hk).mono (Kept.le_refl _) (Homes.le_append _ _) fun _ _=>rfl
  ·rw[List.getElem?_append_right hge]at hk;have e:=rep_get hk;subst e;rw[List.getElem?_append_right (by omega)]
   have:(List.replicate n Hm.void)[i-β.length]?.getD .void=.void:=by
    rw[List.getElem?_replicate];split<;>rfl
   rw[this];trivial
 ·obtain⟨l1,b1⟩:=home hbi;obtain⟨l2,b2⟩:=home hbj;rw[aL l1]at hi;rw[aL l2]at hj;exact r.inj i j x y k k' hi hj g g' b1 b2 hxy
 ·obtain⟨l1,b1⟩:=home hb;rw[aL l1]at hi;exact r.sep i x k hi g b1
 ·have lt:i<h.length:=by
   rcases Nat.lt_or_ge i h.length with q|q
   ·exact q
   ·rw[List.getElem?_append_right q]at hi;have:=rep_get hi;cases this
  rw[aL lt]at hi;obtain⟨l,E,h1,h2,hbs,h3⟩:=r.ext i X tr hi;refine⟨l,E,Homes.le_append _ _ _ _ (by simp) h1,h2,hbs,fun b hE=>⟨(h3 b hE).1,fun j y k1 hj g hbj=> ?_⟩⟩;obtain⟨l1,b1⟩:=home hbj;rw[aL l1]at hj;exact(h3 b hE).2 j y k1 hj g b1
theorem le_set_void{β:Homes}{i:Nat}{x:Hm}(h:β[i]? =some .void):β.le (β.set i x):=fun j y hy hj=>by
 by_cases e:i=j
 ·subst e;rw[h]at hj;cases hj;exact absurd rfl hy
 ·rw[sN e];exact hj
theorem RH.void_home{β:Homes}{G K:Kept}{h:List Blk}{w:World}(r:RH β G K h w){i:Nat}(hi:h[i]? =some .void):β[i]? =some .void:=by
 have hlt:i<β.length:=by rw[r.len];exact(List.getElem?_eq_some_iff.1 hi).1
 have:=r.blk i _ hi;rw[List.getElem?_eq_getElem hlt]at this⊢
 cases hb:β[i]with
 |void=>rfl
 |nil=>rw[hb]at this;exact this.elim
 |lie x=>rw[hb]at this;exact this.elim
 |ext l=>rw[hb]at this;exact this.elim
theorem RH.fill{β:Homes}{G K:Kept}{h:List Blk}{w:World}(r:RH β G K h w){o:Obj}{k:Blk}{x:Home}{i:Nat}(hi:h[i]? =some .void)(hx:x.b=w.heap.size)
  (hk:BlkOK G (β.set i (.lie x)) (w.alloc o) k (.lie x)):RH (β.set i (.lie x)) G K (h.set i k) (w.alloc o):=by
 have hv:=r.void_home hi;have hr:=r.alloc o;have hil:i<h.length:=(List.getElem?_eq_some_iff.1 hi).1;have hib:i<β.length:=by rw[r.len];exact hil
 have knone:K w.heap.size=none:=by
  cases hk:K w.heap.size with
  |none=>rfl
  |some o'=>have:=(Array.getElem?_eq_some_iff.1 (r.keep _ _ hk)).1;omega
 have hself:(β.set i (.lie x))[i]? =some (.lie x):=List.getElem?_set_self hib;refine⟨by simp[r.len],fun j kj hj=> ?_,fun a b xa xb ka kb ha hb ga gb hba hbb hxy=> ?_,fun j y kj hj g hb=> ?_,hr.keep,r.gk,hr.amb,fun j X tr hj=> ?_⟩
 ·by_cases e:i=j
  ·subst e;rw[List.getElem?_set_self hil]at hj;simp only[sJ]at hj;subst hj;rw[hself];exact hk
  ·rw[sN e]at hj;rw[sN e];by_cases hg:kj=.gone
   ·subst hg;cases(β[j]?.getD .void)<;>trivial
   exact(hr.blk j kj hj).mono (Kept.le_refl _) (le_set_void hv) fun _ _=>rfl
 ·by_cases ea:i=a
  ·subst ea;by_cases eb:i=b
   ·exact eb
   ·rw[hself]at hba;simp only[sJ,Hm.lie.injEq]at hba;subst hba;rw[sN eb]at hb hbb;have:=(r.sep b xb kb hb gb hbb).2;omega
  ·by_cases eb:i=b
   ·subst eb;rw[hself]at hbb;simp only[sJ,Hm.lie.injEq]at hbb;subst hbb;rw[sN ea]at ha hba;have:=(r.sep a xa ka ha ga hba).2;omega
   ·rw[sN ea]at ha hba;rw[sN eb]at hb hbb;exact r.inj a b xa xb ka kb ha hb ga gb hba hbb hxy
 ·by_cases e:i=j
  ·subst e;rw[hself]at hb;simp only[sJ,Hm.lie.injEq]at hb;subst hb;rw[hx];exact⟨knone,by simp⟩
  ·rw[sN e]at hj hb;exact hr.sep j y kj hj g hb
 ·by_cases e:i=j
  ·subst e;rw[List.getElem?_set_self hil]at hj;simp only[sJ]at hj;subst hj;exact hk.elim
  ·rw[sN e]at hj;obtain⟨l,E,h1,h2,hbs,h3⟩:=r.ext j X tr hj
   refine⟨l,E,by rw[sN e];exact h1,X.stable h2 (fun b o hb=>by
    have q:=X.keeps h2 b o hb
    rw[heap_alloc_lt w _ (Array.getElem?_eq_some_iff.1 q).1];exact q) (fun b o hb=>by
    have q:=r.keep b o (hbs b o hb)
    rw[heap_alloc_lt w _ (Array.getElem?_eq_some_iff.1 q).1];exact q) (by simp) (Mild.alloc w _),hbs,fun b hE=>⟨(h3 b hE).1,fun q y k1 hq g hbq=> ?_⟩⟩
   by_cases e2:i=q
   ·subst e2;rw[hself]at hbq;simp only[sJ,Hm.lie.injEq]at hbq;subst hbq;have:=Ext.lt h2 hE;omega
   ·rw[sN e2]at hq hbq;exact(h3 b hE).2 q y k1 hq g hbq
theorem uponIn_mono'{F:Fence}{n:Nat}{P:Program}{o:Oper}{a:Act}{next next':Act->World->Prop}{Q Q':Exit->Act->World->Prop}(hn:∀a w,next a w->next' a w)(hq:∀e a w,e≠ .normal->Q e a w->Q' e a w)(x:Result Next)
  (h:o.uponIn F n P a next Q x):o.uponIn F n P a next' Q' x:=by
 have lo:LetsOut Q->LetsOut Q':=fun⟨a,w,h⟩=>⟨a,w,hq _ _ _ (by simp) h⟩
 cases x with
 |ok nx w=>
  cases nx with
  |value v=>exact hn _ _ h
  |skip=>exact hn _ _ h
  |defer d=>exact hn _ _ h
  |enter f args=>exact⟨h.1,h.2.1,fun cs hr=>let⟨e,w',fr,r,s⟩:=h.2.2 cs hr;⟨e,w',fr,by cases e with|returned v=>exact hn _ _ r|panicked c=>exact hq _ _ _ (by simp) r|outgrown=>exact lo r,s⟩⟩
  |row row args=>exact⟨h.1,h.2.mono fun v w' r=>hn _ _ r⟩
  |round l f t az bo=>exact⟨h.1,h.2.mono fun e w' r=>by cases e with|returned v=>exact hn _ _ r|panicked c=>exact hq _ _ _ (by simp) r|outgrown=>exact lo r⟩
  |_=>exact h.elim
 |halt hl w=>
  cases hl with
  |panic v=>exact hq _ _ _ (by simp) h
  |_=>exact h.elim
theorem AStep.of_ops{P:Program}{ro:Env}{ops:Array Oper}{i:Nat}{S S':St}(h:AOps P ro ops [i] S (fun e S2=>e=.normal/\S2=S')):AStep P ro ops i S S':=fun β G K a w Kc Qc r hK=>by
 have h1:=h β G K a w r;rw[wpOpsIn_cons]at h1;unfold wpOpIn at h1⊢
 cases ho:ops[i]? with
 |none=>
  simp only[ho]at h1⊢;obtain⟨S2,β',G',K',a0,a1,a2,a3,_,rfl⟩:=h1;exact hK _ _ _ _ _ a0 a1 a2 a3
 |some o=>
  simp only[ho]at h1⊢;by_cases hw:Region.wanted o (yielded ops a.tmps)=true
  ·simp only[hw,if_true]at h1⊢;refine⟨h1.1,uponIn_mono' (fun a' w' hp=> ?_) (fun e a' w' he hp=> ?_) _ h1.2⟩
   ·obtain⟨S2,β',G',K',a0,a1,a2,a3,_,rfl⟩:=hp;exact hK _ _ _ _ _ a0 a1 a2 a3
   ·obtain⟨S2,β',G',K',a0,a1,a2,a3,hn,_⟩:=hp;exact absurd hn he
  ·simp only[hw,if_false,Bool.false_eq_true]at h1⊢;refine⟨h1.1,?_⟩;obtain⟨S2,β',G',K',a0,a1,a2,a3,_,rfl⟩:=h1.2;exact hK _ _ _ _ _ a0 a1 a2 a3
theorem AStep.of_val{P:Program}{ro:Env}{ops:Array Oper}{i:Nat}{S S1:St}{o:Oper}{v:V}(hi:ops[i]? =some o)(hw:wantedV ops S o=some true)(hnd:∀c,o.op≠ .defer c)
  (hh:∀β G K a w,RS β G K S a w->∃y w' β' G' K',(execOp a.eval o).run P w=.ok (.value y) w'/\Homes.low ro.m β β'/\G.ext K G'/\K.le K'/\RS β' G' K' S1 a w'/\Rel G' β' v y):AStep P ro ops i S (S1.put o.dst v):=fun β G K a w Kc Qc r hK=>by
 unfold wpOpIn;simp only[hi,wanted_ok r hw,if_true,Oper.wpIn];refine⟨fun _ _=>trivial,?_⟩;obtain⟨y,w',β',G',K',hrun,h0,h1,h2,h3,h4⟩:=hh β G K a w r
 have hsem:(o.semAt (wide ro).round a.eval).run P w=.ok (.value y) w':=by
  rw[Oper.semAt_eq _ _ _ hnd];exact hrun
 rw[hsem];exact hK _ _ _ _ _ h0 h1 h2 (h3.put h4 o.dst)
theorem tAt_congr{ops:Array Oper}{m:Nat}{rs rs':List FR}{l l':Nat->Bool}(t0:List V)(hl:∀j,j<m->l j=l' j)(h:∀j,j<m->l j=true->(rs.getD j fr0).2.1=(rs'.getD j fr0).2.1):tAt ops m rs l t0=tAt ops m rs' l' t0:=by
 unfold tAt;apply List.map_congr_left;intro x _
 have hw:who ops m l x=who ops m l' x:=by
  unfold who
  have:∀(js:List Nat),(∀j∈js,j<m)->js.find? (fun j=>l j&&(dstOf ops j==some x))=js.find? (fun j=>l' j&&(dstOf ops j==some x)):=by
   intro js
   induction js with
   |nil=>intro _;rfl
   |cons j js ih=>
    intro hj;simp only[List.find?_cons,hl j (hj j (by simp)),ih fun k hk=>hj k (by simp[hk])]
  exact this _ fun j hj=>List.mem_range.1 hj
 rw[<-hw]
 cases hq:who ops m l x with
 |none=>rfl
 |some j=>
  have h1:=List.find?_some hq;have h2:=List.mem_range.1 (List.mem_of_find?_eq_some hq);simp only[Bool.and_eq_true]at h1;exact h j h2 h1.1
def bef(i:Nat):Nat->Bool:=fun j=>decide (j<i)
def atI(ops:Array Oper)(m:Nat)(rs:List FR)(S:St)(i:Nat):St:={S with t:=tAt ops m rs (bef i) S.t}
def FrGave(P:Program)(ops:Array Oper)(h0:List Blk)(cr:Nat->V)(ov:List (Nat × Bool))(m:Nat)(S:St)(rs:List FR)(i:Nat):Prop:=
 ∃o,ops[i]? =some o/\((wantedV ops (atI ops m rs S i) o=some false/\rs.getD i fr0=fr0)\/
  (wantedV ops (atI ops m rs S i) o=some true/\∃r,frOp P h0 (rank rs i) cr (atI ops m rs S i) i o=some r/\rs.getD i fr0=ovr ov i r))
def FrFact(P:Program)(ops:Array Oper)(h0:List Blk)(cr:Nat->V)(m:Nat)(S:St)(rs:List FR)(i:Nat):Prop:=
 ∃o,ops[i]? =some o/\((wantedV ops (atI ops m rs S i) o=some false/\rs.getD i fr0=fr0)\/
  (wantedV ops (atI ops m rs S i) o=some true/\frOp P h0 (rank rs i) cr (atI ops m rs S i) i o=some (rs.getD i fr0)))
theorem FrGave.fact{P:Program}{ops:Array Oper}{h0:List Blk}{cr:Nat->V}{ov:List (Nat × Bool)}{m:Nat}{S:St}{rs:List FR}{i:Nat}(h:FrGave P ops h0 cr ov m S rs i)(hob:(rs.getD i fr0).1=true):FrFact P ops h0 cr m S rs i:=by
 obtain⟨o,ho,h1|⟨h1,r,h2,h3⟩⟩:=h
 ·exact⟨o,ho,.inl h1⟩
 ·rw[h3]at hob;exact⟨o,ho,.inr ⟨h1,by rw[h3,<-ovr_eq hob];exact h2⟩⟩
theorem rank_congr{rs rs':List FR}:∀k,(∀j,j<k->(rs.getD j fr0).2.2.1=(rs'.getD j fr0).2.2.1)->rank rs k=rank rs' k:=by
 intro k
 induction k with
 |zero=>intro _;rfl
 |succ k ih=>intro h;simp only[rank,h k (by omega),ih fun j hj=>h j (by omega)]
theorem bef_succ(k j:Nat):bef (k+1) j=(bef k j||j==k):=by
 simp only[bef];by_cases h1:j<k
 ·simp[h1,show j<k+1 by omega]
 ·by_cases h2:j=k
  ·subst h2;simp
  ·have:¬j<k+1:=by omega
   simp[h1,h2,this]
theorem frRun_facts{P:Program}{ops:Array Oper}{m:Nat}(hf:frontOK ops m=true){h0:List Blk}{cr:Nat->V}{ov:List (Nat × Bool)}{S:St}:∀(n k:Nat) (pre rs2:List FR),k+n=m->pre.length=k->
  frRun P ops h0 cr ov (List.range' k n) (rank pre k) {S with t:=tAt ops m pre (bef k) S.t}=some rs2->rs2.length=n/\∀i,k<=i->i<m->FrGave P ops h0 cr ov m S (pre++rs2) i:=by
 intro n
 induction n with
 |zero=>intro k pre rs2 hk hp h;simp only[List.range'_zero,frRun,sJ]at h;subst h;exact⟨rfl,fun i h1 h2=>by omega⟩
 |succ n ih=>
  intro k pre rs2 hk hp h;rw[List.range'_succ]at h;simp only[frRun]at h
  cases ho:ops[k]? with
  |none=>rw[ho]at h;cases h
  |some o=>
   rw[ho]at h;simp only at h;have pre_get:∀(r:FR) (rs3:List FR) (j:Nat),j<k->(pre++r::rs3).getD j fr0=pre.getD j fr0:=fun r rs3 j hj=>getD_append_left (by omega)
   have here:∀(r:FR) (rs3:List FR),(pre++r::rs3).getD k fr0=r:=fun r rs3=>by
    rw[getD_append_right (by omega),hp,Nat.sub_self];rfl
   have same:∀(r:FR) (rs3:List FR),tAt ops m (pre++r::rs3) (bef k) S.t=tAt ops m pre (bef k) S.t:=fun r rs3=>
    tAt_congr _ (fun _ _=>rfl) fun j hj hb=>by rw[pre_get r rs3 j (by simpa[bef]using hb)]
   have rk:∀(r:FR) (rs3:List FR),rank (pre++r::rs3) k=rank pre k:=fun r rs3=>rank_congr k fun j hj=>by rw[pre_get r rs3 j hj]
   have next:∀(r:FR),St.put {S with t:=tAt ops m pre (bef k) S.t} o.dst r.2.1={S with t:=tAt ops m (pre++ [r]) (bef (k+1)) S.t}:=fun r=>by
    have h1:=tAt_set (rs:=pre++ [r]) (t0:=S.t) hf (l:=bef k) (l':=bef (k+1)) (i:=k) (by omega) (by simp[bef]) fun j _=>bef_succ k j;have hd:dstOf ops k=o.dst:=by simp[dstOf,ho]
    rw[hd,same r [],here r []]at h1;rw[h1];cases o.dst<;>rfl
   have go:∀(r:FR) (rs3:List FR),rs2=r::rs3->frRun P ops h0 cr ov (List.range' (k+1) n) (rank (pre++ [r]) (k+1)) (St.put {S with t:=tAt ops m pre (bef k) S.t} o.dst r.2.1)=some rs3->
     FrGave P ops h0 cr ov m S (pre++rs2) k->rs2.length=n+1/\∀i,k<=i->i<m->FrGave P ops h0 cr ov m S (pre++rs2) i:=fun r rs3 e h3 hfk=>by
    rw[next r]at h3;obtain⟨h4,h5⟩:=ih (k+1) (pre++ [r]) rs3 (by omega) (by simp[hp]) h3;subst e;refine⟨by simp[h4],fun i h1 h2=> ?_⟩;by_cases e:i=k
    ·subst e;exact hfk
    ·have:=h5 i (by omega) h2;rwa[List.append_assoc]at this
   have rk1:∀(r:FR),rank (pre++ [r]) (k+1)=if r.2.2.1.isSome=true then rank pre k+1 else rank pre k:=fun r=>by
    simp only[rank,here r [],rk r []];split<;>rfl
   split at h
   ·rename_i hw;split at h
    ·rename_i rs3 h3;simp only[sJ]at h;refine go fr0 rs3 h.symm (by rw[rk1];simpa using h3) ⟨o,ho,.inl ⟨?_,?_⟩⟩
     ·subst h;show wantedV ops {S with t:=_} o=_;rw[same];exact hw
     ·subst h;exact here _ _
    ·cases h
   ·rename_i hw;split at h
    ·rename_i r hr;split at h
     ·rename_i rs3 h3;simp only[sJ]at h;refine go (ovr ov k r) rs3 h.symm (by rw[rk1];exact h3) ⟨o,ho,.inr ⟨?_,r,?_,?_⟩⟩
      ·subst h;show wantedV ops {S with t:=_} o=_;rw[same];exact hw
      ·subst h;rw[rk];show frOp P h0 _ cr {S with t:=_} k o=_;rw[same];exact hr
      ·subst h;exact here _ _
     ·cases h
    ·cases h
   ·cases h
theorem RH.fillG{β:Homes}{G K:Kept}{h:List Blk}{w w':World}(r:RH β G K h w)(hw:∀b,b<w.heap.size->w'.heap[b]? =w.heap[b]?)(hs:w.heap.size<=w'.heap.size){k:Blk}{x:Home}{i:Nat}(hi:h[i]? =some .void)(hx:w.heap.size<=x.b)(hx':x.b<w'.heap.size)
  (hk:BlkOK G (β.set i (.lie x)) w' k (.lie x)) (hm:Mild w w'):RH (β.set i (.lie x)) G K (h.set i k) w':=by
 have hv:=r.void_home hi;have hr:=r.congr hw hs hm;have hil:i<h.length:=(List.getElem?_eq_some_iff.1 hi).1;have hib:i<β.length:=by rw[r.len];exact hil
 have knone:K x.b=none:=by
  cases hk:K x.b with
  |none=>rfl
  |some o'=>have:=(Array.getElem?_eq_some_iff.1 (r.keep _ _ hk)).1;omega
 have hself:(β.set i (.lie x))[i]? =some (.lie x):=List.getElem?_set_self hib;refine⟨by simp[r.len],fun j kj hj=> ?_,fun a b xa xb ka kb ha hb ga gb hba hbb hxy=> ?_,fun j y kj hj g hb=> ?_,hr.keep,r.gk,hr.amb,fun j X tr hj=> ?_⟩
 ·by_cases e:i=j
  ·subst e;rw[List.getElem?_set_self hil]at hj;simp only[sJ]at hj;subst hj;rw[hself];exact hk
  ·rw[sN e]at hj;rw[sN e];by_cases hg:kj=.gone
   ·subst hg;cases(β[j]?.getD .void)<;>trivial
   exact(hr.blk j kj hj).mono (Kept.le_refl _) (le_set_void hv) fun _ _=>rfl
 ·by_cases ea:i=a
  ·subst ea;by_cases eb:i=b
   ·exact eb
   ·rw[hself]at hba;simp only[sJ,Hm.lie.injEq]at hba;subst hba;rw[sN eb]at hb hbb;have:=(r.sep b xb kb hb gb hbb).2;omega
  ·by_cases eb:i=b
   ·subst eb;rw[hself]at hbb;simp only[sJ,Hm.lie.injEq]at hbb;subst hbb;rw[sN ea]at ha hba;have:=(r.sep a xa ka ha ga hba).2;omega
   ·rw[sN ea]at ha hba;rw[sN eb]at hb hbb;exact r.inj a b xa xb ka kb ha hb ga gb hba hbb hxy
 ·by_cases e:i=j
  ·subst e;rw[hself]at hb;simp only[sJ,Hm.lie.injEq]at hb;subst hb;exact⟨knone,hx'⟩
  ·rw[sN e]at hj hb;exact hr.sep j y kj hj g hb
 ·by_cases e:i=j
  ·subst e;rw[List.getElem?_set_self hil]at hj;simp only[sJ]at hj;subst hj;exact hk.elim
  ·rw[sN e]at hj;obtain⟨l,E,h1,h2,hbs,h3⟩:=r.ext j X tr hj
   refine⟨l,E,by rw[sN e];exact h1,X.stable h2 (fun b o hb=>by
    have q:=X.keeps h2 b o hb
    rw[hw b (Array.getElem?_eq_some_iff.1 q).1];exact q) (fun b o hb=>by
    have q:=r.keep b o (hbs b o hb)
    rw[hw b (Array.getElem?_eq_some_iff.1 q).1];exact q) hs hm,hbs,fun b hE=>⟨(h3 b hE).1,fun q y k1 hq g hbq=> ?_⟩⟩
   by_cases e2:i=q
   ·subst e2;rw[hself]at hbq;simp only[sJ,Hm.lie.injEq]at hbq;subst hbq;have:=Ext.lt h2 hE;omega
   ·rw[sN e2]at hq hbq;exact(h3 b hE).2 q y k1 hq g hbq
theorem RH.fillNil{β:Homes}{G K:Kept}{h:List Blk}{w:World}(r:RH β G K h w){i:Nat}(hi:h[i]? =some .void){n:Nat}(e:TypeId)(c:Nat->Nat->V)(hn:0<n):RH (β.set i .nil) G K (h.set i (.rows e n 0 c)) w:=by
 have hv:=r.void_home hi;have hil:i<h.length:=(List.getElem?_eq_some_iff.1 hi).1;have hib:i<β.length:=by rw[r.len];exact hil
 have hself:(β.set i .nil)[i]? =some .nil:=List.getElem?_set_self hib;have ne:∀ {j:Nat} {x:Home},(β.set i .nil)[j]? =some (.lie x)->i≠j:=fun {j x} hj e=>by subst e;rw[hself]at hj;cases hj
 refine⟨by simp[r.len],fun j kj hj=> ?_,fun a b xa xb ka kb ha hb ga gb hba hbb hxy=> ?_,fun j y kj hj g hb=> ?_,r.keep,r.gk,r.amb,fun j X tr hj=> ?_⟩
 ·by_cases e:i=j
  ·subst e;rw[List.getElem?_set_self hil]at hj;simp only[sJ]at hj;subst hj;rw[hself];exact⟨rfl,hn⟩
  ·rw[sN e]at hj;rw[sN e];by_cases hg:kj=.gone
   ·subst hg;cases(β[j]?.getD .void)<;>trivial
   exact(r.blk j kj hj).mono (Kept.le_refl _) (le_set_void hv) fun _ _=>rfl
 ·have ea:=ne hba;have eb:=ne hbb;rw[sN ea]at ha hba;rw[sN eb]at hb hbb;exact r.inj a b xa xb ka kb ha hb ga gb hba hbb hxy
 ·have e:=ne hb;rw[sN e]at hj hb;exact r.sep j y kj hj g hb
 ·by_cases e:i=j
  ·subst e;rw[List.getElem?_set_self hil]at hj;cases hj
  ·rw[sN e]at hj;obtain⟨l,E,h1,h2,hbs,h3⟩:=r.ext j X tr hj;refine⟨l,E,by rw[sN e];exact h1,h2,hbs,fun b hE=>⟨(h3 b hE).1,fun q y k1 hq g hbq=> ?_⟩⟩;have e2:=ne hbq;rw[sN e2]at hq hbq;exact(h3 b hE).2 q y k1 hq g hbq
theorem RS.refill{β β':Homes}{G K:Kept}{a:Act}{w w':World}{S:St}(r:RS β G K S a w){i:Nat}{k:Blk}(hi:S.h[i]? =some .void)(hle:β.le β')(hr:RH β' G K (S.h.set i k) w'):RS β' G K {S with h:=S.h.set i k} a w':=by
 refine⟨hr,r.size,fun j=>(r.tmp j).mono G.le_refl hle,r.marks,fun j hj=> ?_⟩;obtain⟨y,h1,h2,h3⟩:=r.mark j hj;refine⟨y,hle _ _ (by simp) h1,h2,?_⟩;show(S.h.set i k)[S.d.getD j 0]? =_;rw[sN]
 ·exact h3
 ·intro e;rw[<-e,hi]at h3;cases h3
theorem run_append_nothing{P:Program}{w:World}{t ty e:TypeId}{i:TypeInfo}(ht:P.underlying t=some (.slice e))(hi:P.info? e=some i){a a2:Option Addr}{n cap c:Nat}(hn:n<=cap):
  (Builtin.append_ #[t,t] ty #[.slice a n cap,.slice a2 0 c]).run P w=.ok (.slice a n cap) w:=by
 have hfc:(Builtin.firstCells i.size 0 (.slice a2 0 c)).run P w=.ok #[] w:=by
  cases a2 with
  |none=>exact run_firstCells_none (P:=P) w _ _ _ _
  |some ad=>exact run_firstCells_some (P:=P) w i.size 0 ad 0 c [] (by simp) (by simp)
 cases a<;>simp[Builtin.append_,run_underlying ht,Go.sizeOf,typeInfo,hi,Builtin.lenOf,hn,hfc,storeCells]
theorem run_fresh{P:Program}{t ty e:TypeId}{zs:List V}{w2 k:Nat}{c:Nat->Nat->V}(hu:P.underlying t=some (.slice e))(hT:hasT P e=true)(hsz:szOf P e=w2)(h0:0<w2)(hz:zeroCs P e=some zs)(hzl:zs.length=w2)(hby:P.bytesOf e<=32768)
  {β:Homes} {G K:Kept} {h:List Blk} {w:World} (r:RH β G K h w) {a0:Option Addr} {x':Value} (hx:Rel G β (.list w2 k c) x') (hk:k<=4294967296) (hs:∀r,r<k->∀j,j<w2->(c r j).scalar=true):
  ∃v' w',(Builtin.append_ #[t,t] ty #[.slice a0 0 0,x']).run P w=.ok v' w'/\(∀b,b<w.heap.size->w'.heap[b]? =w.heap[b]?)/\w.heap.size<=w'.heap.size/\Mild w w'/\
   ((k=0/\w'=w/\v'=.slice a0 0 0)\/(0<k/\∃g cap' cur,v'=.slice (some ⟨g,0,none⟩) k cap'/\w.heap.size<=g/\w'.heap[g]? =some (.cells cur e (0,0))/\k<=cap'/\cap'<=maxLen/\cur.size=cap'*w2/\∀r j,r<k->j<w2->Rel G [] (c r j) (cur.getD (r*w2+j) Go.undef))):=by
 have hinfo:∃inf,P.info? e=some inf:=by
  unfold hasT at hT
  cases h:P.info? e with
  |none=>simp[h]at hT
  |some q=>exact⟨q,rfl⟩
 obtain⟨inf,hinf⟩:=hinfo;have hisz:inf.size=w2:=by rw[<-hsz];simp[szOf,Program.cellsOf,hinf]
 have hiby:inf.bytes<=32768:=by simpa[Program.bytesOf,hinf]using hby
 obtain⟨z,z1,z2,z3⟩:=zeroCs_ok hz w
 have hiz:inf.zero=some z:=by
  cases hq:inf.zero with
  |none=>simp[zeroCs,hinf,hq]at hz
  |some z'=>
   have:(zeroValue e).run P w=.ok z' w:=by simp only[zeroValue,Sem.run_bind,run_typeInfo' hinf,Result.andThen_ok,hq,Sem.run_pure]
   rw[this]at z1;cases z1;rfl
 have hzs:z.cells.size=inf.size:=by rw[z2,hzl,hisz]
 have hbytes:(0+k)*inf.bytes<=140737488355328:=by
  have:(0+k)*inf.bytes<=4294967296*32768:=Nat.mul_le_mul (by omega) hiby;omega
 have hml:0+k<=maxLen:=by unfold maxLen;omega
 by_cases hk0:k=0
 ·subst hk0
  cases hx with
  |list0=>exact⟨_,w,run_append_nothing hu hinf (Nat.le_refl _),fun _ _=>rfl,Nat.le_refl _,Mild.refl _,.inl ⟨rfl,rfl,rfl⟩⟩
  |list _ _ _ _ _=>exact⟨_,w,run_append_nothing hu hinf (Nat.le_refl _),fun _ _=>rfl,Nat.le_refl _,Mild.refl _,.inl ⟨rfl,rfl,rfl⟩⟩
 ·cases hx with
  |list0=>exact absurd rfl hk0
  |list hG hsz' hcap hmn hc=>
   rename_i b off cap cs e' fz;have hb:=r.keep _ _ (r.gk _ _ hG)
   obtain⟨news,hnews⟩:∃news:List Value,news=(cs.toList.drop off).take (k*w2):=⟨_,rfl⟩
   have hln:news.length=k*w2:=by rw[hnews];simp;omega
   have get:∀q,q<k*w2->news[q]? =some (cs.getD (off+q) Go.undef):=fun q hq=>by
    rw[hnews,List.getElem?_take_of_lt hq,List.getElem?_drop,Array.getElem?_toList,aG,Array.getElem?_eq_getElem (by omega)];rfl
   have hcell:∀j u,news[j]? =some u->w.cell? ((Addr.mk b off none).add j)=some u:=fun j u hj=>by
    have hlt:j<k*w2:=by rw[<-hln];exact(List.getElem?_eq_some_iff.1 hj).1
    rw[get j hlt]at hj;cases hj;rw[addr_add,cell_of_heap hb _ (by omega)]
   have hrel:∀r j,r<k->j<w2->Rel G [] (c r j) (news.getD (r*w2+j) Go.undef):=fun r j hr hj=>by
    have hlt:r*w2+j<k*w2:=by
     have:(r+1)*w2<=k*w2:=Nat.mul_le_mul_right _ (by omega);rw[Nat.succ_mul]at this;omega
    rw[gE,get _ hlt];exact hc r j hr hj
   have hone:∀u∈news,u.oneCell'=true:=fun u hu'=>by
    obtain⟨q,hq,rfl⟩:=List.mem_iff_getElem.1 hu';have hmod:q%w2<w2:=Nat.mod_lt _ h0;have hdiv:q/w2<k:=Nat.div_lt_of_lt_mul (by rw[Nat.mul_comm,<-hln];exact hq);have hr:=hrel (q/w2) (q%w2) hdiv hmod;rw[Nat.div_add_mod']at hr;have:=(hr.scalar (hs _ hdiv _ hmod)).2;rw[gE,List.getElem?_eq_getElem hq]at this;exact this
   have fin:∀ {v':Value} {w':World},w'.ownsRow w.heap.size e w2 v' (0+k) ([]++news)->∃g cap' cur,v'=.slice (some ⟨g,0,none⟩) k cap'/\w.heap.size<=g/\w'.heap[g]? =some (.cells cur e (0,0))/\k<=cap'/\cap'<=maxLen/\cur.size=cap'*w2/\∀r j,r<k->j<w2->Rel G [] (c r j) (cur.getD (r*w2+j) Go.undef):=fun {v' w'} how=>by
    obtain⟨ol,oc⟩:=how;rcases oc with⟨_,hzero⟩|⟨g,cap',cur,rfl,hge,hcur,hnc,hcm,hcsz,htake⟩
    ·omega
    ·rw[Nat.zero_add]at hnc htake⊢;refine⟨g,cap',cur,rfl,hge,hcur,hnc,hcm,hcsz,fun r j hr hj=> ?_⟩
     have hlt:r*w2+j<k*w2:=by
      have:(r+1)*w2<=k*w2:=Nat.mul_le_mul_right _ (by omega);rw[Nat.succ_mul]at this;omega
     have:cur.getD (r*w2+j) Go.undef=news.getD (r*w2+j) Go.undef:=by
      have e2:cur.toList.take (k*w2)=news:=by simpa using htake
      rw[<-e2,gE,List.getElem?_take_of_lt hlt,Array.getElem?_toList,aG]
     rw[this];exact hrel r j hr hj
   cases a0 with
   |none=>
    obtain⟨v',w',q1,q2,q3,-⟩:=run_append_own (P:=P) w w.heap.size t ty e inf z w2 inf.bytes hu hinf hiz hisz rfl (by rw[hzs,hisz]) h0 (.slice none 0 0) 0 [] (World.ownsRow_nil w _ e w2) ⟨b,off,none⟩ k cap news hln hcell hone hml hbytes (Nat.le_refl _);exact⟨v',w',q1,fun b' hb'=>q3.block b' hb' (show¬some b'=none by simp),q3.size,⟨q3.os,q3.output,q3.tape,(run_drew _ q1).drawn⟩,.inr ⟨by omega,fin q2⟩⟩
   |some b0=>
    obtain⟨v',w',q1,q2,q3⟩:=run_append_arg_grows (P:=P) w t ty e inf z w2 inf.bytes hu hinf hiz hisz rfl (by rw[hzs,hisz]) h0 b0 0 0 [] (by simp) (by simp) ⟨b,off,none⟩ k cap news hln hcell (by omega) hml hbytes;exact⟨v',w',q1,fun b' hb'=>q3.block b' hb' (show¬some b'=none by simp),q3.size,⟨q3.os,q3.output,q3.tape,(run_drew _ q1).drawn⟩,.inr ⟨by omega,fin q2⟩⟩
theorem Snap.app{h:List Blk}{v u:V}(l:List Blk)(s:Snap h v u):Snap (h++l) v u:=by
 have app:∀ {i:Nat} {k:Blk},h[i]? =some k->(h++l)[i]? =some k:=fun {i k} hi=>by
  rw[aL (List.getElem?_eq_some_iff.1 hi).1];exact hi
 induction s with
 |imm hv=>exact .imm hv
 |undef v=>exact .undef v
 |row hi hn=>exact .row (app hi) hn
 |ref hi hn hc ih=>exact .ref (app hi) hn ih
 |refrow hi hr hn hc=>exact .refrow (app hi) hr hn hc
 |agg hl hc ih=>exact .agg hl ih
 |tuple hl hc ih=>exact .tuple hl ih
 |func hf hl hc hc' ih ih'=>exact .func hf hl ih ih'
 |iface hv ih=>exact .iface ih
 |sub hi hn hc=>exact .sub (app hi) hn hc
 |subrow hi hr hn hc=>exact .subrow (app hi) hr hn hc
 |subcells hi hn hc ih=>exact .subcells (app hi) hn ih
 |weak hv hl ih=>exact .weak ih hl
section
variable {P:Program} {ops:Array Oper} {m:Nat} {rs:List FR} {S:St}
theorem look_eq(hf:frontOK ops m=true){t0:List V}{l:Nat->Bool}{i:Nat}(hi:i<m){o:Oper}(ho:ops[i]? =some o)(hr:∀e∈o.after,Region.binds .any e=true->l e.on=true):
  ∀x∈o.looksAt ops,(tAt ops m rs l t0).getD x .undef=(tAt ops m rs (bef i) t0).getD x .undef:=by
 intro x hx;rcases Nat.lt_or_ge x t0.length with hlt|hge
 ·rw[tAt_getD _ _ hlt,tAt_getD _ _ hlt]
  have:who ops m l x=who ops m (bef i) x:=by
   by_cases ex:∃j,j<m/\dstOf ops j=some x
   ·obtain⟨j,hj,hd⟩:=ex;obtain⟨q1,e,he,q2,q3⟩:=front_look hf hi hj ho hx hd;rw[who_some hf hj (by have:=hr e he q3;rwa[q2]at this) hd,who_some hf hj (by simp[bef,q1]) hd]
   ·have hn:∀l,who ops m l x=none:=fun l=>who_none.2 fun j hj _ hd=>ex ⟨j,hj,hd⟩;rw[hn,hn]
  rw[this]
 ·rw[gE,List.getElem?_eq_none (by rw[tAt_len];exact hge),gE,List.getElem?_eq_none (by rw[tAt_len];exact hge)]
theorem eval_eq{S S':St}{o:Oper}(h:∀x∈o.looksAt ops,S.t.getD x .undef=S'.t.getD x .undef):(∀x∈o.op.operands,S.eval x=S'.eval x)/\wantedV ops S o=wantedV ops S' o:=by
 constructor
 ·intro x hx
  cases x with
  |tmp t=>exact h t (by simp only[Oper.looksAt,List.mem_append,List.mem_filterMap];exact .inl ⟨.tmp t,by simpa using hx,rfl⟩)
  |const v=>rfl
  |global g=>rfl
  |func f=>rfl
 ·unfold wantedV
  cases hg:o.guard with
  |none=>rfl
  |some g=>
   obtain⟨j,want⟩:=g;simp only
   cases hd:(ops[j]?).bind (·.dst)with
   |none=>rfl
   |some d=>simp only;rw[h d (by simp[Oper.looksAt,hg,hd])]
def invL(ops:Array Oper)(m:Nat)(rs:List FR)(S:St)(l:Nat->Bool):St:={S with t:=tAt ops m rs l S.t,h:=S.h++bl rs l m}
theorem inv_put(hf:frontOK ops m=true){l l':Nat->Bool}{i:Nat}(hi:i<m)(hli:l i=false)(hl':∀j,j≠i->l' j=l j)(hi':l' i=true){o:Oper}(ho:ops[i]? =some o):
  invL ops m rs S l'=St.put {invL ops m rs S l with h:=S.h++(match(rs.getD i fr0).2.2.1 with|some b=>(bl rs l m).set (rank rs i) b|none=>bl rs l m)} o.dst (rs.getD i fr0).2.1:=by
 have h1:=tAt_set (rs:=rs) (t0:=S.t) hf (l:=l) (l':=l') hi hli fun j _=>by
  by_cases e:j=i
  ·subst e;simp[hi']
  ·rw[hl' j e];simp[e]
 have h2:=bl_set (rs:=rs) hl' hi' m;rw[if_pos hi]at h2;have hd:dstOf ops i=o.dst:=by simp[dstOf,ho]
 rw[hd]at h1;unfold invL;rw[h1,h2];cases o.dst<;>rfl
theorem RS.fill{β:Homes}{G K:Kept}{a:Act}{w:World}(r:RS β G K S a w){o:Obj}{k:Blk}{x:Home}{i:Nat}(hi:S.h[i]? =some .void)(hx:x.b=w.heap.size)
  (hk:BlkOK G (β.set i (.lie x)) (w.alloc o) k (.lie x)):RS (β.set i (.lie x)) G K {S with h:=S.h.set i k} a (w.alloc o):=by
 have hle:=le_set_void (x:=.lie x) (r.h.void_home hi);refine⟨r.h.fill hi hx hk,r.size,fun j=>(r.tmp j).mono G.le_refl hle,r.marks,fun j hj=> ?_⟩;obtain⟨y,h1,h2,h3⟩:=r.mark j hj;refine⟨y,hle _ _ (by simp) h1,h2,?_⟩;show(S.h.set i k)[S.d.getD j 0]? =_;rw[sN]
 ·exact h3
 ·intro e;rw[<-e,hi]at h3;cases h3
def FrCalls(P:Program)(h:List Blk)(rs:List FR)(cr:Nat->V):Prop:=
 ∀i g args,(rs.getD i fr0).2.2.2=some (g,args)->∃us,args.length=us.length/\(∀j,j<us.length->Snap h (args.getD j .undef) (us.getD j .undef))/\PCalls P g us (·=cr i)/\
  (us=args/\underL 0 us=true\/(cr i).plain=true)
theorem front_step{ro:Env}{cr:Nat->V}(hf:frontOK ops m=true)(hfact:∀i,i<m->FrFact P ops S.h cr m S rs i)(hob:∀i,i<m->(rs.getD i fr0).1=true)(hc:FrCalls P S.h rs cr)
  {l l':Nat->Bool} {i:Nat} (hi:i<m) (hli:l i=false) (hl':∀j,j≠i->l' j=l j) (hi':l' i=true) (hr:∀o,ops[i]? =some o->∀e∈o.after,Region.binds .any e=true->l e.on=true):
  AStep P ro ops i (invL ops m rs S l) (invL ops m rs S l'):=by
 obtain⟨o,ho,hcase⟩:=hfact i hi;have ev:=eval_eq (S:=invL ops m rs S l) (S':=atI ops m rs S i) (look_eq hf (t0:=S.t) hi ho (hr o ho));rw[inv_put hf hi hli hl' hi' ho];rcases hcase with⟨hw,he⟩|⟨hw,he⟩
 ·rw[he];refine AStep.of_ops (AOps.skip ho (ev.2.trans hw) (AOps.nil ⟨rfl,?_⟩));rfl
 ·have hw':=ev.2.trans hw;have hobi:=hob i hi;have hci:=hc i;have hget:=fun b hb=>bl_get (rs:=rs) (l:=l) hi (b:=b) hb;generalize hrr:rs.getD i fr0=r at he hobi hci hget⊢
  have hvoid:∀b,r.2.2.1=some b->(invL ops m rs S l).h[S.h.length+rank rs i]? =some .void:=fun b hb=>by
   show(S.h++bl rs l m)[S.h.length+rank rs i]? =_;rw[List.getElem?_append_right (by omega),show S.h.length+rank rs i-S.h.length=rank rs i by omega,hget b hb,hli];rfl
  have hset:∀b,(invL ops m rs S l).h.set (S.h.length+rank rs i) b=S.h++(bl rs l m).set (rank rs i) b:=fun b=>by
   show(S.h++bl rs l m).set _ _=_;rw[List.set_append_right _ _ (by omega),show S.h.length+rank rs i-S.h.length=rank rs i by omega]
  have hnd:∀c,o.op≠ .defer c:=fun c hcc=>by
   simp only[frOp,hcc,isRead,if_true]at he;simp[evalOp]at he
  unfold frOp at he;split at he
  ·
   rename_i t hop;split at he
   ·rename_i zs hz;simp only[sJ]at he;subst he;refine AStep.of_val ho hw' hnd fun β G K a w q=> ?_;obtain⟨z,z1,z2,z3⟩:=zeroCs_ok hz w;have q1:=q.fill (o:=.cells z.cells t) (k:=(zeroBlk P t zs).1) (x:=⟨w.heap.size,(zeroBlk P t zs).2.1,(zeroBlk P t zs).2.2⟩) (hvoid _ rfl) rfl (zeroBlk_ok w z2 z3);rw[hset]at q1;have hle:=le_set_void (x:=.lie ⟨w.heap.size,(zeroBlk P t zs).2.1,(zeroBlk P t zs).2.2⟩) (q.h.void_home (hvoid _ rfl))
    refine⟨.pointer (some ⟨w.heap.size,0,none⟩),_,_,G,K,?_,hle.low _,G.ext_refl K,K.le_refl,q1,?_⟩
    ·simp only[execOp,hop,Instr.alloc,Sem.run_bind,z1,Result.andThen_ok,newVar,newRow,run_newObj,Sem.run_pure,World.alloc_eq]
    ·have hlt:S.h.length+rank rs i<β.length:=by rw[q.h.len];exact(List.getElem?_eq_some_iff.1 (hvoid _ rfl)).1
     have:=Rel.ref (G:=G) (r:=0) (off:=0) (List.getElem?_set_self (a:=Hm.lie ⟨w.heap.size,(zeroBlk P t zs).2.1,(zeroBlk P t zs).2.2⟩) hlt);simp only[Nat.zero_mul,Nat.add_zero]at this;exact this
   ·cases he
  ·
   rename_i t x hop;split at he
   ·rename_i vs hz;simp only[sJ]at he;subst he;refine AStep.of_val ho hw' hnd fun β G K a w q=> ?_;have hx:=q.eval x;rw[ev.1 x (by rw[hop];simp[Op.operands])]at hx;obtain⟨c1,c2,c3,c4⟩:=rel_cellsOf hx hz;generalize hnb:newBlk P t ((atI ops m rs S i).eval x) vs=nb at hvoid hset⊢
    have hle:=le_set_void (x:=.lie ⟨w.heap.size,nb.2.1,nb.2.2⟩) (q.h.void_home (hvoid _ rfl));have q1:=q.fill (o:=.cells (a.eval x).cells t) (k:=nb.1) (x:=⟨w.heap.size,nb.2.1,nb.2.2⟩) (hvoid _ rfl) rfl (by subst hnb;exact newBlk_ok w hx hz hle);rw[hset]at q1;refine⟨.pointer (some ⟨w.heap.size,0,none⟩),_,_,G,K,?_,hle.low _,G.ext_refl K,K.le_refl,q1,?_⟩
    ·simp only[execOp,hop,Instr.box,Sem.run_bind,newVar,newRow,run_newObj,Result.andThen_ok,Sem.run_pure,World.alloc_eq]
    ·have hlt:S.h.length+rank rs i<β.length:=by rw[q.h.len];exact(List.getElem?_eq_some_iff.1 (hvoid _ rfl)).1
     have:=Rel.ref (G:=G) (r:=0) (off:=0) (List.getElem?_set_self (a:=Hm.lie ⟨w.heap.size,nb.2.1,nb.2.2⟩) hlt);simp only[Nat.zero_mul,Nat.add_zero]at this;exact this
   ·cases he
  ·
   rename_i t len parts hop;split at he
   ·rename_i e hu;split at he
    ·rename_i hsz;split at he
     ·rename_i zs hz;split at he
      ·rename_i hzl;split at he
       ·rename_i cs hb;split at he
        ·rename_i himm;simp only[sJ]at he;subst he;refine AStep.of_val ho hw' hnd fun β G K a w q=> ?_;have hm:mapV parts (atI ops m rs S i).eval=mapV parts (invL ops m rs S l).eval:=mapV_congr fun x hx=>(ev.1 x (by rw[hop];simpa[Op.operands]using hx)).symm;rw[hm]at hb;obtain⟨ra,f1,f2,f3⟩:=buildSlice_run (G:=G) q.eval hu hsz.1 hsz.2.1 hsz.2.2 hz hzl hb himm o hop
         have hle:G.le ⟨fun b=>if b=w.heap.size then some (.cells ra e)else G b,G.amb⟩:=⟨fun b ob hob=>by
          by_cases hbs:b=w.heap.size
          ·have:=q.h.keep _ _ (q.h.gk _ _ hob);subst hbs;have:=(Array.getElem?_eq_some_iff.1 this).1;omega
          ·simpa[hbs]using hob,rfl⟩
         obtain⟨K',k1,k2,k3⟩:=q.h.kept (G':=⟨fun b=>if b=w.heap.size then some (.cells ra e)else G b,G.amb⟩) (w':=w.alloc (.cells ra e)) hle
          ⟨fun b ob hob=>by
           by_cases hbs:b=w.heap.size
           ·simp only[hbs,if_true]at hob;rw[hbs,heap_alloc_new,hob]
           ·simp only[hbs,if_false]at hob;have hk:=q.h.keep _ _ (q.h.gk _ _ hob)
            rw[heap_alloc_lt _ _ (Array.getElem?_eq_some_iff.1 hk).1];exact hk,q.h.gamb.mild (Mild.alloc w _)⟩
          (fun b ob hob=>by
           by_cases hbs:b=w.heap.size
           ·right;omega
           ·simp only[hbs,if_false]at hob;exact .inl hob)
          (fun b hb=>heap_alloc_lt _ _ hb) (by simp) (Mild.alloc w _)
         refine⟨_,_,β,_,K',f1,Homes.low_refl _ _,k2,k1,⟨k3,q.size,fun j=>(q.tmp j).mono hle (Homes.le_refl _),q.marks,q.mark⟩,?_⟩;by_cases h0:len=0
         ·simp only[h0,if_true];exact .nils
         ·simp only[h0,if_false];have hlm:len<=16777216:=Nat.le_trans (Nat.le_mul_of_pos_right len hsz.2.1) hsz.2.2;refine .list (cs:=ra) (e:=e) (fz:=(0,0)) (by simp) (by omega) (Nat.le_refl _) (by unfold maxn;omega) fun p j hp _=> ?_;rw[Nat.zero_add,litC_eq hp];exact(f3 _).mono hle (Homes.le_refl _)
        ·cases he
       ·cases he
      ·cases he
     ·cases he
    ·cases he
   ·cases he
  ·
   rename_i f args ts hop;split at he
   ·rename_i g first caps hfn
    simp only[sJ]at he;subst he;obtain⟨us,u1,u2,u3,u4⟩:=hci _ _ rfl;have hfe:(invL ops m rs S l).eval f=(atI ops m rs S i).eval f:=ev.1 f (by rw[hop];simp[Op.operands,Call.operands])
    have hce:callArgs (invL ops m rs S l) first caps args=callArgs (atI ops m rs S i) first caps args:=by
     unfold callArgs;congr 2
     exact List.map_congr_left fun x hx=>ev.1 x (by rw[hop];simp[Op.operands,Call.operands]at hx⊢;right;exact hx)
    refine AStep.of_ops (AOps.call_snap (post:=(·=cr i)) ho hw' hop (by rw[hfe];exact hfn) (by rw[hce];exact u1) (fun j hj=>by rw[hce];exact(u2 j hj).app _) u3 ?_ fun v hv=>AOps.nil ⟨rfl,?_⟩)
    ·rcases u4 with⟨h1,h2⟩|h1
     ·exact .inl ⟨by rw[hce];exact h1,h2⟩
     ·exact .inr fun v hv=>by subst hv;exact h1
    ·subst hv;rfl
   ·cases he
  ·
   rename_i s x t t' hop;split at he
   case h_2=>cases he
   rename_i e wd k c hu hsv hxv;split at he
   case h_2=>cases he
   rename_i zs hz;split at he
   case isFalse=>cases he
   rename_i hcond;obtain⟨rfl,hT,hsz,h0,hzl,hby⟩:=hcond;simp only[sJ]at he;subst he;simp only[Bool.and_eq_true,decide_eq_true_eq,List.all_eq_true,List.mem_range]at hobi;refine AStep.of_val ho hw' hnd fun β G K a w q=> ?_;have hs:=q.eval s;rw[ev.1 s (by rw[hop];simp[Op.operands,Call.operands]),hsv]at hs;have hx:=q.eval x;rw[ev.1 x (by rw[hop];simp[Op.operands,Call.operands]),hxv]at hx
   have hvd:=hvoid _ rfl;have hlt:S.h.length+rank rs i<β.length:=by rw[q.h.len];exact(List.getElem?_eq_some_iff.1 hvd).1
   generalize hsx:a.eval s=sv at hs
   cases hs with
   |nils=>
    rename_i a0;obtain⟨v',w',r1,r2,r3,r5,r4⟩:=run_fresh (ty:=o.type) hu hT hsz h0 hz hzl hby q.h (a0:=a0) hx hobi.1 hobi.2
    have hrun:(execOp a.eval o).run P w=.ok (.value v') w':=by
     simp only[execOp,hop,resolve,Sem.run_bind,Sem.run_pure,Result.andThen_ok,invoke,builtin,List.map_toArray,List.map_cons,List.map_nil,hsx,r1]
    rcases r4 with⟨rfl,rfl,rfl⟩|⟨hpos,g,cap',cur,rfl,hge,hcur,hnc,hcm,hcsz,hrel⟩
    ·have hle:=le_set_void (x:=.nil) (q.h.void_home hvd);have q1:=q.refill hvd hle (q.h.fillNil hvd e c h0);rw[hset]at q1;exact⟨_,_,_,G,K,hrun,hle.low _,G.ext_refl K,K.le_refl,q1,.row0 (List.getElem?_set_self hlt)⟩
    ·have hle:=le_set_void (x:=.lie ⟨g,wd,cap'⟩) (q.h.void_home hvd);have hmn:k<=maxn:=by have:=hobi.1;unfold maxn;omega
     have hg':g<w'.heap.size:=(Array.getElem?_eq_some_iff.1 hcur).1;have q1:=q.refill hvd hle (q.h.fillG r2 r3 (k:=.rows e wd k c) (x:=⟨g,wd,cap'⟩) hvd hge hg' ⟨rfl,h0,hcm,cur,hcur,hcsz,hnc,hmn,hrel⟩ r5);rw[hset]at q1;exact⟨_,_,_,G,K,hrun,hle.low _,G.ext_refl K,K.le_refl,q1,.row (List.getElem?_set_self hlt) hnc (Nat.le_refl _) hmn⟩
  ·
   split at he
   ·rename_i hread;split at he
    ·rename_i b v h' hev;simp only[sJ]at he;subst he;simp only at hobi;subst hobi;have h1:=(evalOp_congr (P:=P) (h:=S.h) (ρ:=(invL ops m rs S l).eval) (ρ':=(atI ops m rs S i).eval) ev.1 hread).trans hev;have h2:=evalOp_app hread (bl rs l m) h1;refine AStep.of_ops (AOps.step ho hw' h2 (fun _ _=>rfl) (AOps.nil ⟨rfl,rfl⟩))
    ·cases he
   ·cases he
end
theorem AWP.region_front{P:Program}{ro:Env}{id:Nat}{ops:Array Oper}{S:St}{Q:Exit->St->Prop}(m:Nat)(rs:List FR)(cr:Nat->V)(ov:List (Nat × Bool))(hmx:P.follows .mixedOrders=true)(hback:backOK ops=true)(hm:m<=ops.size)
  (ht:((List.range (ops.size-m)).all fun j=>tailAt ops (m+j))=true) (hf:frontOK ops m=true) (hd:∀j,j∈S.d->∃x,S.h[j]? =some (.obj x)) (hr:frRun P ops S.h cr ov (List.range m) 0 S=some rs)
  (hob:rs.all (·.1)=true) (hc:FrCalls P S.h rs cr)
  (rest:AOps P ro ops (List.range' m (ops.size-m)) {S with t:=tAt ops m rs (fun _=>true) S.t,h:=S.h++bl rs (fun _=>true) m} Q):AWP P ro (.region id ops true) S Q:=by
 obtain⟨hlen,hfact⟩:=frRun_facts (S:=S) hf m 0 [] rs (by omega) rfl (by
  rw[tAt_none (fun j _=>by simp[bef]),<-List.range_eq_range']
  exact hr)
 simp only[List.nil_append]at hfact
 have hob':∀i,i<m->(rs.getD i fr0).1=true:=fun i hi=>by
  rw[List.all_eq_true]at hob;have hlt:i<rs.length:=by omega
  rw[gE,List.getElem?_eq_getElem hlt];exact hob _ (List.getElem_mem hlt)
 have blcongr:∀(l l':Nat->Bool) k,(∀j,j<k->l j=l' j)->bl rs l k=bl rs l' k:=fun l l' k=>by
  induction k with
  |zero=>intro _;rfl
  |succ k ih=>intro h;simp only[bl,h k (by omega),ih fun j hj=>h j (by omega)]
 refine AWP.region_any m hmx hback hm (fun j h1 h2=> ?_) (fun l=>invL ops m rs S fun j=>l.getD j false) (fun β G K a w r=> ?_) (fun l i hl hi hli htl hrd=> ?_) fun l hl h1 h2=> ?_
 ·rw[List.all_eq_true]at ht;have:=ht (j-m) (List.mem_range.2 (by omega));rwa[show m+(j-m)=j by omega]at this
 ·have hz:∀j,(Array.replicate ops.size false).getD j false=false:=fun j=>by
   simp only[aG,Array.getElem?_replicate];split<;>rfl
  refine⟨β++List.replicate (rank rs m) Hm.void,Homes.le_append _ _,?_⟩
  have e:invL ops m rs S (fun j=>(Array.replicate ops.size false).getD j false)={S with h:=S.h++List.replicate (rank rs m) .void}:=by
   unfold invL;rw[tAt_none (fun j _=>hz j),bl_none hz]
  rw[e];refine⟨r.h.reserve _,r.size,fun j=>(r.tmp j).mono G.le_refl (Homes.le_append _ _),r.marks,fun j hj=> ?_⟩;obtain⟨y,y1,y2,y3⟩:=r.mark j hj;refine⟨y,Homes.le_append _ _ _ _ (by simp) y1,y2,?_⟩;show(S.h++_)[S.d.getD j 0]? =_;rw[aL (List.getElem?_eq_some_iff.1 y3).1];exact y3
 ·refine front_step hf (fun i hi=>(hfact i (Nat.zero_le _) hi).fact (hob' i hi)) hob' hc hi hli (fun j hj=>getD_set_ne false (Ne.symm hj)) (by simp[show i<l.size by omega]) fun o ho e he hb=> ?_;rw[mem_ready]at hrd;obtain⟨_,o',ho',hall⟩:=hrd;rw[ho]at ho';cases ho';exact hall e he hb
 ·have e:invL ops m rs S (fun j=>l.getD j false)={S with t:=tAt ops m rs (fun _=>true) S.t,h:=S.h++bl rs (fun _=>true) m}:=by
   unfold invL;rw[tAt_congr (rs':=rs) (l':=fun _=>true) S.t (fun j hj=>h1 j hj) fun _ _ _=>rfl,blcongr _ (fun _=>true) m fun j hj=>h1 j hj]
  rw[e];exact rest
def IWP(P:Program)(ro:Env)(K:List Item)(S:St)(Q:Exit->St->Prop)(L:List Item->St->Prop):Prop:=
 ∀β G Kp a w,RS β G Kp S a w->∀(b:Frame) (k:List Item) (cs:List Frame),b.roundOf=(wide ro).round->(wide ro).fn b.fn->(wide ro).room (cs.length+1+0)->
  (∃e a' w',Post ro.m Q β G Kp e a' w'/\ArrivesIn (Machine.fenced P (wide ro)) P (lone (b.atR a (K++k)) cs w) b k cs e a' w')\/
  (∃K' a' w',Post ro.m (fun _ S'=>L K' S') β G Kp .normal a' w'/\StepsIn (Machine.fenced P (wide ro)) P (lone (b.atR a (K++k)) cs w) (lone (b.atR a' (K'++k)) cs w'))
def IX(P:Program)(ro:Env)(K:List Item)(Q:Exit->St->Prop)(L:List Item->St->Prop):Exit->St->Prop
 |.normal,S=>IWP P ro K S Q L
 |.exit id,S=>match exitTo id K with|some K'=>IWP P ro K' S Q L|none=>Q (.exit id) S
 |.ret,S=>Q .ret S
 |_,_=>False
theorem exitTo_app_some{id:Nat}{k:List Item}:∀ {K K':List Item},exitTo id K=some K'->exitTo id (K++k)=some (K'++k)
 |[],_,h=>by simp[exitTo]at h
 |x::K,K',h=>by
  cases x with
  |inBlock id'=>
   simp only[List.cons_append,exitTo]at h⊢;split at h
   ·rename_i hc;rw[if_pos hc];cases h;rfl
   ·rename_i hc;rw[if_neg hc];exact exitTo_app_some h
  |_=>simp only[List.cons_append,exitTo]at h⊢;exact exitTo_app_some h
theorem exitTo_app_none{id:Nat}{k:List Item}:∀ {K:List Item},exitTo id K=none->exitTo id (K++k)=exitTo id k
 |[],_=>rfl
 |x::K,h=>by
  cases x with
  |inBlock id'=>
   simp only[List.cons_append,exitTo]at h⊢;split at h
   ·cases h
   ·rename_i hc;rw[if_neg hc];exact exitTo_app_none h
  |_=>simp only[List.cons_append,exitTo]at h⊢;exact exitTo_app_none h
section
variable {P:Program} {ro:Env} {K:List Item} {S:St} {Q:Exit->St->Prop} {L:List Item->St->Prop}
theorem IWP.leaf(h:L K S):IWP P ro K S Q L:=fun β G Kp a w r _ _ _ _ _ _=>.inr ⟨K,a,w,⟨S,β,G,Kp,Homes.low_refl _ _,G.ext_refl Kp,Kp.le_refl,r,h⟩,.refl _⟩
theorem IWP.nil(h:Q .normal S):IWP P ro [] S Q L:=fun β G Kp a w r _ _ _ _ _ _=>.inl ⟨.normal,a,w,⟨S,β,G,Kp,Homes.low_refl _ _,G.ext_refl Kp,Kp.le_refl,r,h⟩,.refl _⟩
theorem IX.go{k:List Item}{β:Homes}{G Kp:Kept}{b:Frame}{cs:List Frame}{m0:Machine}(hro:b.roundOf=(wide ro).round)(hb:(wide ro).fn b.fn)(hr:(wide ro).room (cs.length+1+0)){e:Exit}{a':Act}{w':World}
  (hp:Post ro.m (IX P ro K Q L) β G Kp e a' w') (harr:ArrivesIn (Machine.fenced P (wide ro)) P m0 b (K++k) cs e a' w'):
  (∃e a' w',Post ro.m Q β G Kp e a' w'/\ArrivesIn (Machine.fenced P (wide ro)) P m0 b k cs e a' w')\/
  (∃K' a' w',Post ro.m (fun _ S'=>L K' S') β G Kp .normal a' w'/\StepsIn (Machine.fenced P (wide ro)) P m0 (lone (b.atR a' (K'++k)) cs w')):=by
 obtain⟨S',β',G',K',h0,h1,h2,r',q⟩:=hp
 have cont:∀ {K2:List Item},StepsIn (Machine.fenced P (wide ro)) P m0 (lone (b.atR a' (K2++k)) cs w')->IWP P ro K2 S' Q L->
   (∃e a' w',Post ro.m Q β G Kp e a' w'/\ArrivesIn (Machine.fenced P (wide ro)) P m0 b k cs e a' w')\/
   (∃K' a' w',Post ro.m (fun _ S'=>L K' S') β G Kp .normal a' w'/\StepsIn (Machine.fenced P (wide ro)) P m0 (lone (b.atR a' (K'++k)) cs w')):=fun {K2} hs q=>by
  rcases q β' G' K' a' w' r' b k cs hro hb hr with⟨e2,a2,w2,hp,harr2⟩|⟨K3,a2,w2,hp,hs2⟩
  ·exact .inl ⟨e2,a2,w2,hp.up h0 h1 h2,.of_steps hs harr2⟩
  ·exact .inr ⟨K3,a2,w2,hp.up h0 h1 h2,hs.trans hs2⟩
 cases e with
 |normal=>exact cont harr q
 |exit id=>
  simp only[IX]at q;split at q
  ·rename_i K2 hK;exact cont (harr.1 _ (exitTo_app_some hK)) q
  ·rename_i hK;have e:=exitTo_app_none (k:=k) hK;exact .inl ⟨_,a',w',⟨S',β',G',K',h0,h1,h2,r',q⟩,fun k' hk=>harr.1 k' (e.trans hk),fun hr' hk=>harr.2 hr' (e.trans hk)⟩
 |ret=>exact .inl ⟨_,a',w',⟨S',β',G',K',h0,h1,h2,r',q⟩,harr⟩
 |_=>exact q.elim
theorem IWP.code{c:Code}(h:AWP P ro c S (IX P ro K Q L)):IWP P ro (.code c::K) S Q L:=fun β G Kp a w r b k cs hro hb hr=>by
 obtain⟨e,a',w',hp,harr⟩:=h β G Kp a w r b (K++k) cs hro hb hr;exact IX.go hro hb hr hp harr
theorem AWP.of_iwp{c:Code}(h:IWP P ro [.code c] S Q fun _ _=>False):AWP P ro c S Q:=fun β G Kp a w r b k cs hro hb hr=>by
 rcases h β G Kp a w r b k cs hro hb hr with h|⟨K',a',w',⟨S',β',G',K2,h0,h1,h2,r',q⟩,_⟩
 ·exact h
 ·exact q.elim
theorem IWP.bind{L':List Item->St->Prop}(h:IWP P ro K S Q L)(hL:∀K' S',L K' S'->IWP P ro K' S' Q L'):IWP P ro K S Q L':=fun β G Kp a w r b k cs hro hb hr=>by
 rcases h β G Kp a w r b k cs hro hb hr with h|⟨K',a',w',⟨S',β',G',K2,h0,h1,h2,r',q⟩,hs⟩
 ·exact .inl h
 ·rcases hL K' S' q β' G' K2 a' w' r' b k cs hro hb hr with⟨e2,a2,w2,hp,harr2⟩|⟨K3,a2,w2,hp,hs2⟩
  ·exact .inl ⟨e2,a2,w2,hp.up h0 h1 h2,.of_steps hs harr2⟩
  ·exact .inr ⟨K3,a2,w2,hp.up h0 h1 h2,hs.trans hs2⟩
theorem IWP.steps{K':List Item} (hs:∀(b:Frame) (a:Act) (k:List Item) (cs:List Frame) (w:World),(wide ro).fn b.fn->(wide ro).room (cs.length+1+0)->
  StepsIn (Machine.fenced P (wide ro)) P (lone (b.atR a (K++k)) cs w) (lone (b.atR a (K'++k)) cs w)) (h:IWP P ro K' S Q L):IWP P ro K S Q L:=fun β G Kp a w r b k cs hro hb hr=>by
 rcases h β G Kp a w r b k cs hro hb hr with⟨e2,a2,w2,hp,harr2⟩|⟨K3,a2,w2,hp,hs2⟩
 ·exact .inl ⟨e2,a2,w2,hp,.of_steps (hs b a k cs w hb hr) harr2⟩
 ·exact .inr ⟨K3,a2,w2,hp,(hs b a k cs w hb hr).trans hs2⟩
theorem IWP.step{K':List Item}(hs:∀(b:Frame) (a:Act) (k:List Item) (cs:List Frame) (w:World),Go.step P (lone (b.atR a (K++k)) cs w)=.next (lone (b.atR a (K'++k)) cs w))
  (hc:∀(b:Frame) (a:Act) (k:List Item) (cs:List Frame) (w:World),(wide ro).fn b.fn->(wide ro).room (cs.length+1+0)->(lone (b.atR a (K++k)) cs w).fenced P (wide ro)) (h:IWP P ro K' S Q L):IWP P ro K S Q L:=
 h.steps fun b a k cs w hb hr=>.one (hc b a k cs w hb hr) (hs b a k cs w)
theorem IWP.seq{x y:Code}(h:IWP P ro (.code x::.code y::K) S Q L):IWP P ro (.code (.seq x y)::K) S Q L:=h.step (fun _ _ _ _ _=>stepR_seq) fun _ _ _ _ _ hb hr=>fenced_calm hb hr rfl
theorem IWP.skip(h:IWP P ro K S Q L):IWP P ro (.code .skip::K) S Q L:=h.step (fun _ _ _ _ _=>stepR_skip) fun _ _ _ _ _ hb hr=>fenced_calm hb hr rfl
theorem IWP.label{l:Nat}(h:IWP P ro K S Q L):IWP P ro (.code (.label l)::K) S Q L:=h.step (fun _ _ _ _ _=>stepR_label) fun _ _ _ _ _ hb hr=>fenced_calm hb hr rfl
theorem IWP.block{id:Nat}{c:Code}(h:IWP P ro (.code c::.inBlock id::K) S Q L):IWP P ro (.code (.block id c)::K) S Q L:=h.step (fun _ _ _ _ _=>stepR_block) fun _ _ _ _ _ hb hr=>fenced_calm hb hr rfl
theorem IWP.inBlock{id:Nat}(h:IWP P ro K S Q L):IWP P ro (.inBlock id::K) S Q L:=h.step (fun _ _ _ _ _=>stepR_inBlock) fun _ _ _ _ _ hb hr=>fenced_calm hb hr rfl
theorem IWP.loop{c:Code}(h:IWP P ro (.code c::.inLoop c::K) S Q L):IWP P ro (.code (.loop c)::K) S Q L:=h.step (fun _ _ _ _ _=>stepR_loop) fun _ _ _ _ _ hb hr=>fenced_calm hb hr rfl
theorem IWP.inLoop{c:Code}(h:IWP P ro (.code c::.inLoop c::K) S Q L):IWP P ro (.inLoop c::K) S Q L:=h.step (fun _ _ _ _ _=>stepR_inLoop) fun _ _ _ _ _ hb hr=>fenced_calm hb hr rfl
theorem stepR_scope{b:Frame}{a:Act}{k:List Item}{cs:List Frame}{w:World}{c:Code}:Go.step P (lone (b.atR a (.code (.scope c)::k)) cs w)=.next (lone (b.atR a (.code c::.inScope c::k)) cs w):=by
 cases hb:b.roundOf<;>simp only[Frame.atR,hb]<;>rfl
theorem stepR_inScope{b:Frame}{a:Act}{k:List Item}{cs:List Frame}{w:World}{c:Code}:Go.step P (lone (b.atR a (.inScope c::k)) cs w)=.next (lone (b.atR a k) cs w):=by
 cases hb:b.roundOf<;>simp only[Frame.atR,hb]<;>rfl
theorem IWP.scope{c:Code}(h:IWP P ro (.code c::.inScope c::K) S Q L):IWP P ro (.code (.scope c)::K) S Q L:=h.step (fun _ _ _ _ _=>stepR_scope) fun _ _ _ _ _ hb hr=>fenced_calm hb hr rfl
theorem IWP.inScope{c:Code}(h:IWP P ro K S Q L):IWP P ro (.inScope c::K) S Q L:=h.step (fun _ _ _ _ _=>stepR_inScope) fun _ _ _ _ _ hb hr=>fenced_calm hb hr rfl
theorem IWP.ret(h:Q .ret S):IWP P ro (.code .ret::K) S Q L:=IWP.code (AWP.ret h)
theorem IWP.exit{id:Nat}{K':List Item}(hk:exitTo id K=some K')(h:IWP P ro K' S Q L):IWP P ro (.code (.exit id)::K) S Q L:=IWP.code (AWP.exit (by simp only[IX,hk];exact h))
theorem IWP.exit_out{id:Nat}(hk:exitTo id K=none)(h:Q (.exit id) S):IWP P ro (.code (.exit id)::K) S Q L:=IWP.code (AWP.exit (by simp only[IX,hk];exact h))
theorem IWP.cond{c:Operand}{x y:Code}{t:Bool}(hc:S.eval c=.bool t)(ht:t=true->IWP P ro (.code x::K) S Q L)(hf:t=false->IWP P ro (.code y::K) S Q L):IWP P ro (.code (.cond c x y)::K) S Q L:=fun β G Kp a w r b k cs hro hb hr=>by
 have he:=r.eval c;rw[hc]at he;have hv:a.eval c=.bool t:=by generalize a.eval c=x at he;cases he;rfl
 have hs:StepsIn (Machine.fenced P (wide ro)) P (lone (b.atR a ((.code (.cond c x y)::K)++k)) cs w) (lone (b.atR a (.code (if t then x else y)::(K++k))) cs w):=.one (fenced_calm hb hr rfl) (stepR_cond hv)
 have:∀z,(if t then x else y)=z->IWP P ro (.code z::K) S Q L->_:=fun z hz h=>by
  rw[hz]at hs
  exact(show(∃e a' w',Post ro.m Q β G Kp e a' w'/\ArrivesIn (Machine.fenced P (wide ro)) P (lone (b.atR a ((.code (.cond c x y)::K)++k)) cs w) b k cs e a' w')\/
   (∃K' a' w',Post ro.m (fun _ S'=>L K' S') β G Kp .normal a' w'/\StepsIn (Machine.fenced P (wide ro)) P (lone (b.atR a ((.code (.cond c x y)::K)++k)) cs w) (lone (b.atR a' (K'++k)) cs w'))from by
   rcases h β G Kp a w r b k cs hro hb hr with⟨e2,a2,w2,hp,harr2⟩|⟨K3,a2,w2,hp,hs2⟩
   ·exact .inl ⟨e2,a2,w2,hp,.of_steps hs harr2⟩
   ·exact .inr ⟨K3,a2,w2,hp,hs.trans hs2⟩)
 cases t with
 |true=>exact this _ rfl (ht rfl)
 |false=>exact this _ rfl (hf rfl)
theorem IWP.mono{Q':Exit->St->Prop}(h:IWP P ro K S Q L)(hq:∀e S,Q e S->Q' e S):IWP P ro K S Q' L:=fun β G Kp a w r b k cs hro hb hr=>by
 rcases h β G Kp a w r b k cs hro hb hr with⟨e,a',w',⟨S',β',G',K',h0,h1,h2,r',q⟩,harr⟩|h
 ·exact .inl ⟨e,a',w',⟨S',β',G',K',h0,h1,h2,r',hq _ _ q⟩,harr⟩
 ·exact .inr h
theorem IWP.less{S':St}(hl:∀β G Kp a w,RS β G Kp S a w->∃β',Homes.low ro.m β β'/\RS β' G Kp S' a w)(h:IWP P ro K S' Q L):IWP P ro K S Q L:=fun β G Kp a w r b k cs hro hb hr=>by
 obtain⟨β',h0,r'⟩:=hl β G Kp a w r;rcases h β' G Kp a w r' b k cs hro hb hr with⟨e,a',w',hp,harr⟩|⟨K',a',w',hp,hs⟩
 ·exact .inl ⟨e,a',w',hp.up h0 (G.ext_refl Kp) Kp.le_refl,harr⟩
 ·exact .inr ⟨K',a',w',hp.up h0 (G.ext_refl Kp) Kp.le_refl,hs⟩
end
def V.isUndef:V->Bool
 |.undef=>true
 |_=>false
def Blk.isGone:Blk->Bool
 |.gone=>true
 |_=>false
def maskT:List V->List V->List V
 |t::ts,v::vs=>(bif t.isUndef then .undef else v)::maskT ts vs
 |[],vs=>vs
 |_::_,[]=>[]
def maskH:List Blk->List Blk->List Blk
 |t::ts,v::vs=>(bif t.isGone then .gone else v)::maskH ts vs
 |_,_=>[]
def Blk.under(m:Nat):Blk->Bool
 |.cells cs=>underL m cs
 |.iter v _ _=>v.under m
 |.rowsL _ _ _ _ _ _ v=>v.under m
 |.maps _ vs=>underL m vs
 |_=>true
theorem maskT_length:∀(ts vs:List V),(maskT ts vs).length=vs.length
 |t::ts,v::vs=>by simp[maskT,maskT_length ts vs]
 |[],vs=>rfl
 |_::_,[]=>rfl
theorem maskT_getD:∀(ts vs:List V) (j:Nat),(maskT ts vs).getD j .undef=.undef\/(maskT ts vs).getD j .undef=vs.getD j .undef
 |[],vs,j=>.inr rfl
 |_::_,[],j=>.inr rfl
 |t::ts,v::vs,0=>by
  simp only[maskT];cases t.isUndef
  ·right;rfl
  ·left;rfl
 |t::ts,v::vs,j+1=>by simp only[maskT,List.getD_cons_succ];exact maskT_getD ts vs j
theorem maskH_length:∀(ts vs:List Blk),(maskH ts vs).length<=vs.length
 |t::ts,v::vs=>by simp[maskH,maskH_length ts vs]
 |[],vs=>by simp[maskH]
 |_::_,[]=>by simp[maskH]
theorem maskH_get:∀(ts vs:List Blk) (j:Nat) (k:Blk),(maskH ts vs)[j]? =some k->k=.gone\/vs[j]? =some k
 |t::ts,v::vs,0,k,h=>by
  simp only[maskH,List.getElem?_cons_zero,sJ]at h;subst h;cases t.isGone
  ·right;rfl
  ·left;rfl
 |t::ts,v::vs,j+1,k,h=>by
  simp only[maskH,List.getElem?_cons_succ]at h;simpa using maskH_get ts vs j k h
 |[],vs,j,k,h=>by simp[maskH]at h
 |_::_,[],j,k,h=>by simp[maskH]at h
def mask(T S:St):St:={t:=maskT T.t S.t,h:=maskH T.h S.h,d:=S.d}
def isObj(h:List Blk)(i:Nat):Bool:=match h[i]? with|some (.obj _)=>true|_=>false
def maskOK(m:Nat)(S:St):Bool:=
 decide (m<=S.h.length)&&underL S.h.length S.t&&S.h.all (Blk.under S.h.length)&&S.d.all fun i=>isObj S.h i
theorem BlkOK.take{G:Kept}{β:Homes}{w:World}{k:Blk}{x:Hm}{m:Nat}(h:BlkOK G β w k x)(hu:k.under m=true):BlkOK G (β.take m) w k x:=by
 cases x with
 |void=>cases k<;>first|exact h|exact h.elim
 |nil=>cases k<;>first|exact h|exact h.elim
 |lie y=>
  cases k with
  |gone=>trivial
  |void=>exact h
  |cells cs=>obtain⟨c,t,h1,h2,h3⟩:=h;exact⟨c,t,h1,h2,fun j hj=>(h3 j hj).take (underL_getD hu j)⟩
  |rows et n mm rs=>exact h
  |iter v n seen=>obtain⟨b,h1,h2⟩:=h;exact⟨b,h1.take hu,h2⟩
  |obj o=>exact h
  |ext X tr=>exact h
  |rowsL et n mm rs r0 j0 v=>
   obtain⟨h0,hn,hc,c,h1,h2,h3,h4,h5,h6,h7,h8⟩:=h;exact⟨h0,hn,hc,c,h1,h2,h3,h4,h5,h6,h7,h8.take hu⟩
  |maps ks vs=>obtain⟨es,h1,h2,h3⟩:=h;exact⟨es,h1,h2,fun j k hj=>by obtain⟨z,q1,q2,q3,q4⟩:=h3 j k hj;exact⟨z,q1,q2,q3,q4.take (underL_getD hu j)⟩⟩
 |ext l=>cases k<;>first|exact h|exact h.elim
theorem RS.masked{β:Homes}{G K:Kept}{S T:St}{a:Act}{w:World}{m:Nat}(r:RS β G K S a w)(h:maskOK m (mask T S)=true):∃β',Homes.low m β β'/\RS β' G K (mask T S) a w:=by
 simp only[maskOK,Bool.and_eq_true,decide_eq_true_eq]at h;obtain⟨⟨⟨h1,h2⟩,h3⟩,h4⟩:=h;generalize hn:(mask T S).h.length=n at h1 h2 h3
 have hle:n<=β.length:=by rw[r.h.len,<-hn];exact maskH_length _ _
 have get:∀ {i:Nat},i<n->(β.take n)[i]? =β[i]? :=fun hi=>List.getElem?_take_of_lt hi
 have look:∀ {i:Nat} {k:Blk},(mask T S).h[i]? =some k->i<n/\(k=.gone\/S.h[i]? =some k):=fun {i k} hk=>⟨by rw[<-hn];exact(List.getElem?_eq_some_iff.1 hk).1,maskH_get _ _ _ _ hk⟩
 refine⟨β.take n,fun i x hv hx=> ?_,⟨⟨by simp[hn];omega,fun i k hk=> ?_,fun i j x y k k' hi hj g g' hbi hbj hxy=> ?_,fun i x k hi g hb=> ?_,r.h.keep,r.h.gk,r.h.amb,fun i X tr hi=> ?_⟩,by rw[r.size];exact(maskT_length _ _).symm,fun j=> ?_,r.marks,fun j hj=> ?_⟩⟩
 ·rcases Nat.lt_or_ge i m with q|q
  ·rw[List.getElem?_take_of_lt q]at hx;rw[List.getElem?_take_of_lt (by omega)];exact hx
  ·rw[List.getElem?_eq_none (by simp;omega)]at hx;cases hx
 ·obtain⟨hi,hk'⟩:=look hk;rw[get hi];rcases hk' with rfl|hk'
  ·cases(β[i]?.getD .void)<;>trivial
  ·refine(r.h.blk i k hk').take ?_;rw[List.all_eq_true]at h3;exact h3 k (List.mem_of_getElem? hk)
 ·obtain⟨l1,h1'⟩:=look hi;obtain⟨l2,h2'⟩:=look hj;rw[get l1]at hbi;rw[get l2]at hbj;rcases h1' with q|h1'
  ·exact absurd q g
  rcases h2' with q|h2'
  ·exact absurd q g'
  exact r.h.inj i j x y k k' h1' h2' g g' hbi hbj hxy
 ·obtain⟨l1,h1'⟩:=look hi;rw[get l1]at hb;rcases h1' with q|h1'
  ·exact absurd q g
  exact r.h.sep i x k h1' g hb
 ·obtain⟨l1,h1'⟩:=look hi;rcases h1' with q|h1'
  ·cases q
  obtain⟨l,E,q1,q2,hbs,q3⟩:=r.h.ext i X tr h1';refine⟨l,E,by rw[get l1];exact q1,q2,hbs,fun b hE=>⟨(q3 b hE).1,fun j y k1 hj g hbj=> ?_⟩⟩;obtain⟨l2,h2'⟩:=look hj;rw[get l2]at hbj;rcases h2' with q|h2'
  ·exact absurd q g
  exact(q3 b hE).2 j y k1 h2' g hbj
 ·show Rel G (β.take n) ((maskT T.t S.t).getD j .undef) _;have hu:((maskT T.t S.t).getD j .undef).under n=true:=underL_getD h2 j;rcases maskT_getD T.t S.t j with e|e
  ·rw[e];exact .undef _
  ·rw[e]at hu⊢;exact(r.tmp j).take hu
 ·obtain⟨x,q1,q2,q3⟩:=r.mark j hj
  have hm:S.d.getD j 0∈S.d:=by
   have hj':j<S.d.length:=hj;rw[gE,List.getElem?_eq_getElem hj'];exact List.getElem_mem hj'
  have hio:=List.all_eq_true.1 h4 _ hm;unfold isObj at hio;split at hio
  ·rename_i o ho;obtain⟨l1,h1'⟩:=look ho;rcases h1' with q|h1'
   ·cases q
   rw[q3]at h1';cases h1';exact⟨x,by show(β.take n)[S.d.getD j 0]? =_;rw[get l1];exact q1,q2,ho⟩
  ·cases hio
end Ab
