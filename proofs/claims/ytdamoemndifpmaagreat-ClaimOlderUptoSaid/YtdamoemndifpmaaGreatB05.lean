/-
  Part of the proof of the Claim laws. Conditions: those that stand in each theorem.
-/
import Derived.RangeFuncIn
import Derived.Test.YtdamoemndifpmaaGreatB04
set_option linter.unusedSimpArgs false
set_option linter.unusedVariables false
namespace Ab
open Go
def feed(go:List V->Bool):List V->List V->List V
 |tr,[]=>tr
 |tr,y::ys=>bif go tr then feed go (tr++ [y]) ys else tr
def Iter(P:Program)(f:FuncId)(caps ys:List V):Prop:=
 ∀X:Ext,X.ys=ys->YSpec P X->X.go []=true->∃v,HCalls P f (.yld 0::caps) v [.ext X []] [.ext X (feed X.go [] ys)]
def stopK(go:Nat->Bool):Nat->Nat->Nat
 |k,0=>k
 |k,n+1=>bif go k then stopK go (k+1) n else k
theorem feed_length(go:Nat->Bool):∀(ys tr:List V),(feed (fun tr=>go tr.length) tr ys).length=stopK go tr.length ys.length
 |[],tr=>rfl
 |y::ys,tr=>by
  simp only[feed,List.length_cons,stopK]
  cases go tr.length with
  |true=>simp only[cond_true];rw[feed_length go ys];simp
  |false=>simp only[cond_false]
def noExt(h:List Blk):Bool:=h.all fun k=> !isExt k
theorem noExt_not{h:List Blk}(hn:noExt h=true){i:Nat}{X:Ext}{tr:List V}:h[i]?≠some (.ext X tr):=fun hi=>by
 have:=List.all_eq_true.1 hn _ (List.mem_of_getElem? hi);simp[isExt]at this
def ExtOK(β:Homes)(K:Kept)(h:List Blk)(w:World)(E0:Nat->Kept):Prop:=
 ∀(i:Nat) (X:Ext) (tr:List V),h[i]? =some (.ext X tr)->∃l,β[i]? =some (.ext l)/\X.I l tr (E0 i) w/\X.base.le K/\
  ∀b,E0 i b≠none->K b=none/\∀(j:Nat) (x:Home) (k:Blk),h[j]? =some k->k≠ .gone->β[j]? =some (.lie x)->x.b≠b
theorem RH.extOK{β:Homes}{G K:Kept}{h:List Blk}{w:World}(r:RH β G K h w):∃E0,ExtOK β K h w E0:=by
 have:∀i:Nat,∃E:Kept,∀(X:Ext) (tr:List V),h[i]? =some (.ext X tr)->∃l,β[i]? =some (.ext l)/\X.I l tr E w/\X.base.le K/\
   ∀b,E b≠none->K b=none/\∀(j:Nat) (x:Home) (k:Blk),h[j]? =some k->k≠ .gone->β[j]? =some (.lie x)->x.b≠b:=fun i=>by
  by_cases hi:∃X tr,h[i]? =some (.ext X tr)
  ·obtain⟨X,tr,hi⟩:=hi;obtain⟨l,E,h1⟩:=r.ext i X tr hi;exact⟨E,fun Y tr' hi'=>by rw[hi]at hi';cases hi';exact⟨l,h1⟩⟩
  ·exact⟨K,fun X tr h'=>absurd ⟨X,tr,h'⟩ hi⟩
 exact⟨fun i=>(this i).choose,fun i=>(this i).choose_spec⟩
def own(E0:Nat->Kept)(h:List Blk)(b:Nat):Prop:=∃(i:Nat) (X:Ext) (tr:List V),h[i]? =some (.ext X tr)/\E0 i b≠none
theorem ExtOK.lt{β:Homes}{K:Kept}{h:List Blk}{w:World}{E0:Nat->Kept}(e:ExtOK β K h w E0){b:Nat}(hb:own E0 h b):b<w.heap.size:=by
 obtain⟨i,X,tr,hi,h1⟩:=hb;obtain⟨l,-,h2,-⟩:=e i X tr hi;exact Ext.lt h2 h1
theorem ExtOK.off{β:Homes}{K:Kept}{h:List Blk}{w:World}{E0:Nat->Kept}(e:ExtOK β K h w E0){b:Nat}(hb:own E0 h b):K b=none:=by
 obtain⟨i,X,tr,hi,h1⟩:=hb;obtain⟨l,-,-,-,h2⟩:=e i X tr hi;exact(h2 b h1).1
theorem ExtOK.move{β:Homes}{K K':Kept}{h:List Blk}{w w':World}{E0:Nat->Kept}(e:ExtOK β K h w E0)(hK:∀b,own E0 h b->K' b=none)(hw:∀b,own E0 h b->w'.heap[b]? =w.heap[b]?)
  (hb:∀(i:Nat) (X:Ext) (tr:List V),h[i]? =some (.ext X tr)->X.base.le K') (hk:∀b o,K' b=some o->w'.heap[b]? =some o) (hs:w.heap.size<=w'.heap.size) (hm:Mild w w'):ExtOK β K' h w' E0:=fun i X tr hi=>by
 obtain⟨l,h1,h2,h3,h4⟩:=e i X tr hi
 have ow:∀b,E0 i b≠none->own E0 h b:=fun b q=>⟨i,X,tr,hi,q⟩
 exact⟨l,h1,X.stable h2 (fun b o q=>by rw[hw b (ow b (by rw[q];simp))];exact X.keeps h2 b o q) (fun b o q=>hk b o (hb i X tr hi b o q)) hs hm,hb i X tr hi,fun b q=>⟨hK b (ow b q),(h4 b q).2⟩⟩
theorem RH.changeX{β:Homes}{G K K':Kept}{h:List Blk}{w w':World}(r:RH β G K h w){E0:Nat->Kept}(hx:ExtOK β K' h w' E0)(hk:∀b o,K' b=some o->w'.heap[b]? =some o)(hg:G.le K')
  (hh:∀(i:Nat) (x:Home) (k:Blk),h[i]? =some k->k≠ .gone->β[i]? =some (.lie x)->K' x.b=none/\w'.heap[x.b]? =w.heap[x.b]?/\x.b<w'.heap.size) (ha:K'.amb.ok w'):RH β G K' h w' where
 len:=r.len
 blk i k hi:=by
  by_cases hg:k=.gone
  ·subst hg;cases(β[i]?.getD .void)<;>trivial
  refine(r.blk i k hi).mono G.le_refl (Homes.le_refl _) fun y hy=> ?_
  have hb:β[i]? =some (.lie y):=by
   cases hb:β[i]? with
   |none=>simp[hb]at hy
   |some z=>simp[hb]at hy;rw[hy]
  exact(hh i y k hi hg hb).2.1
 inj:=r.inj
 sep i x k hi hg hb:=⟨(hh i x k hi hg hb).1,(hh i x k hi hg hb).2.2⟩
 keep:=hk
 gk:=hg
 amb:=ha
 ext i X tr hi:=by obtain⟨l,h1⟩:=hx i X tr hi;exact⟨l,_,h1⟩
theorem RH.snoc{β:Homes}{G K:Kept}{h:List Blk}{w:World}(r:RH β G K h w){E0:Nat->Kept}(hx:ExtOK β K h w E0){k:Blk}{x:Home}(hK:K x.b=none)(hlt:x.b<w.heap.size)
  (hh:∀(i:Nat) (y:Home) (k:Blk),h[i]? =some k->k≠ .gone->β[i]? =some (.lie y)->y.b≠x.b) (hne:∀b,own E0 h b->b≠x.b) (hk:BlkOK G (β++ [Hm.lie x]) w k (.lie x)) (hke:isExt k=false):RH (β++ [Hm.lie x]) G K (h++ [k]) w:=by
 have hl:=r.len;have old:∀ {i:Nat},i<h.length->(β++ [Hm.lie x])[i]? =β[i]? :=fun hi=>by rw[aL (by omega)]
 have hz:(β++ [Hm.lie x])[h.length]? =some (.lie x):=by rw[<-hl];simp
 have cases3:∀ {i:Nat} {k':Blk},(h++ [k])[i]? =some k'->i<h.length\/i=h.length/\k'=k:=fun {i k'} hi=>by
  rcases Nat.lt_trichotomy i h.length with h'|h'|h'
  ·exact .inl h'
  ·subst h';simp at hi;exact .inr ⟨rfl,hi.symm⟩
  ·rw[List.getElem?_eq_none (by simp;omega)]at hi;simp at hi
 refine⟨by simp[hl],?_,?_,?_,r.keep,r.gk,r.amb,?_⟩
 ·intro i k' hi;rcases cases3 hi with hlt|⟨rfl,rfl⟩
  ·rw[aL hlt]at hi;rw[old hlt];exact(r.blk i k' hi).mono (Kept.le_refl _) (Homes.le_append _ _) fun _ _=>rfl
  ·rw[hz];exact hk
 ·intro i j xa y k1 k2 hi hj g1 g2 hbi hbj hxy;rcases cases3 hi with hi'|⟨rfl,rfl⟩<;>rcases cases3 hj with hj'|⟨rfl,rfl⟩
  ·rw[aL hi']at hi;rw[aL hj']at hj;rw[old hi']at hbi;rw[old hj']at hbj;exact r.inj i j xa y k1 k2 hi hj g1 g2 hbi hbj hxy
  ·rw[aL hi']at hi;rw[old hi']at hbi;rw[hz]at hbj;cases hbj;exact absurd hxy (hh i xa k1 hi g1 hbi)
  ·rw[aL hj']at hj;rw[old hj']at hbj;rw[hz]at hbi;cases hbi;exact absurd hxy.symm (hh j y k2 hj g2 hbj)
  ·rfl
 ·intro i xa k1 hi hg hbi;rcases cases3 hi with hi'|⟨rfl,rfl⟩
  ·rw[aL hi']at hi;rw[old hi']at hbi;exact r.sep i xa k1 hi hg hbi
  ·rw[hz]at hbi;cases hbi;exact⟨hK,hlt⟩
 ·intro i X tr hi;rcases cases3 hi with hi'|⟨rfl,rfl⟩
  ·rw[aL hi']at hi;obtain⟨l,h1,h2,h3,h4⟩:=hx i X tr hi;refine⟨l,_,by rw[old hi'];exact h1,h2,h3,fun b hb=>⟨(h4 b hb).1,fun j y k1 hj g hbj=> ?_⟩⟩;rcases cases3 hj with hj'|⟨rfl,rfl⟩
   ·rw[aL hj']at hj;rw[old hj']at hbj;exact(h4 b hb).2 j y k1 hj g hbj
   ·rw[hz]at hbj;cases hbj;exact(hne b ⟨i,X,tr,hi,hb⟩).symm
  ·simp[isExt]at hke
def setPs:List Tmp->List V->List V->List V
 |p::ps,u::us,t=>setPs ps us (t.set p u)
 |_,_,t=>t
theorem setPs_rel{G:Kept}{β:Homes}:∀(ps:List Tmp) (us:List V) (xs:List Value) (t:List V) (tm:Array Value),us.length=ps.length->xs.length=ps.length->tm.size=t.length->(∀j,Rel G β (t.getD j .undef) (tm.getD j Go.undef))->
  (∀j,j<us.length->Rel G β (us.getD j .undef) (xs.getD j Go.undef))->((ps.zip xs).foldl (fun tm (p,a)=>tm.setIfInBounds p a) tm).size=(setPs ps us t).length/\∀j,Rel G β ((setPs ps us t).getD j .undef) (((ps.zip xs).foldl (fun tm (p,a)=>tm.setIfInBounds p a) tm).getD j Go.undef)
 |[],us,xs,t,tm,h1,h2,h3,h4,h5=>by
  have:us=[]:=List.eq_nil_of_length_eq_zero (by simpa using h1);subst this;exact⟨by simpa[setPs]using h3,by simpa[setPs]using h4⟩
 |p::ps,u::us,x::xs,t,tm,h1,h2,h3,h4,h5=>by
  simp only[setPs,List.zip_cons_cons,List.foldl_cons];refine setPs_rel ps us xs _ _ (by simpa using h1) (by simpa using h2) (by simpa using h3) (fun j=> ?_) fun j hj=>by simpa using h5 (j+1) (by simpa using hj)
  simp only[gE,aG];by_cases e:p=j
  ·subst e;by_cases hl:p<t.length
   ·have hl':p<tm.size:=by rw[h3];exact hl
    simp[hl,hl'];simpa using h5 0 (by simp)
   ·rw[List.getElem?_eq_none (by simpa using hl)];exact .undef _
  ·rw[sN e,Array.getElem?_setIfInBounds_ne e];simpa only[gE,aG]using h4 j
 |p::ps,[],xs,t,tm,h1,h2,h3,h4,h5=>by simp at h1
 |p::ps,u::us,[],t,tm,h1,h2,h3,h4,h5=>by simp at h2
def exitCode:Exit->Option Code
 |.ret=>some .ret
 |.exit id=>some (.exit id)
 |_=>none
def extAs(h0 h:List Blk):Prop:=∀(i:Nat) (X:Ext) (tr:List V),h[i]? =some (.ext X tr)->∃tr',h0[i]? =some (.ext X tr')
theorem extAs.of_no{h0 h:List Blk}(hn:noExt h=true):extAs h0 h:=fun i X tr hi=>absurd hi (noExt_not hn)
theorem range_wpM{P:Program}{m m0:Nat}{β:Homes}{G K:Kept}{a:Act}{w:World}{S:St}(r:RS β G K S a w){g:Operand}{ps:Array Tmp}{assign body:Code}{f:FuncId}{caps ys:List V}{go:Nat->Bool}{H:Nat->List Blk}{jx:Exit}{jc:Code}{Qw:Exit->Act->World->Prop}
  (hg:S.eval g=.func (.func f) [] caps) (hcaps:underL 0 caps=true) (hcf:∀xs w,(callFunc f xs).run P w=.ok (.enter f xs) w) (hit:Iter P f caps ys) (hH0:H 0=S.h) (hlen:∀k,(H k).length=S.h.length) (hne:∀k,extAs S.h (H k))
  (hgo:go 0=true) (hj:exitCode jx=some jc) (hm0:∀(G2:Kept) (β2:Homes),G.le G2->Homes.low m0 β β2->∀j,Rel G2 β2 (S.t.getD j .undef) (a.tmps.getD j Go.undef))
  (hround:∀(l:Nat) (k:Nat) (us:List V),ys[k]? =some (.tuple us)->go k=true->us.length=ps.size/\
   AWP P ⟨some l,m0⟩ assign ⟨setPs ps.toList us S.t,H k,[]⟩ fun e S1=>e=.normal/\extAs S.h S1.h/\
    AWP P ⟨some l,m0⟩ body S1 fun e S2=>e=(bif go (k+1)then .normal else jx)/\S2.h=H (k+1))
  (hQ:∀(β2:Homes) (G2 K3:Kept) (D:Nat) (w4:World),Homes.low m0 β β2->β2.length=S.h.length->G.ext K G2->K.le K3->RH (β2++ [Hm.lie ⟨D,0,0⟩]) G2 K3 (H (stopK go 0 ys.length)++ [.obj (.deferred (some []))]) w4->
   Qw (bif go (stopK go 0 ys.length)then .normal else jx) {a with defers:=[{target:=.collected D,args:= #[]}]++a.defers} w4):
  (Code.rangeFunc g ps assign body).wpIn (wide ⟨none,m⟩) 0 P Qw a w:=by
 refine wpIn_rangeFunc fun fn hfn=> ?_;have hfv:=r.eval g;rw[hg]at hfv
 obtain⟨c',hfe,hcl,hcc⟩:∃c',a.eval g=.func (.func f) #[] c'/\caps.length=c'.size/\∀j,j<caps.length->Rel G β (caps.getD j .undef) (c'.getD j Go.undef):=by
  generalize a.eval g=x at hfv
  cases hfv with
  |func h1 h2 h3 h4=>
   rename_i f' c';have:f'= #[]:=Array.eq_empty_of_size_eq_zero (by simpa using h1.symm);subst this;exact⟨c',rfl,h2,h4⟩
 obtain⟨D,hD⟩:∃D,w.heap.size=D:=⟨_,rfl⟩
 obtain⟨rec,hrec⟩:∃rec:LoopState->Option Code->Loop,rec=fun st pe=>{state:=st,pending:=pe,fn,tmps:=a.tmps,params:=ps,assign,body,defers:=D}:=⟨_,rfl⟩
 obtain⟨W1,hW1⟩:∃W1,(w.alloc (.deferred (some []))).alloc (.loop (rec .ready none))=W1:=⟨_,rfl⟩
 have hL1:W1.heap[D+1]? =some (.loop (rec .ready none)):=by
  rw[<-hW1];have:=World.alloc_heap_new (w.alloc (.deferred (some []))) (.loop (rec .ready none));rwa[World.size_alloc,hD]at this
 have hK1:W1.heap[D]? =some (.deferred (some [])):=by
  rw[<-hW1,<-hD];exact(heap_alloc_lt _ _ (by simp)).trans (World.alloc_heap_new w _)
 have hold:∀b,b<D->W1.heap[b]? =w.heap[b]? :=fun b hb=>by
  rw[<-hW1];exact(heap_alloc_lt _ _ (by simp[hD];omega)).trans (heap_alloc_lt _ _ (by omega))
 have hsz:W1.heap.size=D+2:=by rw[<-hW1];simp[hD]
 have hKlt:∀b o,K b=some o->b<D:=fun b o hb=>by rw[<-hD];exact(Array.getElem?_eq_some_iff.1 (r.h.keep b o hb)).1
 obtain⟨ES,hES⟩:=r.h.extOK
 have hbaseK:∀ {h:List Blk},extAs S.h h->∀(i:Nat) (X:Ext) (tr:List V),h[i]? =some (.ext X tr)->X.base.le K:=fun he i X tr hi=>by
  obtain⟨tr',h'⟩:=he i X tr hi;exact(hES i X tr' h').choose_spec.2.2.1
 obtain⟨rk,hrk⟩:∃rk:Nat->Loop,rk=fun k=>bif go k then rec .ready none else rec .done (some jc):=⟨_,rfl⟩
 let mine:Kept->Homes->(Nat->Kept)->Nat->Nat->Prop:=fun K2 β2 E0 k b=>K b=none/\(K2 b≠none\/b=D+1\/(∃(i:Nat) (x:Home) (kb:Blk),(H k)[i]? =some kb/\kb≠ .gone/\β2[i]? =some (.lie x)/\x.b=b)\/own E0 (H k) b)
 let I:Nat->List V->Kept->World->Prop:=fun l tr E w'=>l=D+1/\∃(β2:Homes) (G2 K2:Kept) (E0:Nat->Kept) (wI:World),Homes.low m0 β β2/\G.ext K G2/\K.le K2/\RH β2 G2 K2 (H tr.length) wI/\wI.heap[D+1]? =some (.loop (rk tr.length))/\K2 (D+1)=none/\
  (∀(i:Nat) (x:Home) (kb:Blk),(H tr.length)[i]? =some kb->kb≠ .gone->β2[i]? =some (.lie x)->x.b≠D+1)/\(K2 D=some (.deferred (some []))/\G2 D=none)/\(∀b,mine K2 β2 E0 tr.length b->E b=wI.heap[b]?)/\(∀b,¬mine K2 β2 E0 tr.length b->E b=none)/\
  (∀b o,E b=some o->w'.heap[b]? =some o)/\ExtOK β2 K2 (H tr.length) wI E0/\(∀b,own E0 (H tr.length) b->b≠D+1)/\wI.heap.size<=w'.heap.size/\Mild wI w'
 have move:∀ {l:Nat} {tr:List V} {E:Kept} {w':World},I l tr E w'->(∀b o,K b=some o->w'.heap[b]? =some o)->K.amb.ok w'->∃(β2:Homes) (G2 K2:Kept) (E0:Nat->Kept),Homes.low m0 β β2/\G.ext K G2/\K.le K2/\RH β2 G2 K2 (H tr.length) w'/\w'.heap[D+1]? =some (.loop (rk tr.length))/\K2 (D+1)=none/\
   (∀(i:Nat) (x:Home) (kb:Blk),(H tr.length)[i]? =some kb->kb≠ .gone->β2[i]? =some (.lie x)->x.b≠D+1)/\(K2 D=some (.deferred (some []))/\G2 D=none)/\(∀b,mine K2 β2 E0 tr.length b->E b≠none)/\ExtOK β2 K2 (H tr.length) w' E0/\(∀b,own E0 (H tr.length) b->b≠D+1):=fun {l tr E w'} hI hk hka=>by
  obtain⟨-,β2,G2,K2,E0,wI,q1,q2,q3,q4,q5,q6,q7,q8,q9,q10,q11,q12,q13,q14,q15⟩:=hI
  have hmine:∀b,mine K2 β2 E0 tr.length b->b<wI.heap.size:=fun b hb=>by
   rcases hb.2 with h|rfl|⟨i,x,kb,h1,h2,h3,rfl⟩|h
   ·cases hb:K2 b with
    |none=>exact absurd hb h
    |some o=>exact(Array.getElem?_eq_some_iff.1 (q4.keep b o hb)).1
   ·exact(Array.getElem?_eq_some_iff.1 q5).1
   ·exact(q4.sep i x kb h1 h2 h3).2
   ·exact q12.lt h
  have hEm:∀b,mine K2 β2 E0 tr.length b->w'.heap[b]? =wI.heap[b]? :=fun b hb=>by
   have h1:=q9 b hb;have h2:=hmine b hb;rw[Array.getElem?_eq_getElem h2]at h1⊢;exact q11 _ _ h1
  have hKD:K (D+1)=none:=by
   cases h:K (D+1)with
   |none=>rfl
   |some o=>have:=hKlt _ _ h;omega
  have hKown:∀b,own E0 (H tr.length) b->K b=none:=fun b hb=>by
   have h2:=q12.off hb
   cases h:K b with
   |none=>rfl
   |some o=>rw[q3 _ _ h]at h2;cases h2
  have hkeep:∀b o,K2 b=some o->w'.heap[b]? =some o:=fun b o hb=>by
   cases hKb:K b with
   |none=>rw[hEm b ⟨hKb,.inl (by rw[hb];simp)⟩];exact q4.keep b o hb
   |some o'=>rw[q3 b o' hKb]at hb;cases hb;exact hk b _ hKb
  have hext:ExtOK β2 K2 (H tr.length) w' E0:=q12.move (fun b hb=>q12.off hb) (fun b hb=>hEm b ⟨hKown b hb,.inr (.inr (.inr hb))⟩) (fun i X tr' hi=>(hbaseK (hne _) i X tr' hi).trans q3) hkeep q14 q15;refine⟨β2,G2,K2,E0,q1,q2,q3,q4.changeX hext hkeep q4.gk (fun i x kb h1 h2 h3=> ?_) (by rw[<-q3.same];exact hka),?_,q6,q7,q8,fun b hb=> ?_,hext,q13⟩
  ·have hs:=q4.sep i x kb h1 h2 h3
   have hKb:K x.b=none:=by
    cases h:K x.b with
    |none=>rfl
    |some o=>have:=q3 _ _ h;rw[hs.1]at this;cases this
   have hx:=hEm _ ⟨hKb,.inr (.inr (.inl ⟨i,x,kb,h1,h2,h3,rfl⟩))⟩;exact⟨hs.1,hx,(Array.getElem?_eq_some_iff.1 (hx.trans (Array.getElem?_eq_getElem hs.2))).1⟩
  ·rw[hEm _ ⟨hKD,.inr (.inl rfl)⟩];exact q5
  ·rw[q9 b hb,Array.getElem?_eq_getElem (hmine b hb)];simp
 let X:Ext:={
  I:=I,go:=fun tr=>go tr.length,base:=K,ys:=ys,keeps:=fun {l tr E w1} h=>by
           obtain⟨q0,β2,G2,K2,E0,wI,q1,q2,q3,q4,q5,q6,q7,q8,q9,q10,q11,-⟩:=h
           exact q11,
          stable:=fun {l tr E w1 w2} h h1 _ h3 h4=>by
           obtain⟨q0,β2,G2,K2,E0,wI,q1,q2,q3,q4,q5,q6,q7,q8,q9,q10,q11,q12,q13,q14,q15⟩:=h
           exact⟨q0,β2,G2,K2,E0,wI,q1,q2,q3,q4,q5,q6,q7,q8,q9,q10,h1,q12,q13,Nat.le_trans q14 h3,q15.trans h4⟩}
 have hY:YSpec P X:=by
  rintro l tr E w1 us xs Kf hI hgo1 hpre hbase hKf hamb hdis hul hpl hrel
  have hsame:K.amb=Kf.amb:=hbase.same;have hl:l=D+1:=hI.1;subst hl;obtain⟨β2,G2,K2,E0,q1,q2,q3,hr,hR,q6,q7,q8,q9,q12,q13⟩:=move hI (fun b o hb=>hKf b o (hbase b o hb)) (by rw[hsame];exact hamb);have hgo2:go tr.length=true:=hgo1;have hrkk:rk tr.length=rec .ready none:=by rw[hrk];simp[hgo2]
  rw[hrkk]at hR
  have hys:ys[tr.length]? =some (.tuple us):=by
   obtain⟨s,hs⟩:=hpre;show X.ys[tr.length]? =_;rw[<-hs];simp
  obtain⟨hps,hbody⟩:=hround (D+1) tr.length us hys hgo2;have hy:=run_yield (P:=P) (args:=xs) hR (by rw[hrec];simp;omega);rw[hrec]at hy;refine⟨fn,_,assign,body,hy,roundIn_of_wpIn trivial ?_⟩
  have hKD:K (D+1)=none:=by
   cases h:K (D+1)with
   |none=>rfl
   |some o=>have:=hKlt _ _ h;omega
  have hKfR:Kf (D+1)=none:=by
   cases h:Kf (D+1)with
   |none=>rfl
   |some o=>exact absurd (hdis (D+1) (by rw[h];simp)) (q9 _ ⟨hKD,.inr (.inl rfl)⟩)
  obtain⟨K3,hK3⟩:∃K3:Kept,K3=⟨fun b=>if b=D+1 then some (.loop (rec .ready none))else match K2 b with|some o=>some o|none=>Kf b,K.amb⟩:=⟨_,rfl⟩
  have k3s:K3.amb=K.amb:=by rw[hK3]
  have k3R:K3 (D+1)=some (.loop (rec .ready none)):=by rw[hK3];simp
  have k3a:∀b o,K2 b=some o->K3 b=some o:=fun b o hb=>by
   rw[hK3];have:b≠D+1:=by intro e;rw[e,q6]at hb;cases hb
   simp[this,hb]
  have k3f:∀b o,Kf b=some o->K3 b=some o:=fun b o hb=>by
   have:b≠D+1:=by intro e;rw[e,hKfR]at hb;cases hb
   cases h2:K2 b with
   |none=>rw[hK3];simp[this,h2,hb]
   |some o2=>
    have h3:=hr.keep b o2 h2;rw[hKf b o hb]at h3;cases h3;exact k3a _ _ h2
  have k3n:∀b,K3 b=none->b≠D+1/\K2 b=none/\Kf b=none:=fun b hb=>by
   rw[hK3]at hb;simp only at hb;split at hb
   ·cases hb
   ·rename_i hne;split at hb
    ·cases hb
    ·rename_i h2;exact⟨hne,h2,hb⟩
  have hrel':∀j,j<us.length->Rel G2 β2 (us.getD j .undef) (xs.getD j Go.undef):=fun j hj=>by
   refine Rel.mono ?_ (hrel j hj) (Homes.nil_le _);exact⟨fun b o hb=>(by cases hb),(show K.amb=G2.amb from q3.same.trans hr.gk.same.symm)⟩
  have hset:=setPs_rel (G:=G2) (β:=β2) ps.toList us xs.toList S.t a.tmps (by simpa using hps) (by simp;omega) r.size (hm0 G2 β2 q2.1 q1) (fun j hj=>by
   have:=hrel' j hj
   simpa[gE,aG]using this)
  have hfold:(ps.zip xs).foldl (fun tmps (t,a)=>tmps.setIfInBounds t a) a.tmps=(ps.toList.zip xs.toList).foldl (fun tm (p,a)=>tm.setIfInBounds p a) a.tmps:=by
   rw[<-Array.foldl_toList,Array.toList_zip]
  have rs:RS β2 G2 K3 ⟨setPs ps.toList us S.t,H tr.length,[]⟩ {tmps:=(ps.zip xs).foldl (fun tmps (t,a)=>tmps.setIfInBounds t a) a.tmps,defers:=[]} w1:=by
   have hkeep:∀b o,K3 b=some o->w1.heap[b]? =some o:=fun b o hb=>by
    rw[hK3]at hb;simp only at hb;split at hb
    ·rename_i e;cases hb;rw[e];exact hR
    ·split at hb
     ·rename_i o2 h2;cases hb;exact hr.keep _ _ h2
     ·exact hKf _ _ hb
   have hext:ExtOK β2 K3 (H tr.length) w1 E0:=q12.move (fun b hb=>by
    have h2:=q12.off hb
    have hKb:K b=none:=by
     cases h:K b with
     |none=>rfl
     |some o=>rw[q3 _ _ h]at h2;cases h2
    have hf:Kf b=none:=by
     cases h:Kf b with
     |none=>rfl
     |some o=>exact absurd (hdis b (by rw[h];simp)) (q9 _ ⟨hKb,.inr (.inr (.inr hb))⟩)
    rw[hK3]
    simp[q13 b hb,h2,hf]) (fun _ _=>rfl) (fun i Y tr' hi=>((hbaseK (hne _) i Y tr' hi).trans q3).trans ⟨k3a,q3.same.symm.trans k3s.symm⟩) hkeep (Nat.le_refl _) (Mild.refl _)
   refine⟨hr.changeX hext hkeep ⟨fun b o hb=>k3a b o (hr.gk b o hb),hr.gk.same.trans (q3.same.symm.trans k3s.symm)⟩ (fun i x kb h1 h2 h3=> ?_) (by rw[k3s,hsame];exact hamb),by rw[hfold];exact hset.1,fun j=>by rw[hfold];exact hset.2 j,rfl,by simp⟩
   ·have hs:=hr.sep i x kb h1 h2 h3;refine⟨?_,rfl,hs.2⟩
    have hKb:K x.b=none:=by
     cases h:K x.b with
     |none=>rfl
     |some o=>have:=q3 _ _ h;rw[hs.1]at this;cases this
    have hf:Kf x.b=none:=by
     cases h:Kf x.b with
     |none=>rfl
     |some o=>exact absurd (hdis x.b (by rw[h];simp)) (q9 _ ⟨hKb,.inr (.inr (.inl ⟨i,x,kb,h1,h2,h3,rfl⟩))⟩)
    rw[hK3];simp[q7 i x kb h1 h2 h3,hs.1,hf]
  have ha:=hbody β2 G2 K3 _ w1 rs;refine wpIn_mono ha ?_;rintro e a1 wA ⟨S1,β',G',K',l1,g1,k1,r1,rfl,hn1,hb1⟩
  have hRA:wA.heap[D+1]? =some (.loop (rec .ready none)):=r1.h.keep _ _ (k1 _ _ k3R);have hltA:=(Array.getElem?_eq_some_iff.1 hRA).1;refine⟨_,run_beginRound hRA (by rw[hrec]),?_⟩
  obtain⟨bz,hbz⟩:∃bz,Obj.loop {rec .ready none with state:=.busy}=bz:=⟨_,rfl⟩
  rw[hbz]
  obtain⟨K4,hK4⟩:∃K4:Kept,K4=⟨fun b=>if b=D+1 then some bz else K' b,K'.amb⟩:=⟨_,rfl⟩
  have k4s:K4.amb=K'.amb:=by rw[hK4]
  have k4R:K4 (D+1)=some bz:=by rw[hK4];simp
  have k4a:∀b,b≠D+1->K4 b=K' b:=fun b hb=>by rw[hK4];simp[hb]
  have k'R:K' (D+1)=some (.loop (rec .ready none)):=k1 _ _ k3R
  have g'R:G' (D+1)=none:=by
   cases h:G' (D+1)with
   |none=>rfl
   |some o=>
    rcases g1.2 _ _ h with h2|h2
    ·have:=hr.gk _ _ h2;rw[q6]at this;cases this
    ·rw[k3R]at h2;cases h2
  have hKle3:K.le K3:=⟨fun b o hb=>k3a b o (q3 b o hb),k3s.symm⟩
  have hKle':K.le K':=hKle3.trans k1
  have hKle4:K.le K4:=⟨fun b o hb=>by rw[k4a b (fun e=>by rw[e,hKD]at hb;cases hb)];exact hKle' b o hb,hKle'.same.trans k4s.symm⟩
  have r2:RS β' G' K4 S1 a1 (wA.putObj (D+1) bz):=by
   have hkeep:∀b o,K4 b=some o->(wA.putObj (D+1) bz).heap[b]? =some o:=fun b o hb=>by
    by_cases e:b=D+1
    ·subst e;rw[k4R]at hb;cases hb;exact World.putObj_heap_same hltA
    ·rw[k4a b e]at hb;rw[World.putObj_heap_other e];exact r1.h.keep _ _ hb
   obtain⟨E1,hE1⟩:=r1.h.extOK;have hne1:∀b,own E1 S1.h b->b≠D+1:=fun b hb e=>by have:=hE1.off hb;rw[e,k'R]at this;cases this
   have hext:=hE1.move (K':=K4) (w':=wA.putObj (D+1) bz) (fun b hb=>by rw[k4a b (hne1 b hb)];exact hE1.off hb) (fun b hb=>World.putObj_heap_other (hne1 b hb)) (fun i Y tr' hi=>(hbaseK hn1 i Y tr' hi).trans hKle4) hkeep (by simp) (Mild.putObj _ _ _);refine⟨r1.h.changeX hext hkeep ⟨fun b o hb=> ?_,r1.h.gk.same.trans k4s.symm⟩ (fun i x kb h1 h2 h3=> ?_) (by rw[k4s];exact r1.h.amb.mild (Mild.putObj _ _ _)),r1.size,r1.tmp,r1.marks,r1.mark⟩
   ·have e:b≠D+1:=by intro e;rw[e,g'R]at hb;cases hb
    rw[k4a b e];exact r1.h.gk _ _ hb
   ·have hs:=r1.h.sep i x kb h1 h2 h3;have e:x.b≠D+1:=by intro e;rw[e,k'R]at hs;cases hs.1
    exact⟨by rw[k4a _ e];exact hs.1,World.putObj_heap_other e,by simpa using hs.2⟩
  refine wpIn_mono (hb1 β' G' K4 a1 _ r2) ?_;rintro e2 a2 wC ⟨S2,β4,G4,K5,l4,g4,k4,r4,he2,hS2⟩
  have hRC:wC.heap[D+1]? =some bz:=r4.h.keep _ _ (k4 _ _ k4R);have hltC:=(Array.getElem?_eq_some_iff.1 hRC).1;have k5f:∀b o,b≠D+1->K3 b=some o->K5 b=some o:=fun b o hb h=>k4 _ _ (by rw[k4a b hb];exact k1 _ _ h);have hlb:β2.length=S.h.length:=by rw[hr.len,hlen]
  have low24:Homes.low m0 β2 β4:=Homes.low.trans l1 l4;rw[<-hbz]at hRC
  have fin:∀(jump:Option Code),(jump=none/\go (tr.length+1)=true\/jump=some jc/\go (tr.length+1)=false)->
    ∃v w',(Instr.endRound (D+1) jump).run P wC=.ok v w'/\∃E',Ending.returned v=.returned (.bool (X.go (tr++ [.tuple us])))/\I (D+1) (tr++ [.tuple us]) E' w'/\(∀b o,Kf b=some o->w'.heap[b]? =some o)/\(∀b,E' b≠none->Kf b=none)/\Kf.amb.ok w':=fun jump hjump=>by
   refine⟨_,_,run_endRound jump hRC,?_⟩
   obtain⟨w4,hw4⟩:∃w4,wC.putObj (D+1) (.loop {{rec .ready none with state:=.busy} with state:=if jump.isNone then .ready else .done,pending:=jump})=w4:=⟨_,rfl⟩
   have h4R:w4.heap[D+1]? =some (.loop (rk (tr.length+1))):=by
    rw[<-hw4,World.putObj_heap_same hltC,hrk,hrec];rcases hjump with⟨rfl,e⟩|⟨rfl,e⟩<;>simp[e]
   have h4o:∀b,b≠D+1->w4.heap[b]? =wC.heap[b]? :=fun b hb=>by rw[<-hw4];exact World.putObj_heap_other hb
   have h4s:w4.heap.size=wC.heap.size:=by rw[<-hw4];simp
   have h4m:Mild wC w4:=by rw[<-hw4];exact Mild.putObj _ _ _
   rw[hw4];have hlen1:(tr++ [V.tuple us]).length=tr.length+1:=by simp
   obtain⟨K6,hK6⟩:∃K6:Kept,K6=⟨fun b=>open Classical in if b=D+1 then none else if K2 b=none/\Kf b≠none then none else K5 b,K5.amb⟩:=⟨_,rfl⟩
   have k6m:K6.amb=K5.amb:=by rw[hK6]
   have kall:K.amb=K5.amb:=k3s.symm.trans (k1.same.trans (k4s.symm.trans k4.same));have k6R:K6 (D+1)=none:=by rw[hK6];simp
   have k6a:∀b,b≠D+1->¬(K2 b=none/\Kf b≠none)->K6 b=K5 b:=fun b h1 h2=>by rw[hK6];simp only[if_neg h1,if_neg h2]
   have k6s:∀b o,K6 b=some o->b≠D+1/\¬(K2 b=none/\Kf b≠none)/\K5 b=some o:=fun b o h=>by
    rw[hK6]at h;simp only at h;split at h
    ·cases h
    ·rename_i h1;split at h
     ·cases h
     ·rename_i h2;exact⟨h1,h2,h⟩
   have g4b:∀b o,G4 b=some o->b≠D+1/\¬(K2 b=none/\Kf b≠none):=fun b o h=>by
    rcases g4.2 _ _ h with h1|h1
    ·refine⟨fun e=>(by rw[e,g'R]at h1;cases h1),fun hc=> ?_⟩;rcases g1.2 _ _ h1 with h2|h2
     ·have:=hr.gk _ _ h2;rw[hc.1]at this;cases this
     ·exact hc.2 (k3n b h2).2.2
    ·refine⟨fun e=>(by rw[e,k4R]at h1;cases h1),fun hc=> ?_⟩;have hb:b≠D+1:=fun e=>by rw[e,k4R]at h1;cases h1
     rw[k4a b hb]at h1
     cases h3:Kf b with
     |none=>exact hc.2 h3
     |some o3=>have:=k1 _ _ (k3f _ _ h3);rw[h1]at this;cases this
   have kf4:∀b o,Kf b=some o->b≠D+1/\K5 b=some o:=fun b o hb=>by
    have e:b≠D+1:=fun e=>by rw[e,hKfR]at hb;cases hb
    exact⟨e,k5f b o e (k3f b o hb)⟩
   have hkeep6:∀b o,K6 b=some o->w4.heap[b]? =some o:=fun b o hb=>by
    obtain⟨e,_,h5⟩:=k6s b o hb;rw[h4o b e];exact r4.h.keep _ _ h5
   obtain⟨E4,hE4⟩:=r4.h.extOK;rw[hS2]at hE4;have k5R:K5 (D+1)=some bz:=k4 _ _ k4R;have hne4:∀b,own E4 (H (tr.length+1)) b->b≠D+1:=fun b hb e=>by have:=hE4.off hb;rw[e,k5R]at this;cases this
   have hKle6:K.le K6:=by
    refine⟨fun b o hb=> ?_,kall.trans k6m.symm⟩;have hb2:=q3 _ _ hb;have e:b≠D+1:=fun e=>by rw[e,q6]at hb2;cases hb2
    rw[k6a b e (fun h=>by rw[h.1]at hb2;cases hb2)];exact k5f b o e (k3a _ _ hb2)
   have hext6:ExtOK β4 K6 (H (tr.length+1)) w4 E4:=hE4.move (fun b hb=>by
    cases h6:K6 b with
    |none=>rfl
    |some o=>have:=(k6s _ _ h6).2.2;rw[hE4.off hb]at this;cases this) (fun b hb=>h4o b (hne4 b hb)) (fun i Y tr' hi=>(hbaseK (hne _) i Y tr' hi).trans hKle6) hkeep6 (by rw[h4s];exact Nat.le_refl _) h4m
   have hr4:RH β4 G4 K6 (H (tr.length+1)) w4:=by
    have hr4h:=r4.h;rw[hS2]at hr4h;refine hr4h.changeX hext6 hkeep6 ⟨fun b o hb=> ?_,r4.h.gk.same.trans k6m.symm⟩ (fun i x kb h1 h2 h3=> ?_) (by rw[k6m];exact r4.h.amb.mild h4m)
    ·obtain⟨e,h5⟩:=g4b b o hb;rw[k6a b e h5];exact r4.h.gk _ _ hb
    ·have hs:=hr4h.sep i x kb h1 h2 h3;have e:x.b≠D+1:=fun e=>by rw[e,k4 _ _ k4R]at hs;cases hs.1
     refine⟨?_,h4o _ e,by rw[h4s];exact hs.2⟩
     cases h6:K6 x.b with
     |none=>rfl
     |some o=>have:=(k6s _ _ h6).2.2;rw[hs.1]at this;cases this
   refine⟨⟨fun b=>open Classical in if mine K6 β4 E4 (tr.length+1) b then w4.heap[b]? else none,K.amb⟩,?_,⟨rfl,β4,G4,K6,E4,w4,Homes.low.trans q1 low24,?_,hKle6,?_,?_,k6R,?_,?_,?_,?_,?_,by rw[hlen1];exact hext6,by rw[hlen1];exact hne4,Nat.le_refl _,Mild.refl _⟩,?_,?_,by rw[<-hsame,kall];exact r4.h.amb.mild h4m⟩
   ·show Ending.returned (Value.bool jump.isNone)=.returned (.bool (go (tr++ [V.tuple us]).length));rw[hlen1];rcases hjump with⟨rfl,e⟩|⟨rfl,e⟩<;>rw[e]<;>rfl
   ·refine⟨(q2.1.trans g1.1).trans g4.1,fun b o hb=> ?_⟩
    have kn:K3 b=none->K b=none:=fun h=>by
     cases hK:K b with
     |none=>rfl
     |some o'=>have:=(k3n b h).2.1;rw[q3 _ _ hK]at this;cases this
    rcases g4.2 _ _ hb with h1|h1
    ·rcases g1.2 _ _ h1 with h2|h2
     ·exact q2.2 _ _ h2
     ·exact .inr (kn h2)
    ·right
     have e:b≠D+1:=fun e=>by rw[e,k4R]at h1;cases h1
     rw[k4a b e]at h1
     cases hK3b:K3 b with
     |none=>exact kn hK3b
     |some o3=>have:=k1 _ _ hK3b;rw[h1]at this;cases this
   ·rw[hlen1];exact hr4
   ·rw[hlen1];exact h4R
   ·rw[hlen1];intro i x kb h1 h2 h3 e;have hs:=r4.h.sep i x kb (by rw[hS2];exact h1) h2 h3;rw[e,k4 _ _ k4R]at hs;cases hs.1
   ·refine⟨?_,?_⟩
    ·rw[k6a D (by omega) (fun h=>by rw[h.1]at q8;cases q8.1)];exact k5f D _ (by omega) (k3a _ _ q8.1)
    ·cases h:G4 D with
     |none=>rfl
     |some o=>
      exfalso
      have h3:=k3a _ _ q8.1;rcases g4.2 _ _ h with h1|h1
      ·rcases g1.2 _ _ h1 with h2|h2
       ·rw[q8.2]at h2;cases h2
       ·rw[h3]at h2;cases h2
      ·rw[k4a D (by omega),k1 _ _ h3]at h1;cases h1
   ·rw[hlen1];intro b hb;simp only[if_pos hb]
   ·rw[hlen1];intro b hb;simp only[if_neg hb]
   ·intro b o hb;simp only at hb;split at hb
    ·exact hb
    ·cases hb
   ·intro b o hb;obtain⟨e,h5⟩:=kf4 b o hb;rw[h4o b e];exact r4.h.keep _ _ h5
   ·intro b hb;simp only at hb;split at hb
    ·rename_i hm
     cases hf:Kf b with
     |none=>rfl
     |some o=>
      exfalso
      obtain⟨e,h5⟩:=kf4 b o hf;rcases hm.2 with h|h|⟨i,x,kb,h1,h2,h3,rfl⟩|h
      ·cases h6:K6 b with
       |none=>exact h h6
       |some o6=>
        have h7:=(k6s _ _ h6).2.1;have:K2 b≠none:=fun h8=>h7 ⟨h8,by rw[hf];simp⟩;exact q9 b ⟨hm.1,.inl this⟩ (hdis b (by rw[hf];simp))
      ·exact e h
      ·have hs:=r4.h.sep i x kb (by rw[hS2];exact h1) h2 h3;rw[h5]at hs;cases hs.1
      ·have:=hE4.off h;rw[h5]at this;cases this
    ·exact absurd rfl hb
  cases hgk:go (tr.length+1)with
  |true=>
   rw[hgk]at he2;simp only[cond_true]at he2;subst he2;exact fin none (.inl ⟨rfl,hgk⟩)
  |false=>
   rw[hgk]at he2;simp only[cond_false]at he2;subst he2;unfold exitCode at hj;split at hj
   ·cases hj;exact fin (some .ret) (.inr ⟨rfl,hgk⟩)
   ·cases hj;exact fin (some (.exit _)) (.inr ⟨rfl,hgk⟩)
   ·cases hj
 obtain⟨v,hcall⟩:=hit X rfl hY hgo
 have hKD0:∀b,D<=b->K b=none:=fun b hb=>by
  cases h:K b with
  |none=>rfl
  |some o=>have:=hKlt _ _ h;omega
 obtain⟨K0,hK0⟩:∃K0:Kept,K0=⟨fun b=>if b=D then some (.deferred (some []))else K b,K.amb⟩:=⟨_,rfl⟩
 have k0s:K0.amb=K.amb:=by rw[hK0]
 have hWm:Mild w W1:=by rw[<-hW1];exact(Mild.alloc _ _).trans (Mild.alloc _ _)
 have k0a:∀b,b≠D->K0 b=K b:=fun b hb=>by rw[hK0];simp[hb]
 have k0D:K0 D=some (.deferred (some [])):=by rw[hK0];simp
 have hkeep0:∀b o,K0 b=some o->W1.heap[b]? =some o:=fun b o hb=>by
  by_cases e:b=D
  ·subst e;rw[k0D]at hb;cases hb;exact hK1
  ·rw[k0a b e]at hb;rw[hold b (hKlt _ _ hb)];exact r.h.keep _ _ hb
 have hESlt:∀b,own ES S.h b->b<D:=fun b hb=>by rw[<-hD];exact hES.lt hb
 have hKK0:K.le K0:=⟨fun b o hb=>by rw[k0a b (by have:=hKlt _ _ hb;omega)];exact hb,k0s.symm⟩
 have hext0:ExtOK β K0 S.h W1 ES:=hES.move (fun b hb=>by rw[k0a b (by have:=hESlt b hb;omega)];exact hES.off hb) (fun b hb=>hold b (hESlt b hb)) (fun i Y tr' hi=>(hbaseK (fun _ _ tr' h=>⟨tr',h⟩) i Y tr' hi).trans hKK0) hkeep0 (by rw[hsz,hD];omega) hWm
 have hr1:RH β G K0 (H 0) W1:=by
  rw[hH0];refine r.h.changeX hext0 hkeep0 ⟨fun b o hb=> ?_,r.h.gk.same.trans k0s.symm⟩ (fun i x k h1 h2 h3=> ?_) (by rw[k0s];exact r.h.amb.mild hWm)
  ·have hb':=r.h.gk _ _ hb;have:=hKlt _ _ hb';rw[k0a b (by omega)];exact hb'
  ·have hs:=r.h.sep i x k h1 h2 h3;rw[hD]at hs;exact⟨by rw[k0a _ (by omega)];exact hs.1,hold _ hs.2,by rw[hsz];omega⟩
 have hI0:I (D+1) [] ⟨fun b=>open Classical in if mine K0 β ES 0 b then W1.heap[b]? else none,K.amb⟩ W1:=by
  refine⟨rfl,β,G,K0,ES,W1,Homes.low_refl _ _,G.ext_refl K,hKK0,hr1,?_,?_,fun i x kb h1 h2 h3=> ?_,⟨k0D,?_⟩,fun b hb=>by simp only[List.length_nil]at hb⊢;simp only[if_pos hb],fun b hb=>by simp only[List.length_nil]at hb⊢;simp only[if_neg hb],fun b o hb=> ?_,by rw[List.length_nil,hH0];exact hext0,fun b hb=>by rw[List.length_nil,hH0]at hb;have:=hESlt b hb;omega,Nat.le_refl _,Mild.refl _⟩
  ·rw[hL1,hrk];simp[hgo]
  ·rw[k0a _ (by omega)];exact hKD0 _ (by omega)
  ·simp only[List.length_nil,hH0]at h1;have:=(r.h.sep i x kb h1 h2 h3).2;omega
  ·cases h:G D with
   |none=>rfl
   |some o=>have:=r.h.gk _ _ h;rw[hKD0 D (Nat.le_refl _)]at this;cases this
  ·simp only at hb;split at hb
   ·exact hb
   ·cases hb
 refine⟨D+1,[{target:=.collected D,args:= #[]}],W1,{target:=.fn (.func f) c',args:= #[.func (.yield (D+1)) #[] #[]]},W1,f, #[.func (.yield (D+1)) #[] #[]]++c',W1,?_,?_,fun _ _=>trivial,?_,fun h=>by simp[wide,Fence.wide]at h,?_⟩
 ·rw[<-hW1,hrec,<-hD];exact run_enterLoop_outer _ _ _ _ _
 ·simp only[resolve,hfe];simp[go_sem]
 ·simp[invoke,go_sem,hcf]
 refine(callsIn_wide (n:=0-1)).2 ((hcall.2 [.ext (D+1)] G K W1 _ ⟨rfl,?_,?_,?_,?_,r.h.gk,r.h.amb.mild hWm,?_⟩ ?_ ?_).mono ?_)
 ·intro i k hi
  match i,hi with
  |0,hi=>cases hi;trivial
  |i+1,hi=>simp at hi
 ·intro i j x y k k' hi hj _ _ hbi
  match i,hbi with
  |0,hbi=>cases hbi
  |i+1,hbi=>simp at hbi
 ·intro i x k hi _ hbi
  match i,hbi with
  |0,hbi=>cases hbi
  |i+1,hbi=>simp at hbi
 ·intro b o hb;rw[hold b (hKlt _ _ hb)];exact r.h.keep _ _ hb
 ·intro i Y tr hi
  match i,hi with
  |0,hi=>
   cases hi;refine⟨D+1,_,rfl,hI0,K.le_refl,fun b hb=>⟨?_,fun j x k hj _ hbj=> ?_⟩⟩
   ·simp only at hb;split at hb
    ·rename_i hm;exact hm.1
    ·exact absurd rfl hb
   ·match j,hbj with
    |0,hbj=>cases hbj
    |j+1,hbj=>simp at hbj
  |i+1,hi=>simp at hi
 ·simp[hcl];omega
 ·intro j hj
  cases j with
  |zero=>
   show Rel G [Hm.ext (D+1)] (.yld 0) _
   have e:(#[Value.func (.yield (D+1)) #[] #[]]++c').getD 0 Go.undef=.func (.yield (D+1)) #[] #[]:=by
    rw[agetD_append_left (by simp)];simp
   rw[e];exact .yld rfl
  |succ j=>
   have hj':j<caps.length:=by simpa using hj
   have h1:Rel G [] (caps.getD j .undef) (c'.getD j Go.undef):=by simpa using(hcc j hj').take (underL_getD hcaps j)
   have e:(#[Value.func (.yield (D+1)) #[] #[]]++c').getD (j+1) Go.undef=c'.getD j Go.undef:=by
    rw[agetD_append_right (by simp)];simp
   rw[e];exact h1.up _
 rintro e w' ⟨x,β',G',K',rfl,b1,gx,kx,rh,-⟩
 obtain⟨l,E,hl,hI,-,hE⟩:=rh.ext 0 X _ rfl;obtain⟨β2,G2,K2,E0,q1,q2,q3,hr,hR,q6,q7,q8,q9,q12,q13⟩:=move hI (fun b o hb=>rh.keep b o (kx b o hb)) (by rw[kx.same];exact rh.amb);have hfl:(feed X.go [] ys).length=stopK go 0 ys.length:=feed_length go ys [];rw[hfl]at hr hR q7 q12 q13;generalize stopK go 0 ys.length=kk at hr hR q7 q12 q13 hQ
 have hltR:=(Array.getElem?_eq_some_iff.1 hR).1;have hbusy:(rk kk).state≠ .busy:=by rw[hrk,hrec];simp only;cases go kk<;>simp
 have hpend:(rk kk).pending=bif go kk then none else some jc:=by rw[hrk,hrec];simp only;cases go kk<;>simp
 obtain⟨w4,hw4⟩:∃w4,w'.putObj (D+1) (.loop {rk kk with state:=.exhausted})=w4:=⟨_,rfl⟩
 have h4o:∀b,b≠D+1->w4.heap[b]? =w'.heap[b]? :=fun b hb=>by rw[<-hw4];exact World.putObj_heap_other hb
 have h4s:w4.heap.size=w'.heap.size:=by rw[<-hw4];simp
 have h4m:Mild w' w4:=by rw[<-hw4];exact Mild.putObj _ _ _
 refine⟨(rk kk).pending,w4,by rw[<-hw4];exact run_endLoop hR hbusy,?_⟩
 obtain⟨K3,hK3⟩:∃K3:Kept,K3=⟨fun b=>if b=D then none else K2 b,K2.amb⟩:=⟨_,rfl⟩
 have k3s:K3.amb=K2.amb:=by rw[hK3]
 have k3D:K3 D=none:=by rw[hK3];simp
 have k3a:∀b,b≠D->K3 b=K2 b:=fun b hb=>by rw[hK3];simp[hb]
 have g2D:G2 D=none:=q8.2;have hD4:w4.heap[D]? =some (.deferred (some [])):=by rw[h4o D (by omega)];exact hr.keep _ _ q8.1
 have hkeep3:∀b o,K3 b=some o->w4.heap[b]? =some o:=fun b o hb=>by
  have e:b≠D:=fun e=>by rw[e,k3D]at hb;cases hb
  rw[k3a b e]at hb;rw[h4o b (fun e=>by rw[e,q6]at hb;cases hb)];exact hr.keep _ _ hb
 have hownD:∀b,own E0 (H kk) b->b≠D:=fun b hb e=>by have:=q12.off hb;rw[e,q8.1]at this;cases this
 have hKK3:K.le K3:=⟨fun b o hb=>by rw[k3a b (by have:=hKlt _ _ hb;omega)];exact q3 _ _ hb,q3.same.trans k3s.symm⟩
 have hext3:ExtOK β2 K3 (H kk) w4 E0:=q12.move (fun b hb=>by rw[k3a b (hownD b hb)];exact q12.off hb) (fun b hb=>h4o b (q13 b hb)) (fun i Y tr' hi=>(hbaseK (hne _) i Y tr' hi).trans hKK3) hkeep3 (by rw[h4s];exact Nat.le_refl _) h4m
 have hr3:RH β2 G2 K3 (H kk) w4:=by
  refine hr.changeX hext3 hkeep3 ⟨fun b o hb=> ?_,hr.gk.same.trans k3s.symm⟩ (fun i x k h1 h2 h3=> ?_) (by rw[k3s];exact hr.amb.mild h4m)
  ·have e:b≠D:=fun e=>by rw[e,g2D]at hb;cases hb
   rw[k3a b e];exact hr.gk _ _ hb
  ·have hs:=hr.sep i x k h1 h2 h3;have e:x.b≠D:=fun e=>by rw[e,q8.1]at hs;cases hs.1
   exact⟨by rw[k3a _ e];exact hs.1,h4o _ (q7 i x k h1 h2 h3),by rw[h4s];exact hs.2⟩
 have hr5:RH (β2++ [Hm.lie ⟨D,0,0⟩]) G2 K3 (H kk++ [.obj (.deferred (some []))]) w4:=by
  refine hr3.snoc hext3 k3D (Array.getElem?_eq_some_iff.1 hD4).1 (fun i y k h1 h2 h3 e=> ?_) hownD hD4 rfl;have hs:=hr.sep i y k h1 h2 h3;have e':y.b=D:=e;rw[e',q8.1]at hs;cases hs.1
 have hlb:β2.length=S.h.length:=by rw[hr.len,hlen]
 have post:Qw (bif go kk then .normal else jx) {a with defers:=[{target:=.collected D,args:= #[]}]++a.defers} w4:=by
  exact hQ β2 G2 K3 D w4 q1 hlb q2 hKK3 hr5
 rw[hpend]
 cases hgk:go kk with
 |true=>rw[hgk]at post;exact post
 |false=>
  rw[hgk]at post;simp only[cond_false]at post⊢;unfold exitCode at hj;split at hj
  ·cases hj;exact wpIn_ret post
  ·cases hj;exact wpIn_exit post
  ·cases hj
theorem range_wp{P:Program}{m:Nat}{β:Homes}{G K:Kept}{a:Act}{w:World}{S:St}(r:RS β G K S a w){g:Operand}{ps:Array Tmp}{assign body:Code}{f:FuncId}{caps ys:List V}{go:Nat->Bool}{H:Nat->List Blk}{jx:Exit}{jc:Code}{Qw:Exit->Act->World->Prop}
  (hg:S.eval g=.func (.func f) [] caps) (hcaps:underL 0 caps=true) (hcf:∀xs w,(callFunc f xs).run P w=.ok (.enter f xs) w) (hit:Iter P f caps ys) (hH0:H 0=S.h) (hlen:∀k,(H k).length=S.h.length) (hne:∀k,extAs S.h (H k))
  (hgo:go 0=true) (hj:exitCode jx=some jc)
  (hround:∀(l:Nat) (k:Nat) (us:List V),ys[k]? =some (.tuple us)->go k=true->us.length=ps.size/\
   AWP P ⟨some l,S.h.length⟩ assign ⟨setPs ps.toList us S.t,H k,[]⟩ fun e S1=>e=.normal/\extAs S.h S1.h/\
    AWP P ⟨some l,S.h.length⟩ body S1 fun e S2=>e=(bif go (k+1)then .normal else jx)/\S2.h=H (k+1))
  (hQ:∀(β2:Homes) (G2 K3:Kept) (D:Nat) (w4:World),β.le β2->β2.length=S.h.length->G.ext K G2->K.le K3->RH (β2++ [Hm.lie ⟨D,0,0⟩]) G2 K3 (H (stopK go 0 ys.length)++ [.obj (.deferred (some []))]) w4->
   Qw (bif go (stopK go 0 ys.length)then .normal else jx) {a with defers:=[{target:=.collected D,args:= #[]}]++a.defers} w4):
  (Code.rangeFunc g ps assign body).wpIn (wide ⟨none,m⟩) 0 P Qw a w:=by
 have e:∀β2,Homes.low S.h.length β β2->β.le β2:=fun β2 h=>by
  unfold Homes.low at h;rwa[List.take_of_length_le (by rw[r.h.len];exact Nat.le_refl _)]at h
 exact range_wpM r hg hcaps hcf hit hH0 hlen hne hgo hj (fun G2 β2 h1 h2 j=>(r.tmp j).mono h1 (e β2 h2)) hround fun β2 G2 K3 D w4 q1=>hQ β2 G2 K3 D w4 (e β2 q1)
theorem AWP.range{P:Program}{m:Nat}{S:St}{g:Operand}{ps:Array Tmp}{assign body:Code}{f:FuncId}{caps ys:List V}{go:Nat->Bool}{H:Nat->List Blk}{jx:Exit}{jc:Code}{Q:Exit->St->Prop}
  (hg:S.eval g=.func (.func f) [] caps) (hcaps:underL 0 caps=true) (hcf:∀xs w,(callFunc f xs).run P w=.ok (.enter f xs) w) (hit:Iter P f caps ys) (hH0:H 0=S.h) (hlen:∀k,(H k).length=S.h.length) (hne:∀k,extAs S.h (H k))
  (hd:∀k j,j∈S.d->(H k)[j]? =some (.obj (.deferred (some [])))) (hgo:go 0=true) (hj:exitCode jx=some jc)
  (hround:∀(l:Nat) (k:Nat) (us:List V),ys[k]? =some (.tuple us)->go k=true->us.length=ps.size/\
   AWP P ⟨some l,S.h.length⟩ assign ⟨setPs ps.toList us S.t,H k,[]⟩ fun e S1=>e=.normal/\extAs S.h S1.h/\
    AWP P ⟨some l,S.h.length⟩ body S1 fun e S2=>e=(bif go (k+1)then .normal else jx)/\S2.h=H (k+1))
  (hQ:Q (bif go (stopK go 0 ys.length)then .normal else jx) {t:=S.t,h:=H (stopK go 0 ys.length)++ [.obj (.deferred (some []))],d:=S.h.length::S.d}):
  AWP P ⟨none,m⟩ (.rangeFunc g ps assign body) S Q:=fun β G K a w r=>
 range_wp r hg hcaps hcf hit hH0 hlen hne hgo hj hround fun β2 G2 K3 D w4 q1 hlb q2 q3 hr5=>by
  generalize stopK go 0 ys.length=kk at hr5 hQ
  refine⟨{t:=S.t,h:=H kk++ [.obj (.deferred (some []))],d:=S.h.length::S.d},β2++ [Hm.lie ⟨D,0,0⟩],G2,K3,(q1.trans (Homes.le_append _ _)).low _,q2,q3,⟨hr5,r.size,fun j=> ?_,?_,fun j hj=> ?_⟩,hQ⟩
  ·exact(r.tmp j).mono q2.1 (q1.trans (Homes.le_append _ _))
  ·simp[r.marks]
  ·cases j with
   |zero=>
    refine⟨⟨D,0,0⟩,?_,rfl,?_⟩
    ·simp[<-hlb]
    ·simp[<-hlen kk]
   |succ j=>
    have hj':j<S.d.length:=by simpa using hj
    obtain⟨y,p1,p2,p3⟩:=r.mark j hj';refine⟨y,(q1.trans (Homes.le_append _ _)) _ _ (by simp) (by simpa using p1),by simpa using p2,?_⟩;have hm:S.d.getD j 0∈S.d:=by rw[gE,List.getElem?_eq_getElem hj'];exact List.getElem_mem hj'
    have:=hd kk _ hm;show(H kk++ [_])[(S.h.length::S.d).getD (j+1) 0]? =_;simp only[List.getD_cons_succ];rw[aL (List.getElem?_eq_some_iff.1 this).1];exact this
mutual
def V.free:V->Bool
 |.cref _ _|.list _ _ _=>false
 |.arr w n c=>(List.range n).all fun r=>(List.range w).all fun j=>(c r j).free
 |.agg vs|.tuple vs=>freeL vs
 |.func _ f c=>freeL f&&freeL c
 |.iface _ v=>v.free
 |_=>true
def freeL:List V->Bool
 |[]=>true
 |v::vs=>v.free&&freeL vs
end
theorem freeL_getD:∀ {vs:List V} (_:freeL vs=true) (j:Nat),(vs.getD j .undef).free=true
 |[],_,j=>by simp[V.free]
 |v::vs,h,0=>by simp only[freeL,Bool.and_eq_true]at h;simpa using h.1
 |v::vs,h,j+1=>by
  simp only[freeL,Bool.and_eq_true]at h;simpa using freeL_getD h.2 j
theorem Rel.free{G:Kept}{β:Homes}{v:V}{x:Value}(h:Rel G β v x):v.free=true->∀(G':Kept),Rel G' β v x:=by
 induction h with
 |undef x=>intros;exact .undef x
 |bool b=>intros;exact .bool b
 |int k n=>intros;exact .int k n
 |str s=>intros;exact .str s
 |nil=>intros;exact .nil
 |nils=>intros;exact .nils
 |nilfunc=>intros;exact .nilfunc
 |nilmap=>intros;exact .nilmap
 |niliface=>intros;exact .niliface
 |ref hi=>intros;exact .ref hi
 |row hi hn hc hm=>intros;exact .row hi hn hc hm
 |row0 hi=>intros;exact .row0 hi
 |map hi=>intros;exact .map hi
 |yld hi=>intros;exact .yld hi
 |sub hi hc hm=>intros;exact .sub hi hc hm
 |sub0=>intros;exact .sub0
 |agg hs h ih=>intro hp G';exact .agg hs fun j hj=>ih j hj (freeL_getD hp j) G'
 |tuple hs h ih=>intro hp G';exact .tuple hs fun j hj=>ih j hj (freeL_getD hp j) G'
 |func hf hc h h' ih ih'=>
  intro hp G';simp only[V.free,Bool.and_eq_true]at hp;exact .func hf hc (fun j hj=>ih j hj (freeL_getD hp.1 j) G') fun j hj=>ih' j hj (freeL_getD hp.2 j) G'
 |iface h ih=>intro hp G';exact .iface (ih hp G')
 |arr hs h ih=>
  intro hp G';simp only[V.free,List.all_eq_true,List.mem_range]at hp;exact .arr hs fun r j hr hj=>ih r j hr hj (hp r hr j hj) G'
 |cref _ _ _=>intro hp;simp[V.free]at hp
 |list0=>intro hp;simp[V.free]at hp
 |list _ _ _ _ _=>intro hp;simp[V.free]at hp
def BlkFree:Blk->Prop
 |.cells cs=>freeL cs=true
 |.rows _ w m c=>∀r j,r<m->j<w->(c r j).free=true
 |.iter v _ _=>v.free=true
 |.rowsL _ _ _ _ _ _ _=>False
 |.maps _ vs=>freeL vs=true
 |_=>True
theorem BlkOK.free{G G':Kept}{β:Homes}{w:World}{k:Blk}{x:Hm}(h:BlkOK G β w k x)(hf:BlkFree k):BlkOK G' β w k x:=by
 cases x with
 |void=>cases k<;>first|exact h|exact h.elim
 |nil=>cases k<;>first|exact h|exact h.elim
 |lie y=>
  cases k with
  |gone=>trivial
  |void=>exact h
  |cells cs=>obtain⟨c,t,h1,h2,h3⟩:=h;exact⟨c,t,h1,h2,fun j hj=>(h3 j hj).free (freeL_getD hf j) G'⟩
  |rows et n m rs=>obtain⟨h0,hn,hc,c,h1,h2,h3,h4,h5⟩:=h;exact⟨h0,hn,hc,c,h1,h2,h3,h4,fun r j hr hj=>(h5 r j hr hj).free (hf r j hr hj) G'⟩
  |iter v n seen=>obtain⟨b,h1,h2⟩:=h;exact⟨b,h1.free hf G',h2⟩
  |obj o=>exact h
  |ext X tr=>exact h
  |rowsL _ _ _ _ _ _ _=>exact hf.elim
  |maps ks vs=>obtain⟨es,h1,h2,h3⟩:=h;exact⟨es,h1,h2,fun j k hj=>by obtain⟨z,q1,q2,q3,q4⟩:=h3 j k hj;exact⟨z,q1,q2,q3,q4.free (freeL_getD hf j) G'⟩⟩
 |ext l=>cases k<;>first|exact h|exact h.elim
def stillB:List Bool->List Blk->List Blk
 |true::fs,b::h=>b::stillB fs h
 |false::fs,_::h=>.gone::stillB fs h
 |[],_::h=>.gone::stillB [] h
 |_,[]=>[]
def otherB:List Bool->List Blk->List Blk
 |true::fs,_::h=>.gone::otherB fs h
 |false::fs,b::h=>b::otherB fs h
 |[],b::h=>b::otherB [] h
 |_,[]=>[]
def mergeB:List Bool->List Blk->List Blk->List Blk
 |true::fs,b::h,_::l=>b::mergeB fs h l
 |false::fs,_::h,b::l=>b::mergeB fs h l
 |[],_::h,b::l=>b::mergeB [] h l
 |_,_,_=>[]
theorem stillB_get:∀(fs:List Bool) (h:List Blk) (i:Nat),(stillB fs h)[i]? =if fs.getD i false=true then h[i]? else h[i]?.map fun _=>.gone
 |fs,[],i=>by cases fs with|nil=>simp[stillB]|cons f fs=>cases f<;>simp[stillB]
 |[],b::h,0=>by simp[stillB]
 |[],b::h,i+1=>by simpa[stillB]using stillB_get [] h i
 |true::fs,b::h,0=>by simp[stillB]
 |true::fs,b::h,i+1=>by simpa[stillB]using stillB_get fs h i
 |false::fs,b::h,0=>by simp[stillB]
 |false::fs,b::h,i+1=>by simpa[stillB]using stillB_get fs h i
theorem otherB_get:∀(fs:List Bool) (h:List Blk) (i:Nat),(otherB fs h)[i]? =if fs.getD i false=true then h[i]?.map (fun _=>.gone)else h[i]?
 |fs,[],i=>by cases fs with|nil=>simp[otherB]|cons f fs=>cases f<;>simp[otherB]
 |[],b::h,0=>by simp[otherB]
 |[],b::h,i+1=>by simpa[otherB]using otherB_get [] h i
 |true::fs,b::h,0=>by simp[otherB]
 |true::fs,b::h,i+1=>by simpa[otherB]using otherB_get fs h i
 |false::fs,b::h,0=>by simp[otherB]
 |false::fs,b::h,i+1=>by simpa[otherB]using otherB_get fs h i
theorem mergeB_get:∀(fs:List Bool) (h l:List Blk) (i:Nat),l.length=h.length->(mergeB fs h l)[i]? =if fs.getD i false=true then h[i]? else l[i]?
 |fs,[],[],i,_=>by cases fs with|nil=>simp[mergeB]|cons f fs=>cases f<;>simp[mergeB]
 |[],b::h,c::l,0,_=>by simp[mergeB]
 |[],b::h,c::l,i+1,e=>by simpa[mergeB]using mergeB_get [] h l i (by simpa using e)
 |true::fs,b::h,c::l,0,_=>by simp[mergeB]
 |true::fs,b::h,c::l,i+1,e=>by simpa[mergeB]using mergeB_get fs h l i (by simpa using e)
 |false::fs,b::h,c::l,0,_=>by simp[mergeB]
 |false::fs,b::h,c::l,i+1,e=>by simpa[mergeB]using mergeB_get fs h l i (by simpa using e)
theorem stillB_length:∀(fs:List Bool) (h:List Blk),(stillB fs h).length=h.length
 |fs,[]=>by cases fs with|nil=>simp[stillB]|cons f fs=>cases f<;>simp[stillB]
 |[],b::h=>by simp[stillB,stillB_length [] h]
 |true::fs,b::h=>by simp[stillB,stillB_length fs h]
 |false::fs,b::h=>by simp[stillB,stillB_length fs h]
theorem otherB_length:∀(fs:List Bool) (h:List Blk),(otherB fs h).length=h.length
 |fs,[]=>by cases fs with|nil=>simp[otherB]|cons f fs=>cases f<;>simp[otherB]
 |[],b::h=>by simp[otherB,otherB_length [] h]
 |true::fs,b::h=>by simp[otherB,otherB_length fs h]
 |false::fs,b::h=>by simp[otherB,otherB_length fs h]
theorem mergeB_length:∀(fs:List Bool) (h l:List Blk),l.length=h.length->(mergeB fs h l).length=h.length
 |fs,[],[],_=>by cases fs with|nil=>simp[mergeB]|cons f fs=>cases f<;>simp[mergeB]
 |[],b::h,c::l,e=>by simp[mergeB,mergeB_length [] h l (by simpa using e)]
 |true::fs,b::h,c::l,e=>by simp[mergeB,mergeB_length fs h l (by simpa using e)]
 |false::fs,b::h,c::l,e=>by simp[mergeB,mergeB_length fs h l (by simpa using e)]
theorem RH.part{β:Homes}{G K:Kept}{h h2:List Blk}{w:World}(r:RH β G K h w)(hn:noExt h=true)(hl:h2.length=h.length)(hp:∀(i:Nat) (k:Blk),h2[i]? =some k->k≠ .gone->h[i]? =some k):RH β G K h2 w:=by
 refine⟨by rw[r.len,hl],fun i k hk=> ?_,fun i j x y k k' hi hj g g' hbi hbj e=>r.inj i j x y k k' (hp i k hi g) (hp j k' hj g') g g' hbi hbj e,fun i x k hi g hb=>r.sep i x k (hp i k hi g) g hb,r.keep,r.gk,r.amb,fun i X tr hi=>absurd (hp i _ hi (by simp)) (noExt_not hn)⟩;by_cases hg:k=.gone
 ·subst hg;cases(β[i]?.getD .void)<;>trivial
 ·exact r.blk i k (hp i k hk hg)
def isVoid:Blk->Bool
 |.void=>true
 |_=>false
theorem AWP.rangeF{P:Program}{m:Nat}{S:St}{g:Operand}{ps:Array Tmp}{assign body:Code}{f:FuncId}{caps ys:List V}{go:Nat->Bool}{fs:List Bool}{T:List V}{H:Nat->List Blk}{jx:Exit}{jc:Code}{Q:Exit->St->Prop}
  (hd:S.d=[]) (hnS:noExt S.h=true) (hnv:(S.h.any isVoid)=false) (hTl:T.length=S.t.length) (hT:∀j,T.getD j .undef=S.t.getD j .undef\/Snap (stillB fs S.h) (S.t.getD j .undef) (T.getD j .undef)) (hg:St.eval ⟨T,H 0,[]⟩ g=.func (.func f) [] caps) (hcaps:underL 0 caps=true) (hcf:∀xs w,(callFunc f xs).run P w=.ok (.enter f xs) w)
  (hit:Iter P f caps ys) (hH0:H 0=otherB fs S.h) (hlen:∀k,(H k).length=S.h.length) (hne:∀k,noExt (H k)=true) (hgo:go 0=true) (hj:exitCode jx=some jc)
  (hround:∀(l:Nat) (k:Nat) (us:List V),ys[k]? =some (.tuple us)->go k=true->us.length=ps.size/\
   AWP P ⟨some l,S.h.length⟩ assign ⟨setPs ps.toList us T,H k,[]⟩ fun e S1=>e=.normal/\noExt S1.h=true/\
    AWP P ⟨some l,S.h.length⟩ body S1 fun e S2=>e=(bif go (k+1)then .normal else jx)/\S2.h=H (k+1))
  (hfree:∀(i:Nat) (k:Blk),(H (stopK go 0 ys.length))[i]? =some k->BlkFree k)
  (hQ:Q (bif go (stopK go 0 ys.length)then .normal else jx) {t:=S.t,h:=mergeB fs S.h (H (stopK go 0 ys.length))++ [.obj (.deferred (some []))],d:=[S.h.length]}):
  AWP P ⟨none,m⟩ (.rangeFunc g ps assign body) S Q:=fun β G K a w r=>by
 have hstill:∀ {i:Nat} {k:Blk},(stillB fs S.h)[i]? =some k->k≠ .gone->fs.getD i false=true/\S.h[i]? =some k:=fun {i k} hi hk=>by
  rw[stillB_get]at hi;split at hi
  ·rename_i hf;exact⟨hf,hi⟩
  ·cases hh:S.h[i]? with
   |none=>rw[hh]at hi;cases hi
   |some k'=>rw[hh]at hi;cases hi;exact absurd rfl hk
 have hother:∀ {i:Nat} {k:Blk},(otherB fs S.h)[i]? =some k->k≠ .gone->fs.getD i false=false/\S.h[i]? =some k:=fun {i k} hi hk=>by
  rw[otherB_get]at hi;split at hi
  ·cases hh:S.h[i]? with
   |none=>rw[hh]at hi;cases hi
   |some k'=>rw[hh]at hi;cases hi;exact absurd rfl hk
  ·rename_i hf;exact⟨by simpa using hf,hi⟩
 have rF:RH β G K (stillB fs S.h) w:=r.h.part hnS (stillB_length _ _) fun i k hi hk=>(hstill hi hk).2
 obtain⟨G1,hG1⟩:∃G1,allOf β G (stillB fs S.h) w=G1:=⟨_,rfl⟩
 have hGG:G.le G1:=by rw[<-hG1];exact allOf_le _ _ _ _
 have hGk:KeepsIn G1 w:=by rw[<-hG1];exact allOf_keeps rF
 have hGn:∀b o,G1 b=some o->G b=some o\/∃(i:Nat) (x:Home) (k:Blk),(stillB fs S.h)[i]? =some k/\k≠ .gone/\β[i]? =some (.lie x)/\x.b=b:=fun b o hb=>by
  rw[<-hG1]at hb;change allF β G (stillB fs S.h) w b=some o at hb
  unfold allF at hb;split at hb
  ·rename_i o' hG;exact .inl (hG.trans hb)
  ·split at hb
   ·rename_i hex;exact .inr hex
   ·cases hb
 have hGh:∀(i:Nat) (x:Home) (k:Blk),(stillB fs S.h)[i]? =some k->k≠ .gone->β[i]? =some (.lie x)->G1 x.b=w.heap[x.b]? :=fun i x k h1 h2 h3=>by
  have hlt:=(rF.sep i x k h1 h2 h3).2;rw[Array.getElem?_eq_getElem hlt,<-hG1];exact allOf_home rF h1 h2 h3 (Array.getElem?_eq_getElem hlt)
 obtain⟨K1,hK1⟩:∃K1:Kept,K1=⟨fun b=>match K b with|some o=>some o|none=>G1 b,K.amb⟩:=⟨_,rfl⟩
 have k1s:K1.amb=K.amb:=by rw[hK1]
 have hKK:K.le K1:=⟨fun b o hb=>by rw[hK1];simp[hb],k1s.symm⟩
 have hG1K1:G1.le K1:=by
  refine⟨fun b o hb=> ?_,hGG.same.symm.trans (r.h.gk.same.trans k1s.symm)⟩;rw[hK1]
  cases hKb:K b with
  |none=>simp[hKb,hb]
  |some o'=>
   have h1:=r.h.keep _ _ hKb;rw[hGk _ _ hb]at h1;simp[hKb,h1]
 have hK1n:∀b,K1 b=none->K b=none:=fun b hb=>by
  cases hKb:K b with
  |none=>rfl
  |some o=>rw[hKK _ _ hKb]at hb;cases hb
 have r1:RS β G1 K1 ⟨T,H 0,[]⟩ {a with defers:=[]} w:=by
  refine⟨?_,by rw[hTl];exact r.size,fun j=> ?_,rfl,fun j hj=>by simp at hj⟩
  ·rw[hH0];have r0:RH β G K (otherB fs S.h) w:=r.h.part hnS (otherB_length _ _) fun i k hi hk=>(hother hi hk).2;refine⟨r0.len,fun i k hk=> ?_,r0.inj,fun i x k hi hk hb=>⟨?_,(r0.sep i x k hi hk hb).2⟩,fun b o hb=> ?_,hG1K1,by rw[k1s];exact r.h.amb,fun i X tr hi=>absurd hi (noExt_not (by rw[<-hH0];exact hne 0))⟩
   ·by_cases hg:k=.gone
    ·subst hg;cases(β[i]?.getD .void)<;>trivial
    ·exact(r0.blk i k hk).mono hGG (Homes.le_refl _) fun _ _=>rfl
   ·cases h1:K1 x.b with
    |none=>rfl
    |some o=>
     exfalso
     have hs:=(r0.sep i x k hi hk hb).1;rw[hK1]at h1;simp only[hs]at h1;rcases hGn _ _ h1 with h2|⟨i2,x2,k2,p1,p2,p3,p4⟩
     ·have:=r.h.gk _ _ h2;rw[hs]at this;cases this
     ·obtain⟨f1,s1⟩:=hstill p1 p2;obtain⟨f2,s2⟩:=hother hi hk;have:=r.h.inj i i2 x x2 k k2 s2 s1 hk p2 hb p3 p4.symm;subst this;rw[f1]at f2;cases f2
   ·rw[hK1]at hb;simp only at hb;split at hb
    ·rename_i o' hKb;cases hb;exact r.h.keep _ _ hKb
    ·exact hGk _ _ hb
  ·rcases hT j with h|h
   ·show Rel G1 β (T.getD j .undef) _;rw[h];exact(r.tmp j).mono hGG (Homes.le_refl _)
   ·have:=snap_rel rF h (r.tmp j);rw[hG1]at this;exact this.up _
 have hl0:(H 0).length=S.h.length:=hlen 0;have hdef:a.defers=[]:=List.eq_nil_of_length_eq_zero (by rw[r.marks,hd];rfl);have ha:({a with defers:=[]}:Act)=a:=by cases a;simp at hdef;subst hdef;rfl
 rw[ha]at r1
 refine range_wp (m:=m) r1 hg hcaps hcf hit rfl (fun k=>by rw[hlen k];exact hl0.symm) (fun k=>.of_no (hne k)) hgo hj (fun l k us h1 h2=>by
  obtain⟨p1,p2⟩:=hround l k us h1 h2;refine⟨p1,?_⟩;simp only[hl0]
  exact p2.mono fun e S1 ⟨q1,q2,q3⟩=>⟨q1,.of_no q2,q3⟩) fun β2 G2 K3 D w4 q1 hlb q2 q3 hr5=> ?_
 rw[show(St.mk T (H 0) []).h.length=S.h.length from hl0]at hlb;generalize stopK go 0 ys.length=kk at hr5 hQ hfree
 let FH:Nat->Prop:=fun b=>∃(i:Nat) (x:Home) (k:Blk),(stillB fs S.h)[i]? =some k/\k≠ .gone/\β[i]? =some (.lie x)/\x.b=b
 have hFK:∀b,FH b->K b=none:=fun b ⟨i,x,k,h1,h2,h3,h4⟩=>by rw[<-h4];exact(rF.sep i x k h1 h2 h3).1
 have hF4:∀b,FH b->w4.heap[b]? =w.heap[b]?/\K3 b≠none:=fun b ⟨i,x,k,h1,h2,h3,h4⟩=>by
  have h5:=hGh i x k h1 h2 h3;have hlt:=(rF.sep i x k h1 h2 h3).2;rw[Array.getElem?_eq_getElem hlt]at h5;have h6:=q3 _ _ (hG1K1 _ _ h5);rw[<-h4,hr5.keep _ _ h6,Array.getElem?_eq_getElem hlt];exact⟨rfl,by rw[h6];simp⟩
 obtain⟨G5,hG5⟩:∃G5:Kept,G5=⟨fun b=>open Classical in if FH b then none else G2 b,G2.amb⟩:=⟨_,rfl⟩
 obtain⟨K5,hK5⟩:∃K5:Kept,K5=⟨fun b=>open Classical in if FH b then none else K3 b,K3.amb⟩:=⟨_,rfl⟩
 have g5m:G5.amb=G2.amb:=by rw[hG5]
 have k5m:K5.amb=K3.amb:=by rw[hK5]
 have g5n:∀b,¬FH b->G5 b=G2 b:=fun b hb=>by rw[hG5];simp only[if_neg hb]
 have k5n:∀b,¬FH b->K5 b=K3 b:=fun b hb=>by rw[hK5];simp only[if_neg hb]
 have g5s:∀b o,G5 b=some o->¬FH b/\G2 b=some o:=fun b o hb=>by
  rw[hG5]at hb;simp only at hb;split at hb
  ·cases hb
  ·rename_i hf;exact⟨hf,hb⟩
 have k5s:∀b o,K5 b=some o->¬FH b/\K3 b=some o:=fun b o hb=>by
  rw[hK5]at hb;simp only at hb;split at hb
  ·cases hb
  ·rename_i hf;exact⟨hf,hb⟩
 have hGG5:G.le G5:=by
  refine⟨fun b o hb=> ?_,hGG.same.trans (q2.1.same.trans g5m.symm)⟩;have hKb:=r.h.gk _ _ hb;rw[g5n b (fun hf=>by rw[hFK b hf]at hKb;cases hKb)];exact q2.1 _ _ (hGG _ _ hb)
 have hKK5:K.le K5:=by
  refine⟨fun b o hb=> ?_,hKK.same.trans (q3.same.trans k5m.symm)⟩;rw[k5n b (fun hf=>by rw[hFK b hf]at hb;cases hb)];exact q3 _ _ (hKK _ _ hb)
 have hext5:G.ext K G5:=⟨hGG5,fun b o hb=>by
  obtain⟨hf,h2⟩:=g5s b o hb;rcases q2.2 _ _ h2 with h3|h3
  ·rcases hGn _ _ h3 with h4|h4
   ·exact .inl h4
   ·exact absurd h4 hf
  ·exact .inr (hK1n _ h3)⟩
 have hβ:β.le (β2++ [Hm.lie ⟨D,0,0⟩]):=q1.trans (Homes.le_append _ _);have hml:=mergeB_length fs S.h (H kk) (hlen kk)
 have look:∀ {i:Nat} {k:Blk},(mergeB fs S.h (H kk)++ [Blk.obj (.deferred (some []))])[i]? =some k->(fs.getD i false=true/\i<S.h.length/\S.h[i]? =some k)\/((H kk++ [Blk.obj (.deferred (some []))])[i]? =some k/\(fs.getD i false=false\/S.h.length<=i)):=fun {i k} hi=>by
  rcases Nat.lt_or_ge i S.h.length with h1|h1
  ·rw[aL (by omega),mergeB_get fs S.h (H kk) i (hlen kk)]at hi;split at hi
   ·rename_i hf;exact .inl ⟨hf,h1,hi⟩
   ·rename_i hf;right
    rw[aL (by rw[hlen kk];exact h1)];exact⟨hi,.inl (by simpa using hf)⟩
  ·rw[List.getElem?_append_right (by omega)]at hi;right
   rw[List.getElem?_append_right (by rw[hlen kk];exact h1),hlen kk,<-hml];exact⟨hi,.inr (by omega)⟩
 have fhome:∀ {i:Nat} {k:Blk} {x:Home},fs.getD i false=true->S.h[i]? =some k->k≠ .gone->(β2++ [Hm.lie ⟨D,0,0⟩])[i]? =some (.lie x)->i<S.h.length->k≠ .void->β[i]? =some (.lie x)/\FH x.b:=fun {i k x} hf hi hk hb hil hkv=>by
  have hil':i<β.length:=by rw[r.h.len];exact hil
  have hne0:β[i]?≠some .void:=fun e=>by
   have:=r.h.blk i k hi;rw[e]at this;cases k<;>first|exact absurd rfl hk|exact absurd rfl hkv|exact this.elim
  have h1:β[i]? =some β[i]:=List.getElem?_eq_getElem hil';have h2:=hβ i _ (fun e=>hne0 (by rw[h1,e])) h1;rw[hb]at h2;have h3:β[i]? =some (.lie x):=by rw[h1];exact h2.symm
  exact⟨h3,i,x,k,by rw[stillB_get,if_pos hf];exact hi,hk,h3,rfl⟩
 have hvoid:∀ {i:Nat} {x:Home},S.h[i]? =some .void->(β2++ [Hm.lie ⟨D,0,0⟩])[i]? =some (.lie x)->False:=fun {i x} hi hb=>by
  have:=List.any_eq_false.1 hnv _ (List.mem_of_getElem? hi);simp[isVoid]at this
 have hrh:RH (β2++ [Hm.lie ⟨D,0,0⟩]) G5 K5 (mergeB fs S.h (H kk)++ [.obj (.deferred (some []))]) w4:=by
  refine⟨by simp[hlb,hml],fun i k hk=> ?_,fun i j x y k k' hi hj g g' hbi hbj e=> ?_,fun i x k hi g hb=> ?_,fun b o hb=>hr5.keep _ _ (k5s b o hb).2,⟨fun b o hb=> ?_,g5m.trans (hr5.gk.same.trans k5m.symm)⟩,by rw[k5m];exact hr5.amb,fun i X tr hi=> ?_⟩
  ·by_cases hg:k=.gone
   ·subst hg;cases((β2++ [Hm.lie ⟨D,0,0⟩])[i]?.getD .void)<;>trivial
   rcases look hk with⟨hf,hil,hi⟩|⟨hi,_⟩
   ·have hB:=r.h.blk i k hi;have hil':i<β.length:=by rw[r.h.len];exact hil
    have h1:β[i]? =some β[i]:=List.getElem?_eq_getElem hil';rw[h1]at hB;by_cases hv:β[i]=.void
    ·exfalso
     have hB':BlkOK G β w k .void:=by have:(some β[i]).getD .void=.void:=hv;rw[this]at hB;exact hB
     cases k<;>first|exact absurd rfl hg|exact hB'.elim|skip
     have:=List.any_eq_false.1 hnv _ (List.mem_of_getElem? hi);simp[isVoid]at this
    ·have h2:=hβ i _ hv h1;rw[h2];refine BlkOK.mono hB hGG5 hβ fun y hy=> ?_;have h3:β[i]? =some (.lie y):=by rw[h1];exact congrArg some hy
     exact(hF4 y.b ⟨i,y,k,by rw[stillB_get,if_pos hf];exact hi,hg,h3,rfl⟩).1
   ·refine(hr5.blk i k hi).free ?_;rcases Nat.lt_or_ge i (H kk).length with h1|h1
    ·rw[aL h1]at hi;exact hfree i k hi
    ·rw[List.getElem?_append_right h1]at hi
     have:k=.obj (.deferred (some [])):=by
      rcases Nat.lt_or_ge (i-(H kk).length) 1 with h2|h2
      ·have:i-(H kk).length=0:=by omega
       rw[this]at hi;simpa using hi.symm
      ·rw[List.getElem?_eq_none (by simpa using h2)]at hi;cases hi
     subst this;trivial
  ·have kv:∀ {i:Nat} {x:Home} {k:Blk},S.h[i]? =some k->(β2++ [Hm.lie ⟨D,0,0⟩])[i]? =some (.lie x)->k≠ .void:=fun hi hb e=>hvoid (by rw[hi,e]) hb;rcases look hi with⟨hf,hil,h1⟩|⟨h1,_⟩<;>rcases look hj with⟨hf2,hjl,h2⟩|⟨h2,_⟩
   ·exact r.h.inj i j x y k k' h1 h2 g g' (fhome hf h1 g hbi hil (kv h1 hbi)).1 (fhome hf2 h2 g' hbj hjl (kv h2 hbj)).1 e
   ·exfalso
    have h3:=(hF4 _ (fhome hf h1 g hbi hil (kv h1 hbi)).2).2;have h4:=(hr5.sep j y k' h2 g' hbj).1;rw[e]at h3;exact h3 h4
   ·exfalso
    have h3:=(hF4 _ (fhome hf2 h2 g' hbj hjl (kv h2 hbj)).2).2;have h4:=(hr5.sep i x k h1 g hbi).1;rw[<-e]at h3;exact h3 h4
   ·exact hr5.inj i j x y k k' h1 h2 g g' hbi hbj e
  ·rcases look hi with⟨hf,hil,h1⟩|⟨h1,_⟩
   ·have kv:k≠ .void:=fun e=>hvoid (by rw[h1,e]) hb;obtain⟨h2,h3⟩:=fhome hf h1 g hb hil kv;refine⟨by rw[hK5];simp only[if_pos h3],?_⟩;have h4:=(hF4 _ h3).1;have h5:=(r.h.sep i x k h1 g h2).2;rw[Array.getElem?_eq_getElem h5]at h4;exact(Array.getElem?_eq_some_iff.1 h4).1
   ·have h2:=hr5.sep i x k h1 g hb;refine⟨?_,h2.2⟩
    cases h3:K5 x.b with
    |none=>rfl
    |some o=>have:=(k5s _ _ h3).2;rw[h2.1]at this;cases this
  ·obtain⟨h1,h2⟩:=g5s b o hb;rw[k5n b h1];exact hr5.gk _ _ h2
  ·rcases look hi with⟨_,_,h1⟩|⟨h1,_⟩
   ·exact absurd h1 (noExt_not hnS)
   ·exfalso
    rcases Nat.lt_or_ge i (H kk).length with h2|h2
    ·rw[aL h2]at h1;exact absurd h1 (noExt_not (hne kk))
    ·rw[List.getElem?_append_right h2]at h1;rcases Nat.lt_or_ge (i-(H kk).length) 1 with h3|h3
     ·have:i-(H kk).length=0:=by omega
      rw[this]at h1;simp at h1
     ·rw[List.getElem?_eq_none (by simpa using h3)]at h1;cases h1
 refine⟨{t:=S.t,h:=mergeB fs S.h (H kk)++ [.obj (.deferred (some []))],d:=[S.h.length]},_,G5,K5,hβ.low _,hext5,hKK5,⟨hrh,r.size,fun j=>(r.tmp j).mono hGG5 hβ,by simp[hdef],fun j hj=> ?_⟩,hQ⟩;have:j=0:=by simp at hj;omega
 subst this;exact⟨⟨D,0,0⟩,by simp[<-hlb],rfl,by simp[<-hml]⟩
def ConstOK(ρ':Operand->Value):Prop:=(∀v,ρ' (.const v)=v)/\∀f,ρ' (.func f)=.func (.func f) #[] #[]
def SemOK(P:Program)(o:Op)(us:List (Operand × V))(h:List Blk)(v:V)(h':List Blk):Prop:=
 ∀(β:Homes) (G K:Kept) (w:World) (ρ':Operand->Value) (oper:Oper),oper.op=o->ConstOK ρ'->RH β G K h w->(∀p,p∈us->Rel G β p.2 (ρ' p.1))->OpOK P β G K w ρ' oper v h'
def SemAny(P:Program)(o:Op)(us:List (Operand × V))(h:List Blk)(n:Nat)(vs:Nat->V)(hs:Nat->List Blk):Prop:=
 ∀(β:Homes) (G K:Kept) (w:World) (ρ':Operand->Value) (oper:Oper),oper.op=o->ConstOK ρ'->RH β G K h w->(∀p,p∈us->Rel G β p.2 (ρ' p.1))->∃j,j<n/\OpOK P β G K w ρ' oper (vs j) (hs j)
def isDefer:Op->Bool
 |.defer _=>true
 |_=>false
section
variable {P:Program} {ro:Env} {ops:Array Oper} {S:St} {Q:Exit->St->Prop}
theorem AOps.opok{i:Nat}{is:List Nat}{o:Oper}{β:Homes}{G K:Kept}{a:Act}{w:World}(r:RS β G K S a w)(hi:ops[i]? =some o)(hw:wantedV ops S o=some true)(hdf:isDefer o.op=false){v:V}{h':List Blk}(hok:OpOK P β G K w a.eval o v h')
  (hd:∀j,j∈S.d->h'[j]? =some (.obj (.deferred (some [])))) (rest:AOps P ro ops is (St.put {S with h:=h'} o.dst v) Q):wpOpsIn (wide ro) 0 P ops (Post ro.m Q β G K) (i::is) a w:=by
 obtain⟨nx,w',β',hrun,hle,hrh,hleft⟩:=hok
 have r1:RS β' G K {S with h:=h'} a w':=⟨hrh,r.size,fun j=>(r.tmp j).mono G.le_refl hle,r.marks,fun j hj=>by
  obtain⟨x,h1,h2,h3⟩:=r.mark j hj
  have hm:S.d.getD j 0∈S.d:=by
   have hj':j<S.d.length:=hj;rw[gE,List.getElem?_eq_getElem hj'];exact List.getElem_mem hj'
  exact⟨x,hle _ _ (by simp) h1,h2,hd _ hm⟩⟩
 simp only[wpOpsIn,hi,wanted_ok r hw,if_true,Oper.wpIn];refine⟨fun _ _=>trivial,?_⟩
 have hsem:(o.semAt ro.ro a.eval).run P w=.ok nx w':=by
  rw[Oper.semAt_eq _ _ _ (fun c hc=>by rw[hc]at hdf;cases hdf)];exact hrun
 rw[hsem]
 cases nx with
 |value y=>exact mono_ops (fun e a w hp=>hp.up (hle.low _) (G.ext_refl K) K.le_refl) (rest β' G K _ _ (r1.put hleft o.dst))
 |skip=>
  have:v=.undef:=hleft;subst this;exact mono_ops (fun e a w hp=>hp.up (hle.low _) (G.ext_refl K) K.le_refl) (rest β' G K _ _ (r1.put (.undef _) o.dst))
 |_=>exact hleft.elim
theorem AOps.sem{i:Nat}{is:List Nat}{o:Oper}{us:List (Operand × V)}{v:V}{h':List Blk}(hi:ops[i]? =some o)(hw:wantedV ops S o=some true)(hdf:isDefer o.op=false)(hs:SemOK P o.op (us.map fun p=>(p.1,S.eval p.1)) S.h v h')
  (hd:∀j,j∈S.d->h'[j]? =some (.obj (.deferred (some [])))) (rest:AOps P ro ops is (St.put {S with h:=h'} o.dst v) Q):AOps P ro ops (i::is) S Q:=fun β G K a w r=>
 AOps.opok r hi hw hdf (hs β G K w a.eval o rfl ⟨fun _=>rfl,fun _=>rfl⟩ r.h fun p hp=>by
  obtain⟨q,_,rfl⟩:=List.mem_map.1 hp
  exact r.eval q.1) hd rest
theorem AOps.semn{i:Nat}{is:List Nat}{o:Oper}{us:List (Operand × V)}{n:Nat}{vs:Nat->V}{hs:Nat->List Blk}(hi:ops[i]? =some o)(hw:wantedV ops S o=some true)(hdf:isDefer o.op=false)(hs':SemAny P o.op (us.map fun p=>(p.1,S.eval p.1)) S.h n vs hs)
  (rest:∀j,j<n->(∀m,m∈S.d->(hs j)[m]? =some (.obj (.deferred (some []))))/\AOps P ro ops is (St.put {S with h:=hs j} o.dst (vs j)) Q):AOps P ro ops (i::is) S Q:=fun β G K a w r=>by
 obtain⟨j,hj,hok⟩:=hs' β G K w a.eval o rfl ⟨fun _=>rfl,fun _=>rfl⟩ r.h fun p hp=>by
  obtain⟨q,_,rfl⟩:=List.mem_map.1 hp;exact r.eval q.1
 obtain⟨hd,hr⟩:=rest j hj;exact AOps.opok r hi hw hdf hok hd hr
end
inductive DT where
 |done (e:Exit) (S:St)
 |at(K:List Item) (S:St)
 |need (b:Bool) (t:DT)
 |scal (p:Nat->Bool) (t:DT)
 |br (b:Bool) (t f:DT)
 |lit (b:Bool) (t:DT)
 |call (f:FuncId) (us:List V) (v:V) (ob:Bool) (t:DT)
 |own (j:Nat) (e:TypeId) (w:Nat) (t:DT)
 |frz (i:Nat) (b:Bool) (t:DT)
 |front (cs:List (Nat × FuncId × List V × V)) (ov:List (Nat × Bool)) (ob:Bool) (t:DT)
 |vle (j:Nat) (v v':V) (t:DT)
 |telb (i w n:Nat) (c c':Nat->Nat->V) (t:DT)
 |wait (k:Nat) (t:DT)
 |cas (b:Bool) (t f:DT)
 |hcall (f:FuncId) (us:List V) (v:V) (h h':List Blk) (t:DT)
 |yld (X:Ext) (tr us us':List V) (t:DT)
 |over (c:Code) (S:St) (x:Exit) (S':St) (t:DT)
 |sem (o:Op) (us:List (Operand × V)) (h:List Blk) (v:V) (h':List Blk) (t:DT)
 |semn (o:Op) (us:List (Operand × V)) (h:List Blk) (n:Nat) (vs:Nat->V) (hs:Nat->List Blk) (f:Nat->DT)
 |never
 |drop (T:St) (t:DT)
 |telc (i:Nat) (cs cs':List V) (t:DT)
def startOf:List Item->List Item
 |.inLoop c::K=>.code c::.inLoop c::K
 |K=>K
def DT.holds(P:Program)(ro:Env)(Q:Exit->St->Prop)(L:List Item->St->Prop):DT->Prop
 |.done e S=>Q e S
 |.at K S=>L (startOf K) S
 |.need b t=>b=true/\t.holds P ro Q L
 |.scal p t=>(∀r,p r=true)/\t.holds P ro Q L
 |.br b t f=>(b=true->t.holds P ro Q L)/\(b=false->f.holds P ro Q L)
 |.lit _ t=>t.holds P ro Q L
 |.call f us v ob t=>ob=true/\PCalls P f us (·=v)/\t.holds P ro Q L
 |.own _ _ _ t=>t.holds P ro Q L
 |.frz _ b t=>b=true/\t.holds P ro Q L
 |.front cs _ ob t=>ob=true/\(∀c∈cs,PCalls P c.2.1 c.2.2.1 (·=c.2.2.2))/\t.holds P ro Q L
 |.vle _ v v' t=>VLe v v'/\t.holds P ro Q L
 |.telb _ w n c c' t=>(∀r j,r<n->j<w->VLe (c r j) (c' r j))/\t.holds P ro Q L
 |.wait _ t=>t.holds P ro Q L
 |.cas b t f=>(b=true->t.holds P ro Q L)/\(b=false->f.holds P ro Q L)
 |.hcall f us v h h' t=>HCalls P f us v h h'/\t.holds P ro Q L
 |.yld X tr us us' t=>X.go tr=true/\YSpec P X/\tr++ [.tuple us']<+:X.ys/\(∀j,j<us'.length->VLe (us.getD j .undef) (us'.getD j .undef))/\t.holds P ro Q L
 |.over c S x S' t=>AWP P ro c S (fun e T=>e=x/\T=S')/\t.holds P ro Q L
 |.sem o us h v h' t=>SemOK P o us h v h'/\t.holds P ro Q L
 |.semn o us h n vs hs f=>SemAny P o us h n vs hs/\∀j,j<n->(f j).holds P ro Q L
 |.never=>False
 |.drop _ t=>t.holds P ro Q L
 |.telc _ cs cs' t=>cs'.length=cs.length/\(∀j,j<cs.length->VLe (cs.getD j .undef) (cs'.getD j .undef))/\t.holds P ro Q L
mutual
def snapV(h:List Blk):Nat->V->Option (Bool × V)
 |0,_=>none
 |d+1,v=>
  if v.under 0=true then some (true,v)else
  match v with
  |.row i n=>match h[i]? with|some (.rows _ w m c)=>some (decide (n<=m),.list w n c)|_=>none
  |.ref i r off=>
   match h[i]? with
   |some (.cells cs)=>
    if r=0/\off<=cs.length then
     match snapL h d (cs.drop off)with
     |some (ob,us)=>some (ob,.cref us.length fun j=>us.getD j .undef)
     |none=>none
    else none
   |some (.rows _ w m c)=>if off<=w then some (decide (r<m),.cref (w-off) fun j=>c r (off+j))else none
   |_=>none
  |.sub i r off w n=>
   match h[i]? with
   |some (.rows _ w' m c)=>
    if off=0/\w'=w then some (decide (r+n<=m),.list w n fun a j=>c (r+a) j)
    else some (decide (r<m)&&decide (off+n*w<=w'),.list w n fun a j=>c r (off+(a*w+j)))
   |_=>none
  |.agg vs=>match snapL h d vs with|some (ob,us)=>some (ob,.agg us)|none=>none
  |.tuple vs=>match snapL h d vs with|some (ob,us)=>some (ob,.tuple us)|none=>none
  |.func fn f c=>
   match snapL h d f,snapL h d c with
   |some (o1,f'),some (o2,c')=>some (o1&&o2,.func fn f' c')
   |_,_=>none
  |.iface t v=>match snapV h d v with|some (ob,u)=>some (ob,.iface t u)|none=>none
  |_=>none
def snapL(h:List Blk):Nat->List V->Option (Bool × List V)
 |0,_=>none
 |_+1,[]=>some (true,[])
 |d+1,v::vs=>
  match snapV h d v,snapL h d vs with
  |some (o1,u),some (o2,us)=>some (o1&&o2,u::us)
  |_,_=>none
end
theorem snap_sound(h:List Blk):∀d,(∀v u,snapV h d v=some (true,u)->Snap h v u)/\(∀vs us,snapL h d vs=some (true,us)->vs.length=us.length/\∀j,j<vs.length->Snap h (vs.getD j .undef) (us.getD j .undef)):=by
 intro d
 induction d with
 |zero=>exact⟨fun v u h=>by simp[snapV]at h,fun vs us h=>by simp[snapL]at h⟩
 |succ d ih=>
  obtain⟨ihV,ihL⟩:=ih;refine⟨fun v u hs=> ?_,fun vs us hs=> ?_⟩
  ·unfold snapV at hs;by_cases hv:v.under 0=true
   ·rw[if_pos hv]at hs;simp only[sJ,Prod.mk.injEq,true_and]at hs;subst hs;exact .imm hv
   rw[if_neg hv]at hs;clear hv
   cases v<;>simp only at hs<;>try cases hs
   case row i n=>
    split at hs
    ·rename_i hi;simp only[sJ,Prod.mk.injEq,decide_eq_true_eq]at hs;obtain⟨hn,rfl⟩:=hs;exact .row hi hn
    ·cases hs
   case ref i r off=>
    split at hs
    ·rename_i cs hi;split at hs
     ·rename_i hr;obtain⟨rfl,hoff⟩:=hr;split at hs
      ·rename_i ob us hl;simp only[sJ,Prod.mk.injEq]at hs;obtain⟨rfl,rfl⟩:=hs;obtain⟨h1,h2⟩:=ihL _ _ hl;have h1':cs.length-off=us.length:=by rw[<-h1];simp
       refine .ref hi (by omega) fun j hj=> ?_;have:=h2 j (by rw[h1];exact hj);rwa[gE,List.getElem?_drop,<-List.getD_eq_getElem?_getD]at this
      ·cases hs
     ·cases hs
    ·rename_i e w m c hi;split at hs
     ·rename_i ho;simp only[sJ,Prod.mk.injEq,decide_eq_true_eq]at hs;obtain⟨hr,rfl⟩:=hs;exact .refrow hi hr (by omega) fun j _=>rfl
     ·cases hs
    ·cases hs
   case sub i r off w n=>
    split at hs
    ·rename_i e w' m c hi;split at hs
     ·rename_i hc;obtain⟨rfl,rfl⟩:=hc;simp only[sJ,Prod.mk.injEq,decide_eq_true_eq]at hs;obtain⟨hn,rfl⟩:=hs;exact .sub hi hn fun _ _ _ _=>rfl
     ·simp only[sJ,Prod.mk.injEq,Bool.and_eq_true,decide_eq_true_eq]at hs;obtain⟨⟨h1,h2⟩,rfl⟩:=hs;exact .subrow hi h1 h2 fun _ _ _ _=>rfl
    ·cases hs
   case agg vs=>
    split at hs
    ·rename_i ob us hl;simp only[sJ,Prod.mk.injEq]at hs;obtain⟨rfl,rfl⟩:=hs;obtain⟨h1,h2⟩:=ihL _ _ hl;exact .agg h1 h2
    ·cases hs
   case tuple vs=>
    split at hs
    ·rename_i ob us hl;simp only[sJ,Prod.mk.injEq]at hs;obtain⟨rfl,rfl⟩:=hs;obtain⟨h1,h2⟩:=ihL _ _ hl;exact .tuple h1 h2
    ·cases hs
   case func fn f c=>
    split at hs
    ·rename_i o1 f' o2 c' hf hc;simp only[sJ,Prod.mk.injEq,Bool.and_eq_true]at hs;obtain⟨⟨rfl,rfl⟩,rfl⟩:=hs;obtain⟨h1,h2⟩:=ihL _ _ hf;obtain⟨h3,h4⟩:=ihL _ _ hc;exact .func h1 h3 h2 h4
    ·cases hs
   case iface t v=>
    split at hs
    ·rename_i ob u' hl;simp only[sJ,Prod.mk.injEq]at hs;obtain⟨rfl,rfl⟩:=hs;exact .iface (ihV _ _ hl)
    ·cases hs
  ·cases vs with
   |nil=>simp only[snapL,sJ,Prod.mk.injEq,true_and]at hs;subst hs;exact⟨rfl,fun j hj=>by simp at hj⟩
   |cons v vs=>
    simp only[snapL]at hs;split at hs
    ·rename_i o1 u o2 us hv hl;simp only[sJ,Prod.mk.injEq,Bool.and_eq_true]at hs;obtain⟨⟨rfl,rfl⟩,rfl⟩:=hs;obtain⟨h1,h2⟩:=ihL _ _ hl;refine⟨by simp[h1],fun j hj=> ?_⟩
     cases j with
     |zero=>exact ihV _ _ hv
     |succ j=>simpa using h2 j (by simpa using hj)
    ·cases hs
abbrev snapFuel:Nat:=40
def snapArgs(h:List Blk)(args:List V)(v:V):Option (Bool × List V):=
 if underL 0 args=true then some (true,args)
 else if v.plain=true then snapL h snapFuel args else none
theorem snapArgs_ok{h:List Blk}{args us:List V}{v:V}(hs:snapArgs h args v=some (true,us)):
  args.length=us.length/\(∀j,j<us.length->Snap h (args.getD j .undef) (us.getD j .undef))/\(us=args/\underL 0 us=true\/v.plain=true):=by
 unfold snapArgs at hs;split at hs
 ·rename_i hu;simp only[sJ,Prod.mk.injEq,true_and]at hs;subst hs;exact⟨rfl,fun j hj=>.imm (underL_getD hu j),.inl ⟨rfl,hu⟩⟩
 ·split at hs
  ·rename_i hp;obtain⟨h1,h2⟩:=(snap_sound h snapFuel).2 _ _ hs;exact⟨h1,fun j hj=>h2 j (by omega),.inr hp⟩
  ·cases hs
def mayFail(P:Program)(S:St):Op->Bool
 |.binOp op _ x _ _=>match op with
  |.add|.sub|.mul|.shl|.shr|.quo|.rem=>match S.eval x with|.undef=>false|_=>true
  |_=>false
 |.unOp .neg _ _=>true
 |.convert _ _ x=>match S.eval x with|.int _ _=>true|_=>false
 |.indexAddr _ _ _|.index _ _ _|.slice _ _ _ _ _|.makeSlice _ _ _=>true
 |.load t a=>match S.eval a with
  |.ref i _ _=>match S.h[i]? with
   |some (.rows _ _ _ _)=>match loadA P S.h t (S.eval a)with|some _=>false|none=>true
   |some (.rowsL _ _ _ _ _ _ _)=>true
   |_=>false
  |_=>false
 |.store t a v=>match S.eval a with
  |.ref i _ _=>match S.h[i]? with
   |some (.rows _ _ _ _)=>match storeA P S.h t (S.eval a) (S.eval v)with|some _=>false|none=>true
   |_=>false
  |_=>false
 |_=>false
def dOK(S:St):Bool:=S.d.all fun i=>isObj S.h i
def marksOK(h:List Blk)(d:List Nat):Bool:=d.all fun i=>match h[i]? with|some (.obj (.deferred (some ds)))=>ds.isEmpty|_=>false
abbrev KT:=St->DT->Option DT
def opG(P:Program)(o:Oper)(S:St)(g:DT)(k:KT):Option DT:=
 match evalOp P S.eval S.h o.op with
 |some (ob,v,h')=>
  if dOK S=true then
   if mayFail P S o.op=true then
    match g with
    |.need _ g'=>(k (St.put {S with h:=h'} o.dst v) g').map (.need ob)
    |_=>none
   else if ob=true then k (St.put {S with h:=h'} o.dst v) g else none
  else none
 |none=>none
def exec1(P:Program)(m:Nat)(o:Oper)(S:St)(g:DT)(k:KT):Option DT:=
 match o.op with
 |.call {callee:=.value f,args:=args,argTypes:=_}=>
  match g with
  |.call _ _ v _ g'=>
   match fnOf (S.eval f)with
   |some (fid,first,caps)=>
    match snapArgs S.h (callArgs S first caps args) v with
    |some (ob,us)=>(k (S.put o.dst v) g').map (.call fid us v ob)
    |none=>none
   |none=>none
  |.hcall _ _ v _ h' g'=>
   match fnOf (S.eval f)with
   |some (fid,first,caps)=>
    if marksOK h' S.d=true then(k (St.put {S with h:=h'} o.dst v) g').map (.hcall fid (callArgs S first caps args) v S.h h')else none
   |none=>none
  |.yld _ _ _ us' g'=>
   match S.eval f with
   |.yld q=>
    match S.h[q]? with
    |some (.ext X tr)=>
     if us'.length=args.size/\plainL us'=true/\(S.h.set q .gone).any isExt=false/\dOK S=true then
      (k (St.put {S with h:=S.h.set q (.ext X (tr++ [.tuple us']))} o.dst (.bool (X.go (tr++ [.tuple us'])))) g').map (.yld X tr (args.toList.map S.eval) us')
     else none
    |_=>none
   |_=>none
  |_=>none
 |.call {callee:=.builtin .append,args:=args,argTypes:=ts}=>
  match args,ts with
  |⟨[s,x]⟩,⟨[t,t']⟩=>
   if t=t' then
    match appendV P m S t (S.eval s) (S.eval x)with
    |some (ob,p,v,S1)=>
     match g with
     |.need _ (.scal _ g')=>(k (S1.put o.dst v) g').map fun r=>.need ob (.scal p r)
     |_=>none
    |none=>none
   else none
  |_,_=>none
 |_=>opG P o S g k
def kindOf:Op->Nat
 |.move _=>1|.assign _=>1|.load _ _=>2|.store _ _ _=>3|.binOp _ _ _ _ _=>4|.unOp _ _ _=>5|.convert _ _ _=>6
 |.makeMap _ _=>7|.lookup _ _ _ _=>8|.mapUpdate _ _ _ _=>9|.mapEntry _ _ _=>10|.entryStore _ _ _ _=>11|.range _ _=>12|.next _ _=>13|.entry _=>14
 |.call c=>(match c.callee with|.builtin .len=>16|.builtin _=>17|_=>18)
 |.slice _ _ _ _ _=>19|.indexAddr _ _ _=>20|.index _ _ _=>21|.makeSlice _ _ _=>22|.buildSlice _ _ _=>23|.build _ _=>24|.box _ _=>25|.alloc _=>26|.extract _ _=>27|.fieldAddr _ _ _=>28|.field _ _ _=>29
 |.makeFunc _ _ _=>30|.nilCheck _=>31|.pick _ _ _=>32
 |_=>15
def execG0(P:Program)(m:Nat)(o:Oper)(S:St)(g:DT)(k:KT):Option DT:=
 match g with
 |.sem o' us h0 v h' g'=>
  if kindOf o'≠kindOf o.op then exec1 P m o S (.sem o' us h0 v h' g') k
  else if isDefer o.op=false/\marksOK h' S.d=true then(k (St.put {S with h:=h'} o.dst v) g').map (.sem o.op (us.map fun p=>(p.1,S.eval p.1)) S.h v h')else none
 |.semn o' us h0 n vs hs f=>
  if kindOf o'≠kindOf o.op then exec1 P m o S (.semn o' us h0 n vs hs f) k
  else if isDefer o.op=false then some (.semn o.op (us.map fun p=>(p.1,S.eval p.1)) S.h n vs hs fun j=>if marksOK (hs j) S.d=true then(k (St.put {S with h:=hs j} o.dst (vs j)) (f j)).getD .never else .never)else none
 |g=>exec1 P m o S g k
def notBool:V->Bool
 |.bool _=>false
 |_=>true
def execG(P:Program)(m:Nat)(o:Oper):St->DT->KT->Option DT
 |S,.wait 0 (.frz i b0 g'),k=>
  match frzS S i with
  |some (b,S')=>(execG P m o S' g' k).map fun r=>.wait 0 (.frz i b r)
  |none=>execG0 P m o S (.wait 0 (.frz i b0 g')) k
 |S,.wait 0 (.vle j _ v' g'),k=>if o.guard.isNone=true\/notBool (S.t.getD j .undef)=true then(execG P m o {S with t:=S.t.set j v'} g' k).map fun r=>.wait 0 (.vle j (S.t.getD j .undef) v' r)else none
 |S,g,k=>execG0 P m o S g k
def runOpsG(P:Program)(m:Nat)(ops:Array Oper)(k:KT):List Nat->Option (Nat × Bool)->St->DT->Option DT
 |[],_,S,g=>k S g
 |i::is,prev,S,g=>
  match ops[i]? with
  |none=>none
  |some o=>
   match o.guard with
   |none=>execG P m o S g (runOpsG P m ops k is none)
   |some (j,want)=>
    if prev=some (j,want)then
     match wantedV ops S o with
     |some true=>execG P m o S g (runOpsG P m ops k is (some (j,want)))
     |some false=>runOpsG P m ops k is (some (j,want)) (S.put o.dst (.tuple [])) g
     |none=>none
    else
     match(ops[j]?).bind (·.dst)with
     |none=>none
     |some d=>
      match S.t.getD d .undef with
      |.bool b=>
       match g with
       |.br _ gt gf=>
        match
         (if want=true then execG P m o {S with t:=S.t.set d (.bool true)} gt (runOpsG P m ops k is (some (j,want)))
          else runOpsG P m ops k is (some (j,want)) (St.put {S with t:=S.t.set d (.bool true)} o.dst (.tuple [])) gt),
         (if want=false then execG P m o {S with t:=S.t.set d (.bool false)} gf (runOpsG P m ops k is (some (j,want)))
          else runOpsG P m ops k is (some (j,want)) (St.put {S with t:=S.t.set d (.bool false)} o.dst (.tuple [])) gf)with
        |some r1,some r2=>some (.br b r1 r2)
        |_,_=>none
       |.lit c g'=>
        (if want=c then execG P m o {S with t:=S.t.set d (.bool c)} g' (runOpsG P m ops k is (some (j,want)))
         else runOpsG P m ops k is (some (j,want)) (St.put {S with t:=S.t.set d (.bool c)} o.dst (.tuple [])) g').map (.lit b)
       |_=>none
      |.tuple _=>runOpsG P m ops k is (some (j,want)) (S.put o.dst (.tuple [])) g
      |_=>none
def tail5(ops:Array Oper)(j:Nat):Bool:=
 match ops[j]? with
 |some _=>(List.range j).all fun i=>reach ops 5 i j
 |none=>false
def frontLen(ops:Array Oper):Nat:=(List.range ops.size).foldl (fun m j=>bif tail5 ops j then m else j+1) 0
def frontLen9(ops:Array Oper):Nat:=(List.range ops.size).foldl (fun m j=>bif tailAt ops j then m else j+1) 0
def crOf(cs:List (Nat × FuncId × List V × V))(i:Nat):V:=match cs.lookup i with|some (_,_,v)=>v|none=>.undef
def frObs:List FR->Bool
 |[]=>true
 |r::rs=>r.1&&frObs rs
def frCallsV(h:List Blk)(rs:List FR)(cs:List (Nat × FuncId × List V × V)):List Nat->Option (Bool × List (Nat × FuncId × List V × V))
 |[]=>some (true,[])
 |i::is=>
  match(rs.getD i fr0).2.2.2 with
  |none=>frCallsV h rs cs is
  |some (f,args)=>
   match snapArgs h args (crOf cs i),frCallsV h rs cs is with
   |some (ob,us),some (o2,l)=>some (ob&&o2,(i,f,us,crOf cs i)::l)
   |_,_=>none
def frontGm(P:Program)(m0 m:Nat)(ops:Array Oper)(S:St)(g:DT)(k:KT):Option DT:=
 match g with
 |.front cs ov _ g'=>
  if dOK S=true/\backOK ops=true/\frontOK ops m=true/\m<=ops.size/\((List.range (ops.size-m)).all fun j=>tailAt ops (m+j))=true then
   match frRun P ops S.h (crOf cs) ov (List.range m) 0 S with
   |some rs=>
    match frCallsV S.h rs cs (List.range m)with
    |some (obc,cs')=>
     (runOpsG P m0 ops k (List.range' m (ops.size-m)) none {S with t:=tAt ops m rs (fun _=>true) S.t,h:=S.h++bl rs (fun _=>true) m} g').map (.front cs' ov (frObs rs&&obc))
    |none=>none
   |none=>none
  else none
 |_=>none
def frontG(P:Program)(m0:Nat)(ops:Array Oper)(S:St)(g:DT)(k:KT):Option DT:=
 match frontGm P m0 (frontLen ops) ops S g k with
 |some r=>some r
 |none=>frontGm P m0 (frontLen9 ops) ops S g k
def splitG(P:Program)(m0:Nat)(ops:Array Oper)(S:St)(k:KT):DT->Option DT
 |.br b gt gf=>
  match splitG P m0 ops S k gt,splitG P m0 ops S k gf with
  |some r1,some r2=>some (.br b r1 r2)
  |_,_=>none
 |g=>frontG P m0 ops S g k
def finG(m:Nat)(e:Exit)(S:St):DT->Option DT
 |.done _ T=>if maskOK m (mask T S)=true then some (.done e (mask T S))else none
 |_=>none
def atG(m:Nat)(K:List Item)(S:St):DT->Option DT
 |.at _ T=>if maskOK m (mask T S)=true then some (.at K (mask T S))else none
 |_=>none
def itemG(P:Program)(m:Nat)(rec:List Item->St->DT->Option DT)(K:List Item)(S:St)(g:DT):Option DT:=
 match K with
 |[]=>finG m .normal S g
 |.inBlock _::K'=>rec K' S g
 |.inScope _::K'=>rec K' S g
 |.inLoop c::K'=>atG m (.inLoop c::K') S g
 |.code c::K'=>
  match c with
  |.skip=>rec K' S g
  |.label _=>rec K' S g
  |.seq a b=>rec (.code a::.code b::K') S g
  |.block id a=>rec (.code a::.inBlock id::K') S g
  |.scope a=>rec (.code a::.inScope a::K') S g
  |.loop a=>atG m (.inLoop a::K') S g
  |.exit id=>
   match exitTo id K' with
   |some K2=>rec K2 S g
   |none=>finG m (.exit id) S g
  |.ret=>finG m .ret S g
  |.cond c x y=>
   match S.eval c with
   |.bool b=>
    match g with
    |.br _ gt gf=>
     match rec (.code x::K') S gt,rec (.code y::K') S gf with
     |some r1,some r2=>some (.br b r1 r2)
     |_,_=>none
    |.lit c g'=>(rec (.code (bif c then x else y)::K') S g').map (.lit b)
    |_=>none
   |_=>none
  |.region id ops false=>
   match g with
   |.over _ _ _ S' g'=>(rec K' S' g').map (.over (.region id ops false) S .normal S')
   |_=>runOpsG P m ops (fun S' g'=>rec K' S' g') (List.range ops.size) none S g
  |.region id ops true=>
   match g with
   |.over _ _ _ S' g'=>(rec K' S' g').map (.over (.region id ops true) S .normal S')
   |_=>splitG P m ops S (fun S' g'=>rec K' S' g') g
  |.rangeFunc f ps az body=>
   match g with
   |.over _ _ x S' g'=>
    (match x with
    |.normal=>rec K' S' g'
    |.ret=>finG m .ret S' g'
    |.exit id=>match exitTo id K' with
     |some K2=>rec K2 S' g'
     |none=>finG m (.exit id) S' g'
    |_=>none).map (.over (.rangeFunc f ps az body) S x S')
   |_=>none
  |_=>none
 |_=>none
def bump:DT->DT
 |.wait k t=>.wait (k+1) t
 |t=>t
def runG(P:Program)(m:Nat):Nat->List Item->St->DT->Option DT
 |0,_,_,_=>none
 |n+1,K,S,g=>
  match g with
  |.own j e w g'=>
   match ownT S j e w with
   |some S'=>(runG P m n K S' g').map (.own j e w)
   |none=>none
  |.frz i _ g'=>
   match frzS S i with
   |some (b,S')=>(runG P m n K S' g').map (.frz i b)
   |none=>none
  |.vle j _ v' g'=>(runG P m n K {S with t:=S.t.set j v'} g').map (.vle j (S.t.getD j .undef) v')
  |.telb i _ _ _ c' g'=>
   match S.h[i]? with
   |some (.rows e w k c)=>(runG P m n K {S with h:=S.h.set i (.rows e w k c')} g').map (.telb i w k c c')
   |some (.rowsL e w k c r0 j0 v)=>if v.under 0=true then(runG P m n K {S with h:=S.h.set i (.rows e w k c')} g').map (.telb i w k (fun r j=>if r=r0/\j=j0 then v else c r j) c')else none
   |_=>none
  |.cas b g1 g2=>
   match runG P m n K S g1,runG P m n K S g2 with
   |some r1,some r2=>some (.cas b r1 r2)
   |_,_=>none
  |.drop T g'=>if maskOK m (mask T S)=true then(runG P m n K (mask T S) g').map (.drop T)else none
  |.telc i _ cs' g'=>
   match S.h[i]? with
   |some (.cells cs)=>(runG P m n K {S with h:=S.h.set i (.cells cs')} g').map (.telc i cs cs')
   |_=>none
  |.never=>some .never
  |.wait 0 g'=>(runG P m n K S g').map (.wait 0)
  |.wait (k+1) g'=>(itemG P m (runG P m n) K S (.wait k g')).map bump
  |g=>itemG P m (runG P m n) K S g
end Ab
