/-
  Part of the proof of the Head laws. Conditions: those that stand in each theorem.
-/
import Derived.Test.YtemgodefhcbleaaGreatB06
set_option linter.unusedSimpArgs false
set_option linter.unusedVariables false
namespace Ab
open Go
def YSpecL(P:Program)(X:Ext):Prop:=
 ∀(l:Nat) (tr:List V) (E:Kept) (w:World) (us:List V) (xs:Array Value) (Kf:Kept),X.I l tr E w->X.go tr=true->tr++ [.tuple us]<+:X.ys->X.base.le Kf->(∀b o,Kf b=some o->w.heap[b]? =some o)->Kf.amb.ok w->(∀b,Kf b≠none->E b=none)->
  us.length=xs.size->(∀j,j<us.length->Rel Kf [] (us.getD j .undef) (xs.getD j Go.undef))->
  YieldAt Fence.wide 0 P l xs w fun e w'=>∃E',e=.returned (.bool (X.go (tr++ [.tuple us])))/\X.I l (tr++ [.tuple us]) E' w'/\(∀b o,Kf b=some o->w'.heap[b]? =some o)/\(∀b,E' b≠none->Kf b=none)/\Kf.amb.ok w'
def IterL(P:Program)(f:FuncId)(caps ys:List V):Prop:=
 ∀X:Ext,X.ys=ys->YSpecL P X->X.go []=true->∃v,HCalls P f (.yld 0::caps) v [.ext X []] [.ext X (feed X.go [] ys)]
theorem RH.upG{β:Homes}{G G' K:Kept}{h:List Blk}{w:World}(r:RH β G K h w)(hg:G.le G')(hk:G'.le K):RH β G' K h w:=
 ⟨r.len,fun i k hi=>(r.blk i k hi).mono hg (Homes.le_refl _) fun _ _=>rfl,r.inj,r.sep,r.keep,hk,r.amb,r.ext⟩
theorem RH.freeG{β:Homes}{G G' K:Kept}{h:List Blk}{w:World}(r:RH β G K h w)(hf:∀(i:Nat) (k:Blk),h[i]? =some k->BlkFree k)(hk:G'.le K):RH β G' K h w:=
 ⟨r.len,fun i k hi=>(r.blk i k hi).free (hf i k hi),r.inj,r.sep,r.keep,hk,r.amb,r.ext⟩
theorem range_wpL{P:Program}{m:Nat}{β:Homes}{G K:Kept}{a:Act}{w:World}{S:St}(r:RS β G K S a w){g:Operand}{ps:Array Tmp}{assign body:Code}{f:FuncId}{caps ys:List V}{go:Nat->Bool}{H:Nat->List Blk}{jx:Exit}{jc:Code}{Qw:Exit->Act->World->Prop}
  (hg:S.eval g=.func (.func f) [] caps) (hcaps:underL 0 caps=true) (hcf:∀xs w,(callFunc f xs).run P w=.ok (.enter f xs) w) (hit:IterL P f caps ys) (hH0:H 0=S.h) (hlen:∀k,(H k).length=S.h.length) (hne:∀k,extAs S.h (H k))
  (hfree:∀(k i:Nat) (b:Blk),(H (k+1))[i]? =some b->BlkFree b) (hgo:go 0=true) (hj:exitCode jx=some jc)
  (hround:∀(l:Nat) (k:Nat) (us:List V),ys[k]? =some (.tuple us)->go k=true->us.length=ps.size/\
   AWP P ⟨some l,S.h.length⟩ assign ⟨setPs ps.toList us S.t,H k,[]⟩ fun e S1=>e=.normal/\extAs S.h S1.h/\
    AWP P ⟨some l,S.h.length⟩ body S1 fun e S2=>e=(bif go (k+1)then .normal else jx)/\S2.h=H (k+1))
  (hQ:∀(β2:Homes) (G2 K3:Kept) (D:Nat) (w4:World),β.le β2->β2.length=S.h.length->G.ext K G2->K.le K3->RH (β2++ [Hm.lie ⟨D,0,0⟩]) G2 K3 (H (stopK go 0 ys.length)++ [.obj (.deferred (some []))]) w4->
   Qw (bif go (stopK go 0 ys.length)then .normal else jx) {a with defers:=[{target:=.collected D,args:= #[]}]++a.defers} w4):
  (Code.rangeFunc g ps assign body).wpIn (wide ⟨none,m⟩) 0 P Qw a w:=by
 refine wpIn_rangeFunc fun fn hfn=> ?_;have hfv:=r.eval g;rw[hg]at hfv
 obtain⟨c',hfe,hcl,hcc⟩:∃c',a.eval g=.func (.func f) #[] c'/\caps.length=c'.size/\∀j,j<caps.length->Rel G β (caps.getD j .undef) (c'.getD j Go.undef):=by
  generalize a.eval g=x at hfv
  cases hfv with
  |func h1 h2 h3 h4=>
   rename_i f' c';have:f'= #[]:=Array.eq_empty_of_size_eq_zero (by simpa using h1.symm);subst this;exact⟨c',rfl,h2,h4⟩
 obtain⟨D,hD⟩:∃D,w.heap.size=D:=⟨_,rfl⟩
 obtain⟨rec,hrec⟩:∃rec:LoopState->Option Code->Loop,rec=fun st pe=>{state:=st,pending:=pe,fn,tmps:=a.tmps,params:=ps,assign,body,defers:=D}:=⟨_,rfl⟩
 obtain⟨W1,hW1⟩:∃W1,(w.alloc (.deferred (some []))).alloc (.loop (rec .ready none))=W1:=⟨_,rfl⟩
 have hL1:W1.heap[D+1]? =some (.loop (rec .ready none)):=by
  rw[<-hW1];have:=World.alloc_heap_new (w.alloc (.deferred (some []))) (.loop (rec .ready none));rwa[World.size_alloc,hD]at this
 have hK1:W1.heap[D]? =some (.deferred (some [])):=by
  rw[<-hW1,<-hD];exact(heap_alloc_lt _ _ (by simp)).trans (World.alloc_heap_new w _)
 have hold:∀b,b<D->W1.heap[b]? =w.heap[b]? :=fun b hb=>by
  rw[<-hW1];exact(heap_alloc_lt _ _ (by simp[hD];omega)).trans (heap_alloc_lt _ _ (by omega))
 have hsz:W1.heap.size=D+2:=by rw[<-hW1];simp[hD]
 have hKlt:∀b o,K b=some o->b<D:=fun b o hb=>by rw[<-hD];exact(Array.getElem?_eq_some_iff.1 (r.h.keep b o hb)).1
 obtain⟨ES,hES⟩:=r.h.extOK
 have hbaseK:∀ {h:List Blk},extAs S.h h->∀(i:Nat) (X:Ext) (tr:List V),h[i]? =some (.ext X tr)->X.base.le K:=fun he i X tr hi=>by
  obtain⟨tr',h'⟩:=he i X tr hi;exact(hES i X tr' h').choose_spec.2.2.1
 obtain⟨rk,hrk⟩:∃rk:Nat->Loop,rk=fun k=>bif go k then rec .ready none else rec .done (some jc):=⟨_,rfl⟩
 let mine:Kept->Homes->(Nat->Kept)->Nat->Nat->Prop:=fun K2 β2 E0 k b=>K b=none/\(K2 b≠none\/b=D+1\/(∃(i:Nat) (x:Home) (kb:Blk),(H k)[i]? =some kb/\kb≠ .gone/\β2[i]? =some (.lie x)/\x.b=b)\/own E0 (H k) b)
 let I:Nat->List V->Kept->World->Prop:=fun l tr E w'=>l=D+1/\∃(β2:Homes) (G2 K2:Kept) (E0:Nat->Kept) (wI:World),β.le β2/\G.ext K G2/\K.le K2/\RH β2 G2 K2 (H tr.length) wI/\wI.heap[D+1]? =some (.loop (rk tr.length))/\K2 (D+1)=none/\
  (∀(i:Nat) (x:Home) (kb:Blk),(H tr.length)[i]? =some kb->kb≠ .gone->β2[i]? =some (.lie x)->x.b≠D+1)/\(K2 D=some (.deferred (some []))/\G2 D=none)/\(∀b,mine K2 β2 E0 tr.length b->E b=wI.heap[b]?)/\(∀b,¬mine K2 β2 E0 tr.length b->E b=none)/\
  (∀b o,E b=some o->w'.heap[b]? =some o)/\ExtOK β2 K2 (H tr.length) wI E0/\(∀b,own E0 (H tr.length) b->b≠D+1)/\wI.heap.size<=w'.heap.size/\Mild wI w'
 have move:∀ {l:Nat} {tr:List V} {E:Kept} {w':World},I l tr E w'->(∀b o,K b=some o->w'.heap[b]? =some o)->K.amb.ok w'->∃(β2:Homes) (G2 K2:Kept) (E0:Nat->Kept),β.le β2/\G.ext K G2/\K.le K2/\RH β2 G2 K2 (H tr.length) w'/\w'.heap[D+1]? =some (.loop (rk tr.length))/\K2 (D+1)=none/\
   (∀(i:Nat) (x:Home) (kb:Blk),(H tr.length)[i]? =some kb->kb≠ .gone->β2[i]? =some (.lie x)->x.b≠D+1)/\(K2 D=some (.deferred (some []))/\G2 D=none)/\(∀b,mine K2 β2 E0 tr.length b->E b≠none)/\ExtOK β2 K2 (H tr.length) w' E0/\(∀b,own E0 (H tr.length) b->b≠D+1):=fun {l tr E w'} hI hk hka=>by
  obtain⟨-,β2,G2,K2,E0,wI,q1,q2,q3,q4,q5,q6,q7,q8,q9,q10,q11,q12,q13,q14,q15⟩:=hI
  have hmine:∀b,mine K2 β2 E0 tr.length b->b<wI.heap.size:=fun b hb=>by
   rcases hb.2 with h|rfl|⟨i,x,kb,h1,h2,h3,rfl⟩|h
   ·cases hb:K2 b with
    |none=>exact absurd hb h
    |some o=>exact(Array.getElem?_eq_some_iff.1 (q4.keep b o hb)).1
   ·exact(Array.getElem?_eq_some_iff.1 q5).1
   ·exact(q4.sep i x kb h1 h2 h3).2
   ·exact q12.lt h
  have hEm:∀b,mine K2 β2 E0 tr.length b->w'.heap[b]? =wI.heap[b]? :=fun b hb=>by
   have h1:=q9 b hb;have h2:=hmine b hb;rw[Array.getElem?_eq_getElem h2]at h1⊢;exact q11 _ _ h1
  have hKD:K (D+1)=none:=by
   cases h:K (D+1)with
   |none=>rfl
   |some o=>have:=hKlt _ _ h;omega
  have hKown:∀b,own E0 (H tr.length) b->K b=none:=fun b hb=>by
   have h2:=q12.off hb
   cases h:K b with
   |none=>rfl
   |some o=>rw[q3 _ _ h]at h2;cases h2
  have hkeep:∀b o,K2 b=some o->w'.heap[b]? =some o:=fun b o hb=>by
   cases hKb:K b with
   |none=>rw[hEm b ⟨hKb,.inl (by rw[hb];simp)⟩];exact q4.keep b o hb
   |some o'=>rw[q3 b o' hKb]at hb;cases hb;exact hk b _ hKb
  have hext:ExtOK β2 K2 (H tr.length) w' E0:=q12.move (fun b hb=>q12.off hb) (fun b hb=>hEm b ⟨hKown b hb,.inr (.inr (.inr hb))⟩) (fun i X tr' hi=>(hbaseK (hne _) i X tr' hi).trans q3) hkeep q14 q15;refine⟨β2,G2,K2,E0,q1,q2,q3,q4.changeX hext hkeep q4.gk (fun i x kb h1 h2 h3=> ?_) (by rw[<-q3.same];exact hka),?_,q6,q7,q8,fun b hb=> ?_,hext,q13⟩
  ·have hs:=q4.sep i x kb h1 h2 h3
   have hKb:K x.b=none:=by
    cases h:K x.b with
    |none=>rfl
    |some o=>have:=q3 _ _ h;rw[hs.1]at this;cases this
   have hx:=hEm _ ⟨hKb,.inr (.inr (.inl ⟨i,x,kb,h1,h2,h3,rfl⟩))⟩;exact⟨hs.1,hx,(Array.getElem?_eq_some_iff.1 (hx.trans (Array.getElem?_eq_getElem hs.2))).1⟩
  ·rw[hEm _ ⟨hKD,.inr (.inl rfl)⟩];exact q5
  ·rw[q9 b hb,Array.getElem?_eq_getElem (hmine b hb)];simp
 let X:Ext:={
  I:=I,go:=fun tr=>go tr.length,base:=K,ys:=ys,keeps:=fun {l tr E w1} h=>by
           obtain⟨q0,β2,G2,K2,E0,wI,q1,q2,q3,q4,q5,q6,q7,q8,q9,q10,q11,-⟩:=h
           exact q11,
          stable:=fun {l tr E w1 w2} h h1 _ h3 h4=>by
           obtain⟨q0,β2,G2,K2,E0,wI,q1,q2,q3,q4,q5,q6,q7,q8,q9,q10,q11,q12,q13,q14,q15⟩:=h
           exact⟨q0,β2,G2,K2,E0,wI,q1,q2,q3,q4,q5,q6,q7,q8,q9,q10,h1,q12,q13,Nat.le_trans q14 h3,q15.trans h4⟩}
 have hY:YSpecL P X:=by
  rintro l tr E w1 us xs Kf hI hgo1 hpre hbase hKf hamb hdis hul hrel
  have hsame:K.amb=Kf.amb:=hbase.same;have hl:l=D+1:=hI.1;subst hl;obtain⟨β2,G2,K2,E0,q1,q2,q3,hr,hR,q6,q7,q8,q9,q12,q13⟩:=move hI (fun b o hb=>hKf b o (hbase b o hb)) (by rw[hsame];exact hamb);have hgo2:go tr.length=true:=hgo1;have hrkk:rk tr.length=rec .ready none:=by rw[hrk];simp[hgo2]
  rw[hrkk]at hR
  have hys:ys[tr.length]? =some (.tuple us):=by
   obtain⟨s,hs⟩:=hpre;show X.ys[tr.length]? =_;rw[<-hs];simp
  obtain⟨hps,hbody⟩:=hround (D+1) tr.length us hys hgo2;have hy:=run_yield (P:=P) (args:=xs) hR (by rw[hrec];simp;omega);rw[hrec]at hy;refine⟨fn,_,assign,body,hy,roundIn_of_wpIn trivial ?_⟩
  have hKD:K (D+1)=none:=by
   cases h:K (D+1)with
   |none=>rfl
   |some o=>have:=hKlt _ _ h;omega
  have hKfR:Kf (D+1)=none:=by
   cases h:Kf (D+1)with
   |none=>rfl
   |some o=>exact absurd (hdis (D+1) (by rw[h];simp)) (q9 _ ⟨hKD,.inr (.inl rfl)⟩)
  obtain⟨K3,hK3⟩:∃K3:Kept,K3=⟨fun b=>if b=D+1 then some (.loop (rec .ready none))else match K2 b with|some o=>some o|none=>Kf b,K.amb⟩:=⟨_,rfl⟩
  have k3s:K3.amb=K.amb:=by rw[hK3]
  have k3R:K3 (D+1)=some (.loop (rec .ready none)):=by rw[hK3];simp
  have k3a:∀b o,K2 b=some o->K3 b=some o:=fun b o hb=>by
   rw[hK3];have:b≠D+1:=by intro e;rw[e,q6]at hb;cases hb
   simp[this,hb]
  have k3f:∀b o,Kf b=some o->K3 b=some o:=fun b o hb=>by
   have:b≠D+1:=by intro e;rw[e,hKfR]at hb;cases hb
   cases h2:K2 b with
   |none=>rw[hK3];simp[this,h2,hb]
   |some o2=>
    have h3:=hr.keep b o2 h2;rw[hKf b o hb]at h3;cases h3;exact k3a _ _ h2
  have k3n:∀b,K3 b=none->b≠D+1/\K2 b=none/\Kf b=none:=fun b hb=>by
   rw[hK3]at hb;simp only at hb;split at hb
   ·cases hb
   ·rename_i hne;split at hb
    ·cases hb
    ·rename_i h2;exact⟨hne,h2,hb⟩
  have hga:G2.amb=K.amb:=hr.gk.same.trans q3.same.symm
  obtain⟨G3,hG3⟩:∃G3:Kept,G3=⟨fun b=>match G2 b with|some o=>some o|none=>Kf b,K.amb⟩:=⟨_,rfl⟩
  have g3s:G3.amb=K.amb:=by rw[hG3]
  have g3a:G2.le G3:=⟨fun b o hb=>by rw[hG3];simp[hb],hga.trans g3s.symm⟩
  have g3n:∀b o,G3 b=some o->G2 b=some o\/Kf b=some o:=fun b o hb=>by
   rw[hG3]at hb;simp only at hb;split at hb
   ·rename_i o2 h2;exact .inl (by rw[h2];exact hb)
   ·exact .inr hb
  have g3k:G3.le K3:=⟨fun b o hb=>(g3n b o hb).elim (fun h=>k3a b o (hr.gk b o h)) (k3f b o),g3s.trans k3s.symm⟩
  have g3f:Kf.le G3:=by
   refine⟨fun b o hb=> ?_,hsame.symm.trans g3s.symm⟩
   cases h2:G2 b with
   |none=>rw[hG3];simp[h2,hb]
   |some o2=>
    have h3:=hr.keep b o2 (hr.gk b o2 h2);rw[hKf b o hb]at h3;cases h3;exact g3a.sub b _ h2
  have hrel':∀j,j<us.length->Rel G3 β2 (us.getD j .undef) (xs.getD j Go.undef):=fun j hj=>Rel.mono g3f (hrel j hj) (Homes.nil_le _)
  have hset:=setPs_rel (G:=G3) (β:=β2) ps.toList us xs.toList S.t a.tmps (by simpa using hps) (by simp;omega) r.size (fun j=>(r.tmp j).mono (q2.1.trans g3a) q1) (fun j hj=>by
   have:=hrel' j hj
   simpa[gE,aG]using this)
  have hfold:(ps.zip xs).foldl (fun tmps (t,a)=>tmps.setIfInBounds t a) a.tmps=(ps.toList.zip xs.toList).foldl (fun tm (p,a)=>tm.setIfInBounds p a) a.tmps:=by
   rw[<-Array.foldl_toList,Array.toList_zip]
  have rs:RS β2 G3 K3 ⟨setPs ps.toList us S.t,H tr.length,[]⟩ {tmps:=(ps.zip xs).foldl (fun tmps (t,a)=>tmps.setIfInBounds t a) a.tmps,defers:=[]} w1:=by
   have hkeep:∀b o,K3 b=some o->w1.heap[b]? =some o:=fun b o hb=>by
    rw[hK3]at hb;simp only at hb;split at hb
    ·rename_i e;cases hb;rw[e];exact hR
    ·split at hb
     ·rename_i o2 h2;cases hb;exact hr.keep _ _ h2
     ·exact hKf _ _ hb
   have hext:ExtOK β2 K3 (H tr.length) w1 E0:=q12.move (fun b hb=>by
    have h2:=q12.off hb
    have hKb:K b=none:=by
     cases h:K b with
     |none=>rfl
     |some o=>rw[q3 _ _ h]at h2;cases h2
    have hf:Kf b=none:=by
     cases h:Kf b with
     |none=>rfl
     |some o=>exact absurd (hdis b (by rw[h];simp)) (q9 _ ⟨hKb,.inr (.inr (.inr hb))⟩)
    rw[hK3]
    simp[q13 b hb,h2,hf]) (fun _ _=>rfl) (fun i Y tr' hi=>((hbaseK (hne _) i Y tr' hi).trans q3).trans ⟨k3a,q3.same.symm.trans k3s.symm⟩) hkeep (Nat.le_refl _) (Mild.refl _)
   refine⟨(hr.changeX hext hkeep ⟨fun b o hb=>k3a b o (hr.gk b o hb),hr.gk.same.trans (q3.same.symm.trans k3s.symm)⟩ (fun i x kb h1 h2 h3=> ?_) (by rw[k3s,hsame];exact hamb)).upG g3a g3k,by rw[hfold];exact hset.1,fun j=>by rw[hfold];exact hset.2 j,rfl,by simp⟩
   ·have hs:=hr.sep i x kb h1 h2 h3;refine⟨?_,rfl,hs.2⟩
    have hKb:K x.b=none:=by
     cases h:K x.b with
     |none=>rfl
     |some o=>have:=q3 _ _ h;rw[hs.1]at this;cases this
    have hf:Kf x.b=none:=by
     cases h:Kf x.b with
     |none=>rfl
     |some o=>exact absurd (hdis x.b (by rw[h];simp)) (q9 _ ⟨hKb,.inr (.inr (.inl ⟨i,x,kb,h1,h2,h3,rfl⟩))⟩)
    rw[hK3];simp[q7 i x kb h1 h2 h3,hs.1,hf]
  have ha:=hbody β2 G3 K3 _ w1 rs;refine wpIn_mono ha ?_;rintro e a1 wA ⟨S1,β',G',K',l1,g1,k1,r1,rfl,hn1,hb1⟩
  have hRA:wA.heap[D+1]? =some (.loop (rec .ready none)):=r1.h.keep _ _ (k1 _ _ k3R);have hltA:=(Array.getElem?_eq_some_iff.1 hRA).1;refine⟨_,run_beginRound hRA (by rw[hrec]),?_⟩
  obtain⟨bz,hbz⟩:∃bz,Obj.loop {rec .ready none with state:=.busy}=bz:=⟨_,rfl⟩
  rw[hbz]
  obtain⟨K4,hK4⟩:∃K4:Kept,K4=⟨fun b=>if b=D+1 then some bz else K' b,K'.amb⟩:=⟨_,rfl⟩
  have k4s:K4.amb=K'.amb:=by rw[hK4]
  have k4R:K4 (D+1)=some bz:=by rw[hK4];simp
  have k4a:∀b,b≠D+1->K4 b=K' b:=fun b hb=>by rw[hK4];simp[hb]
  have k'R:K' (D+1)=some (.loop (rec .ready none)):=k1 _ _ k3R
  have g'R:G' (D+1)=none:=by
   cases h:G' (D+1)with
   |none=>rfl
   |some o=>
    rcases g1.2 _ _ h with h2|h2
    ·rcases g3n _ _ h2 with h2|h2
     ·have:=hr.gk _ _ h2;rw[q6]at this;cases this
     ·rw[hKfR]at h2;cases h2
    ·rw[k3R]at h2;cases h2
  have hKle3:K.le K3:=⟨fun b o hb=>k3a b o (q3 b o hb),k3s.symm⟩
  have hKle':K.le K':=hKle3.trans k1
  have hKle4:K.le K4:=⟨fun b o hb=>by rw[k4a b (fun e=>by rw[e,hKD]at hb;cases hb)];exact hKle' b o hb,hKle'.same.trans k4s.symm⟩
  have r2:RS β' G' K4 S1 a1 (wA.putObj (D+1) bz):=by
   have hkeep:∀b o,K4 b=some o->(wA.putObj (D+1) bz).heap[b]? =some o:=fun b o hb=>by
    by_cases e:b=D+1
    ·subst e;rw[k4R]at hb;cases hb;exact World.putObj_heap_same hltA
    ·rw[k4a b e]at hb;rw[World.putObj_heap_other e];exact r1.h.keep _ _ hb
   obtain⟨E1,hE1⟩:=r1.h.extOK;have hne1:∀b,own E1 S1.h b->b≠D+1:=fun b hb e=>by have:=hE1.off hb;rw[e,k'R]at this;cases this
   have hext:=hE1.move (K':=K4) (w':=wA.putObj (D+1) bz) (fun b hb=>by rw[k4a b (hne1 b hb)];exact hE1.off hb) (fun b hb=>World.putObj_heap_other (hne1 b hb)) (fun i Y tr' hi=>(hbaseK hn1 i Y tr' hi).trans hKle4) hkeep (by simp) (Mild.putObj _ _ _);refine⟨r1.h.changeX hext hkeep ⟨fun b o hb=> ?_,r1.h.gk.same.trans k4s.symm⟩ (fun i x kb h1 h2 h3=> ?_) (by rw[k4s];exact r1.h.amb.mild (Mild.putObj _ _ _)),r1.size,r1.tmp,r1.marks,r1.mark⟩
   ·have e:b≠D+1:=by intro e;rw[e,g'R]at hb;cases hb
    rw[k4a b e];exact r1.h.gk _ _ hb
   ·have hs:=r1.h.sep i x kb h1 h2 h3;have e:x.b≠D+1:=by intro e;rw[e,k'R]at hs;cases hs.1
    exact⟨by rw[k4a _ e];exact hs.1,World.putObj_heap_other e,by simpa using hs.2⟩
  refine wpIn_mono (hb1 β' G' K4 a1 _ r2) ?_;rintro e2 a2 wC ⟨S2,β4,G4,K5,l4,g4,k4,r4,he2,hS2⟩
  have hRC:wC.heap[D+1]? =some bz:=r4.h.keep _ _ (k4 _ _ k4R);have hltC:=(Array.getElem?_eq_some_iff.1 hRC).1;have k5f:∀b o,b≠D+1->K3 b=some o->K5 b=some o:=fun b o hb h=>k4 _ _ (by rw[k4a b hb];exact k1 _ _ h);have hlb:β2.length=S.h.length:=by rw[hr.len,hlen]
  have low24:β2.le β4:=by
   have:=Homes.low.trans l1 l4;unfold Homes.low at this;rwa[List.take_of_length_le (by simp only;omega)]at this
  rw[<-hbz]at hRC
  have fin:∀(jump:Option Code),(jump=none/\go (tr.length+1)=true\/jump=some jc/\go (tr.length+1)=false)->
    ∃v w',(Instr.endRound (D+1) jump).run P wC=.ok v w'/\∃E',Ending.returned v=.returned (.bool (X.go (tr++ [.tuple us])))/\I (D+1) (tr++ [.tuple us]) E' w'/\(∀b o,Kf b=some o->w'.heap[b]? =some o)/\(∀b,E' b≠none->Kf b=none)/\Kf.amb.ok w':=fun jump hjump=>by
   refine⟨_,_,run_endRound jump hRC,?_⟩
   obtain⟨w4,hw4⟩:∃w4,wC.putObj (D+1) (.loop {{rec .ready none with state:=.busy} with state:=if jump.isNone then .ready else .done,pending:=jump})=w4:=⟨_,rfl⟩
   have h4R:w4.heap[D+1]? =some (.loop (rk (tr.length+1))):=by
    rw[<-hw4,World.putObj_heap_same hltC,hrk,hrec];rcases hjump with⟨rfl,e⟩|⟨rfl,e⟩<;>simp[e]
   have h4o:∀b,b≠D+1->w4.heap[b]? =wC.heap[b]? :=fun b hb=>by rw[<-hw4];exact World.putObj_heap_other hb
   have h4s:w4.heap.size=wC.heap.size:=by rw[<-hw4];simp
   have h4m:Mild wC w4:=by rw[<-hw4];exact Mild.putObj _ _ _
   rw[hw4];have hlen1:(tr++ [V.tuple us]).length=tr.length+1:=by simp
   obtain⟨K6,hK6⟩:∃K6:Kept,K6=⟨fun b=>open Classical in if b=D+1 then none else if K2 b=none/\Kf b≠none then none else K5 b,K5.amb⟩:=⟨_,rfl⟩
   have k6m:K6.amb=K5.amb:=by rw[hK6]
   have kall:K.amb=K5.amb:=k3s.symm.trans (k1.same.trans (k4s.symm.trans k4.same));have k6R:K6 (D+1)=none:=by rw[hK6];simp
   have k6a:∀b,b≠D+1->¬(K2 b=none/\Kf b≠none)->K6 b=K5 b:=fun b h1 h2=>by rw[hK6];simp only[if_neg h1,if_neg h2]
   have k6s:∀b o,K6 b=some o->b≠D+1/\¬(K2 b=none/\Kf b≠none)/\K5 b=some o:=fun b o h=>by
    rw[hK6]at h;simp only at h;split at h
    ·cases h
    ·rename_i h1;split at h
     ·cases h
     ·rename_i h2;exact⟨h1,h2,h⟩
   have g4b:∀b o,G2 b=some o->b≠D+1/\¬(K2 b=none/\Kf b≠none):=fun b o h=>by
    have h2:=hr.gk _ _ h;exact⟨fun e=>(by rw[e,q6]at h2;cases h2),fun hc=>by rw[hc.1]at h2;cases h2⟩
   have kf4:∀b o,Kf b=some o->b≠D+1/\K5 b=some o:=fun b o hb=>by
    have e:b≠D+1:=fun e=>by rw[e,hKfR]at hb;cases hb
    exact⟨e,k5f b o e (k3f b o hb)⟩
   have hkeep6:∀b o,K6 b=some o->w4.heap[b]? =some o:=fun b o hb=>by
    obtain⟨e,_,h5⟩:=k6s b o hb;rw[h4o b e];exact r4.h.keep _ _ h5
   obtain⟨E4,hE4⟩:=r4.h.extOK;rw[hS2]at hE4;have k5R:K5 (D+1)=some bz:=k4 _ _ k4R;have hne4:∀b,own E4 (H (tr.length+1)) b->b≠D+1:=fun b hb e=>by have:=hE4.off hb;rw[e,k5R]at this;cases this
   have hKle6:K.le K6:=by
    refine⟨fun b o hb=> ?_,kall.trans k6m.symm⟩;have hb2:=q3 _ _ hb;have e:b≠D+1:=fun e=>by rw[e,q6]at hb2;cases hb2
    rw[k6a b e (fun h=>by rw[h.1]at hb2;cases hb2)];exact k5f b o e (k3a _ _ hb2)
   have hext6:ExtOK β4 K6 (H (tr.length+1)) w4 E4:=hE4.move (fun b hb=>by
    cases h6:K6 b with
    |none=>rfl
    |some o=>have:=(k6s _ _ h6).2.2;rw[hE4.off hb]at this;cases this) (fun b hb=>h4o b (hne4 b hb)) (fun i Y tr' hi=>(hbaseK (hne _) i Y tr' hi).trans hKle6) hkeep6 (by rw[h4s];exact Nat.le_refl _) h4m
   have hr4:RH β4 G2 K6 (H (tr.length+1)) w4:=by
    have hr4h0:=r4.h;rw[hS2]at hr4h0;have hr4h:RH β4 G2 K5 (H (tr.length+1)) wC:=hr4h0.freeG (hfree _) ⟨fun b o hb=>k5f b o (g4b b o hb).1 (k3a _ _ (hr.gk _ _ hb)),hga.trans kall⟩;refine hr4h.changeX hext6 hkeep6 ⟨fun b o hb=> ?_,hr4h.gk.same.trans k6m.symm⟩ (fun i x kb h1 h2 h3=> ?_) (by rw[k6m];exact r4.h.amb.mild h4m)
    ·obtain⟨e,h5⟩:=g4b b o hb;rw[k6a b e h5];exact hr4h.gk _ _ hb
    ·have hs:=hr4h.sep i x kb h1 h2 h3;have e:x.b≠D+1:=fun e=>by rw[e,k4 _ _ k4R]at hs;cases hs.1
     refine⟨?_,h4o _ e,by rw[h4s];exact hs.2⟩
     cases h6:K6 x.b with
     |none=>rfl
     |some o=>have:=(k6s _ _ h6).2.2;rw[hs.1]at this;cases this
   refine⟨⟨fun b=>open Classical in if mine K6 β4 E4 (tr.length+1) b then w4.heap[b]? else none,K.amb⟩,?_,⟨rfl,β4,G2,K6,E4,w4,q1.trans low24,q2,hKle6,?_,?_,k6R,?_,?_,?_,?_,?_,by rw[hlen1];exact hext6,by rw[hlen1];exact hne4,Nat.le_refl _,Mild.refl _⟩,?_,?_,by rw[<-hsame,kall];exact r4.h.amb.mild h4m⟩
   ·show Ending.returned (Value.bool jump.isNone)=.returned (.bool (go (tr++ [V.tuple us]).length));rw[hlen1];rcases hjump with⟨rfl,e⟩|⟨rfl,e⟩<;>rw[e]<;>rfl
   ·rw[hlen1];exact hr4
   ·rw[hlen1];exact h4R
   ·rw[hlen1];intro i x kb h1 h2 h3 e;have hs:=r4.h.sep i x kb (by rw[hS2];exact h1) h2 h3;rw[e,k4 _ _ k4R]at hs;cases hs.1
   ·refine⟨?_,?_⟩
    ·rw[k6a D (by omega) (fun h=>by rw[h.1]at q8;cases q8.1)];exact k5f D _ (by omega) (k3a _ _ q8.1)
    ·exact q8.2
   ·rw[hlen1];intro b hb;simp only[if_pos hb]
   ·rw[hlen1];intro b hb;simp only[if_neg hb]
   ·intro b o hb;simp only at hb;split at hb
    ·exact hb
    ·cases hb
   ·intro b o hb;obtain⟨e,h5⟩:=kf4 b o hb;rw[h4o b e];exact r4.h.keep _ _ h5
   ·intro b hb;simp only at hb;split at hb
    ·rename_i hm
     cases hf:Kf b with
     |none=>rfl
     |some o=>
      exfalso
      obtain⟨e,h5⟩:=kf4 b o hf;rcases hm.2 with h|h|⟨i,x,kb,h1,h2,h3,rfl⟩|h
      ·cases h6:K6 b with
       |none=>exact h h6
       |some o6=>
        have h7:=(k6s _ _ h6).2.1;have:K2 b≠none:=fun h8=>h7 ⟨h8,by rw[hf];simp⟩;exact q9 b ⟨hm.1,.inl this⟩ (hdis b (by rw[hf];simp))
      ·exact e h
      ·have hs:=r4.h.sep i x kb (by rw[hS2];exact h1) h2 h3;rw[h5]at hs;cases hs.1
      ·have:=hE4.off h;rw[h5]at this;cases this
    ·exact absurd rfl hb
  cases hgk:go (tr.length+1)with
  |true=>
   rw[hgk]at he2;simp only[cond_true]at he2;subst he2;exact fin none (.inl ⟨rfl,hgk⟩)
  |false=>
   rw[hgk]at he2;simp only[cond_false]at he2;subst he2;unfold exitCode at hj;split at hj
   ·cases hj;exact fin (some .ret) (.inr ⟨rfl,hgk⟩)
   ·cases hj;exact fin (some (.exit _)) (.inr ⟨rfl,hgk⟩)
   ·cases hj
 obtain⟨v,hcall⟩:=hit X rfl hY hgo
 have hKD0:∀b,D<=b->K b=none:=fun b hb=>by
  cases h:K b with
  |none=>rfl
  |some o=>have:=hKlt _ _ h;omega
 obtain⟨K0,hK0⟩:∃K0:Kept,K0=⟨fun b=>if b=D then some (.deferred (some []))else K b,K.amb⟩:=⟨_,rfl⟩
 have k0s:K0.amb=K.amb:=by rw[hK0]
 have hWm:Mild w W1:=by rw[<-hW1];exact(Mild.alloc _ _).trans (Mild.alloc _ _)
 have k0a:∀b,b≠D->K0 b=K b:=fun b hb=>by rw[hK0];simp[hb]
 have k0D:K0 D=some (.deferred (some [])):=by rw[hK0];simp
 have hkeep0:∀b o,K0 b=some o->W1.heap[b]? =some o:=fun b o hb=>by
  by_cases e:b=D
  ·subst e;rw[k0D]at hb;cases hb;exact hK1
  ·rw[k0a b e]at hb;rw[hold b (hKlt _ _ hb)];exact r.h.keep _ _ hb
 have hESlt:∀b,own ES S.h b->b<D:=fun b hb=>by rw[<-hD];exact hES.lt hb
 have hKK0:K.le K0:=⟨fun b o hb=>by rw[k0a b (by have:=hKlt _ _ hb;omega)];exact hb,k0s.symm⟩
 have hext0:ExtOK β K0 S.h W1 ES:=hES.move (fun b hb=>by rw[k0a b (by have:=hESlt b hb;omega)];exact hES.off hb) (fun b hb=>hold b (hESlt b hb)) (fun i Y tr' hi=>(hbaseK (fun _ _ tr' h=>⟨tr',h⟩) i Y tr' hi).trans hKK0) hkeep0 (by rw[hsz,hD];omega) hWm
 have hr1:RH β G K0 (H 0) W1:=by
  rw[hH0];refine r.h.changeX hext0 hkeep0 ⟨fun b o hb=> ?_,r.h.gk.same.trans k0s.symm⟩ (fun i x k h1 h2 h3=> ?_) (by rw[k0s];exact r.h.amb.mild hWm)
  ·have hb':=r.h.gk _ _ hb;have:=hKlt _ _ hb';rw[k0a b (by omega)];exact hb'
  ·have hs:=r.h.sep i x k h1 h2 h3;rw[hD]at hs;exact⟨by rw[k0a _ (by omega)];exact hs.1,hold _ hs.2,by rw[hsz];omega⟩
 have hI0:I (D+1) [] ⟨fun b=>open Classical in if mine K0 β ES 0 b then W1.heap[b]? else none,K.amb⟩ W1:=by
  refine⟨rfl,β,G,K0,ES,W1,Homes.le_refl _,G.ext_refl K,hKK0,hr1,?_,?_,fun i x kb h1 h2 h3=> ?_,⟨k0D,?_⟩,fun b hb=>by simp only[List.length_nil]at hb⊢;simp only[if_pos hb],fun b hb=>by simp only[List.length_nil]at hb⊢;simp only[if_neg hb],fun b o hb=> ?_,by rw[List.length_nil,hH0];exact hext0,fun b hb=>by rw[List.length_nil,hH0]at hb;have:=hESlt b hb;omega,Nat.le_refl _,Mild.refl _⟩
  ·rw[hL1,hrk];simp[hgo]
  ·rw[k0a _ (by omega)];exact hKD0 _ (by omega)
  ·simp only[List.length_nil,hH0]at h1;have:=(r.h.sep i x kb h1 h2 h3).2;omega
  ·cases h:G D with
   |none=>rfl
   |some o=>have:=r.h.gk _ _ h;rw[hKD0 D (Nat.le_refl _)]at this;cases this
  ·simp only at hb;split at hb
   ·exact hb
   ·cases hb
 refine⟨D+1,[{target:=.collected D,args:= #[]}],W1,{target:=.fn (.func f) c',args:= #[.func (.yield (D+1)) #[] #[]]},W1,f, #[.func (.yield (D+1)) #[] #[]]++c',W1,?_,?_,fun _ _=>trivial,?_,fun h=>by simp[wide,Fence.wide]at h,?_⟩
 ·rw[<-hW1,hrec,<-hD];exact run_enterLoop_outer _ _ _ _ _
 ·simp only[resolve,hfe];simp[go_sem]
 ·simp[invoke,go_sem,hcf]
 refine(callsIn_wide (n:=0-1)).2 ((hcall.2 [.ext (D+1)] G K W1 _ ⟨rfl,?_,?_,?_,?_,r.h.gk,r.h.amb.mild hWm,?_⟩ ?_ ?_).mono ?_)
 ·intro i k hi
  match i,hi with
  |0,hi=>cases hi;trivial
  |i+1,hi=>simp at hi
 ·intro i j x y k k' hi hj _ _ hbi
  match i,hbi with
  |0,hbi=>cases hbi
  |i+1,hbi=>simp at hbi
 ·intro i x k hi _ hbi
  match i,hbi with
  |0,hbi=>cases hbi
  |i+1,hbi=>simp at hbi
 ·intro b o hb;rw[hold b (hKlt _ _ hb)];exact r.h.keep _ _ hb
 ·intro i Y tr hi
  match i,hi with
  |0,hi=>
   cases hi;refine⟨D+1,_,rfl,hI0,K.le_refl,fun b hb=>⟨?_,fun j x k hj _ hbj=> ?_⟩⟩
   ·simp only at hb;split at hb
    ·rename_i hm;exact hm.1
    ·exact absurd rfl hb
   ·match j,hbj with
    |0,hbj=>cases hbj
    |j+1,hbj=>simp at hbj
  |i+1,hi=>simp at hi
 ·simp[hcl];omega
 ·intro j hj
  cases j with
  |zero=>
   show Rel G [Hm.ext (D+1)] (.yld 0) _
   have e:(#[Value.func (.yield (D+1)) #[] #[]]++c').getD 0 Go.undef=.func (.yield (D+1)) #[] #[]:=by
    rw[agetD_append_left (by simp)];simp
   rw[e];exact .yld rfl
  |succ j=>
   have hj':j<caps.length:=by simpa using hj
   have h1:Rel G [] (caps.getD j .undef) (c'.getD j Go.undef):=by simpa using(hcc j hj').take (underL_getD hcaps j)
   have e:(#[Value.func (.yield (D+1)) #[] #[]]++c').getD (j+1) Go.undef=c'.getD j Go.undef:=by
    rw[agetD_append_right (by simp)];simp
   rw[e];exact h1.up _
 rintro e w' ⟨x,β',G',K',rfl,b1,gx,kx,rh,-⟩
 obtain⟨l,E,hl,hI,-,hE⟩:=rh.ext 0 X _ rfl;obtain⟨β2,G2,K2,E0,q1,q2,q3,hr,hR,q6,q7,q8,q9,q12,q13⟩:=move hI (fun b o hb=>rh.keep b o (kx b o hb)) (by rw[kx.same];exact rh.amb);have hfl:(feed X.go [] ys).length=stopK go 0 ys.length:=feed_length go ys [];rw[hfl]at hr hR q7 q12 q13;generalize stopK go 0 ys.length=kk at hr hR q7 q12 q13 hQ
 have hltR:=(Array.getElem?_eq_some_iff.1 hR).1;have hbusy:(rk kk).state≠ .busy:=by rw[hrk,hrec];simp only;cases go kk<;>simp
 have hpend:(rk kk).pending=bif go kk then none else some jc:=by rw[hrk,hrec];simp only;cases go kk<;>simp
 obtain⟨w4,hw4⟩:∃w4,w'.putObj (D+1) (.loop {rk kk with state:=.exhausted})=w4:=⟨_,rfl⟩
 have h4o:∀b,b≠D+1->w4.heap[b]? =w'.heap[b]? :=fun b hb=>by rw[<-hw4];exact World.putObj_heap_other hb
 have h4s:w4.heap.size=w'.heap.size:=by rw[<-hw4];simp
 have h4m:Mild w' w4:=by rw[<-hw4];exact Mild.putObj _ _ _
 refine⟨(rk kk).pending,w4,by rw[<-hw4];exact run_endLoop hR hbusy,?_⟩
 obtain⟨K3,hK3⟩:∃K3:Kept,K3=⟨fun b=>if b=D then none else K2 b,K2.amb⟩:=⟨_,rfl⟩
 have k3s:K3.amb=K2.amb:=by rw[hK3]
 have k3D:K3 D=none:=by rw[hK3];simp
 have k3a:∀b,b≠D->K3 b=K2 b:=fun b hb=>by rw[hK3];simp[hb]
 have g2D:G2 D=none:=q8.2;have hD4:w4.heap[D]? =some (.deferred (some [])):=by rw[h4o D (by omega)];exact hr.keep _ _ q8.1
 have hkeep3:∀b o,K3 b=some o->w4.heap[b]? =some o:=fun b o hb=>by
  have e:b≠D:=fun e=>by rw[e,k3D]at hb;cases hb
  rw[k3a b e]at hb;rw[h4o b (fun e=>by rw[e,q6]at hb;cases hb)];exact hr.keep _ _ hb
 have hownD:∀b,own E0 (H kk) b->b≠D:=fun b hb e=>by have:=q12.off hb;rw[e,q8.1]at this;cases this
 have hKK3:K.le K3:=⟨fun b o hb=>by rw[k3a b (by have:=hKlt _ _ hb;omega)];exact q3 _ _ hb,q3.same.trans k3s.symm⟩
 have hext3:ExtOK β2 K3 (H kk) w4 E0:=q12.move (fun b hb=>by rw[k3a b (hownD b hb)];exact q12.off hb) (fun b hb=>h4o b (q13 b hb)) (fun i Y tr' hi=>(hbaseK (hne _) i Y tr' hi).trans hKK3) hkeep3 (by rw[h4s];exact Nat.le_refl _) h4m
 have hr3:RH β2 G2 K3 (H kk) w4:=by
  refine hr.changeX hext3 hkeep3 ⟨fun b o hb=> ?_,hr.gk.same.trans k3s.symm⟩ (fun i x k h1 h2 h3=> ?_) (by rw[k3s];exact hr.amb.mild h4m)
  ·have e:b≠D:=fun e=>by rw[e,g2D]at hb;cases hb
   rw[k3a b e];exact hr.gk _ _ hb
  ·have hs:=hr.sep i x k h1 h2 h3;have e:x.b≠D:=fun e=>by rw[e,q8.1]at hs;cases hs.1
   exact⟨by rw[k3a _ e];exact hs.1,h4o _ (q7 i x k h1 h2 h3),by rw[h4s];exact hs.2⟩
 have hr5:RH (β2++ [Hm.lie ⟨D,0,0⟩]) G2 K3 (H kk++ [.obj (.deferred (some []))]) w4:=by
  refine hr3.snoc hext3 k3D (Array.getElem?_eq_some_iff.1 hD4).1 (fun i y k h1 h2 h3 e=> ?_) hownD hD4 rfl;have hs:=hr.sep i y k h1 h2 h3;have e':y.b=D:=e;rw[e',q8.1]at hs;cases hs.1
 have hlb:β2.length=S.h.length:=by rw[hr.len,hlen]
 have post:Qw (bif go kk then .normal else jx) {a with defers:=[{target:=.collected D,args:= #[]}]++a.defers} w4:=by
  exact hQ β2 G2 K3 D w4 q1 hlb q2 hKK3 hr5
 rw[hpend]
 cases hgk:go kk with
 |true=>rw[hgk]at post;exact post
 |false=>
  rw[hgk]at post;simp only[cond_false]at post⊢;unfold exitCode at hj;split at hj
  ·cases hj;exact wpIn_ret post
  ·cases hj;exact wpIn_exit post
  ·cases hj
section
variable {P:Program} {ro:Env} {ops:Array Oper} {S:St} {Q:Exit->St->Prop}
theorem AOps.yieldL{i:Nat}{is:List Nat}{o:Oper}{fo:Operand}{args:Array Operand}{ts:Array TypeId}{q:Nat}{X:Ext}{tr us:List V}(hi:ops[i]? =some o)(hw:wantedV ops S o=some true)
  (ho:o.op=.call {callee:=.value fo,args:=args,argTypes:=ts}) (hf:S.eval fo=.yld q) (hq:S.h[q]? =some (.ext X tr)) (hul:us.length=args.size) (hus:∀j,j<us.length->Snap S.h ((args.toList.map S.eval).getD j .undef) (us.getD j .undef)) (hgo:X.go tr=true) (hpre:tr++ [.tuple us]<+:X.ys) (hY:YSpecL P X)
  (hone:((S.h.set q .gone).any isExt)=false) (hd:∀j,j∈S.d->∃x,S.h[j]? =some (.obj x))
  (rest:AOps P ro ops is (St.put {S with h:=S.h.set q (.ext X (tr++ [.tuple us]))} o.dst (.bool (X.go (tr++ [.tuple us])))) Q):AOps P ro ops (i::is) S Q:=fun β G K a w r=>by
 simp only[wpOpsIn,hi,wanted_ok r hw,if_true,Oper.wpIn];refine⟨fun _ _=>trivial,?_⟩;have hfv:=r.eval fo;rw[hf]at hfv;obtain⟨l,E,hl,hI,hbs,hE⟩:=r.h.ext q X tr hq
 have hfe:a.eval fo=.func (.yield l) #[] #[]:=by
  generalize a.eval fo=x at hfv
  cases hfv with
  |yld h=>rw[hl]at h;cases h;rfl
 let Kf:Kept:=⟨fun b=>match K b with
  |some o=>some o
  |none=>(open Classical in if∃(j:Nat) (x:Home) (k:Blk),S.h[j]? =some k/\k≠ .gone/\β[j]? =some (.lie x)/\x.b=b then w.heap[b]? else none),K.amb⟩
 have kf1:∀b o,Kf b=some o->w.heap[b]? =some o:=fun b o hb=>by
  simp only[Kf]at hb;split at hb
  ·rename_i o' hK;cases hb;exact r.h.keep _ _ hK
  ·split at hb
   ·exact hb
   ·cases hb
 have kf2:∀b,Kf b≠none->E b=none:=fun b hb=>by
  cases hEb:E b with
  |none=>rfl
  |some o'=>
   exfalso
   have hE':=hE b (by rw[hEb];simp);apply hb;simp only[Kf,hE'.1];rw[if_neg];rintro⟨j,x,k,q1,q2,q3,q4⟩
   exact hE'.2 j x k q1 q2 q3 q4
 have kfh:∀(j:Nat) (x:Home) (k:Blk),S.h[j]? =some k->k≠ .gone->β[j]? =some (.lie x)->Kf x.b=w.heap[x.b]? :=fun j x k q1 q2 q3=>by
  simp only[Kf,(r.h.sep j x k q1 q2 q3).1];rw[if_pos ⟨j,x,k,q1,q2,q3,rfl⟩]
 have hlen:us.length=(args.map a.eval).size:=by rw[hul];simp
 have hall:(allOf β G S.h w).le Kf:=by
  refine⟨fun b o hb=> ?_,r.h.gk.same⟩;change allF β G S.h w b=some o at hb
  unfold allF at hb;split at hb
  ·rename_i o' hG;cases hb;simp only[Kf,r.h.gk _ _ hG]
  ·split at hb
   ·rename_i hex;obtain⟨j,x,k,q1,q2,q3,rfl⟩:=hex;rw[kfh j x k q1 q2 q3];exact hb
   ·cases hb
 have hrel:∀j,j<us.length->Rel Kf [] (us.getD j .undef) ((args.map a.eval).getD j Go.undef):=fun j hj=>by
  have hj':j<args.size:=by rw[hlen]at hj;simpa using hj
  refine Rel.mono hall (snap_rel r.h (hus j hj) ?_) (Homes.le_refl _);simpa[gE,aG,hj']using r.eval args[j]
 obtain⟨fn,tmps,assign,body,hy1,hy2⟩:=hY l tr E w us (args.map a.eval) Kf hI hgo hpre ⟨fun b o hb=>by simp only[Kf,hbs b o hb],hbs.same⟩ kf1 r.h.amb kf2 hlen hrel
 have hsem:(o.semAt ro.ro a.eval).run P w=.ok (.round l fn tmps assign body) w:=by
  rw[Oper.semAt_eq _ _ _ (by rw[ho];simp)];simp only[execOp,ho,resolve,hfe,Deferred.ofValue,Sem.run_bind,Sem.run_pure,Result.andThen_ok,invoke];simpa using hy1
 rw[hsem];refine⟨fun h=>by simp[wide,Fence.wide]at h,?_⟩;have hy3:RoundIn (wide ro) (0-1) P l fn tmps assign body w _:=hy2;refine hy3.mono ?_;rintro e w' ⟨E',rfl,h1,h2,h3,h4⟩
 have hql:q<S.h.length:=(List.getElem?_eq_some_iff.1 hq).1
 have look:∀ {j:Nat} {k:Blk},(S.h.set q (.ext X (tr++ [.tuple us])))[j]? =some k->(j=q/\k=.ext X (tr++ [.tuple us]))\/(j≠q/\S.h[j]? =some k):=fun {j k} hj=>by
  by_cases e:j=q
  ·subst e;rw[List.getElem?_set_self hql]at hj;cases hj;exact .inl ⟨rfl,rfl⟩
  ·rw[sN (Ne.symm e)]at hj;exact .inr ⟨e,hj⟩
 have r1:RS β G K {S with h:=S.h.set q (.ext X (tr++ [.tuple us]))} a w':=by
  refine⟨⟨by simp[r.h.len],fun j k hj=> ?_,fun p s x y k k' hp hs gp gs bp bs e=> ?_,fun j x k hj hg hb=> ?_,fun b o hb=>h2 b o (by simp only[Kf,hb]),r.h.gk,h4,fun j Y tr' hj=> ?_⟩,r.size,r.tmp,r.marks,fun j hj=> ?_⟩
  ·rcases look hj with⟨rfl,rfl⟩|⟨hne,hj'⟩
   ·rw[hl];trivial
   ·by_cases hg:k=.gone
    ·subst hg;cases(β[j]?.getD .void)<;>trivial
    refine(r.h.blk j k hj').mono G.le_refl (Homes.le_refl _) fun y hy=> ?_
    have hby:β[j]? =some (.lie y):=by
     cases hb:β[j]? with
     |none=>simp[hb]at hy
     |some z=>simp[hb]at hy;rw[hy]
    have e1:=kfh j y k hj' hg hby;have hlt:=(r.h.sep j y k hj' hg hby).2;rw[h2 y.b w.heap[y.b] (by rw[e1];exact Array.getElem?_eq_getElem hlt),Array.getElem?_eq_getElem hlt]
  ·rcases look hp with⟨rfl,rfl⟩|⟨np,hp'⟩
   ·rw[hl]at bp;cases bp
   ·rcases look hs with⟨rfl,rfl⟩|⟨ns,hs'⟩
    ·rw[hl]at bs;cases bs
    ·exact r.h.inj p s x y k k' hp' hs' gp gs bp bs e
  ·rcases look hj with⟨rfl,rfl⟩|⟨hne,hj'⟩
   ·rw[hl]at hb;cases hb
   ·have:=r.h.sep j x k hj' hg hb;have e1:=kfh j x k hj' hg hb;rw[Array.getElem?_eq_getElem this.2]at e1;exact⟨this.1,(Array.getElem?_eq_some_iff.1 (h2 _ _ e1)).1⟩
  ·rcases look hj with⟨rfl,e⟩|⟨hne,hj'⟩
   ·cases e;refine⟨l,E',hl,h1,hbs,fun b hb=>⟨?_,fun s y k hs gs bs e=> ?_⟩⟩
    ·have:=h3 b hb;simp only[Kf]at this
     cases hK:K b with
     |none=>rfl
     |some o'=>rw[hK]at this;cases this
    ·rcases look hs with⟨rfl,rfl⟩|⟨ns,hs'⟩
     ·rw[hl]at bs;cases bs
     ·have e1:=kfh s y k hs' gs bs;have hlt:=(r.h.sep s y k hs' gs bs).2;rw[e]at e1 hlt;rw[h3 b hb,Array.getElem?_eq_getElem hlt]at e1;cases e1
   ·exfalso
    have hmem:(S.h.set q .gone)[j]? =some (.ext Y tr'):=by rw[sN (Ne.symm hne)];exact hj'
    have:=List.any_eq_false.1 hone _ (List.mem_of_getElem? hmem);simp[isExt]at this
  ·obtain⟨x,q1,q2,q3⟩:=r.mark j hj;have hne:q≠S.d.getD j 0:=by intro e;rw[<-e,hq]at q3;cases q3
   refine⟨x,q1,q2,?_⟩;show(S.h.set q _)[S.d.getD j 0]? =_;rw[sN hne];exact q3
 exact rest β G K _ w' (r1.put (.bool _) o.dst)
end
theorem HCalls.more{P:Program}{f:FuncId}{args:List V}{v:V}{h h':List Blk}(hc:HCalls P f args v h h')(hl:h'.length=h.length)(ha:underL h.length args=true)(hu:h.all (Blk.under h.length)=true)(hxa:extAs h h')(e:List Blk)(he:noExt e=true):HCalls P f args v (h++e) (h'++e):=
 ⟨hc.1,fun β G K w xs r hlen hr=>by
  have htk:(h++e).take h.length=h:=by simp
  have r1:RH (β.take h.length) G K h w:=by
   have:=r.take (n:=h.length) (by rw[htk];exact hu);rwa[htk]at this
  have hβ:β.length=h.length+e.length:=by rw[r.len,List.length_append]
  let EH:Nat->Prop:=fun b=>∃(i:Nat) (x:Home) (k:Blk),e[i]? =some k/\k≠ .gone/\β[h.length+i]? =some (.lie x)/\x.b=b
  have hget:∀ {i:Nat} {k:Blk},e[i]? =some k->(h++e)[h.length+i]? =some k:=fun {i k} hi=>by
   rw[List.getElem?_append_right (by omega),Nat.add_sub_cancel_left];exact hi
  have hEK:∀b,EH b->K b=none/\b<w.heap.size:=fun b ⟨i,x,k,h1,h2,h3,h4⟩=>by rw[<-h4];exact r.sep _ x k (hget h1) h2 h3
  obtain⟨K1,hK1⟩:∃K1:Kept,K1=⟨fun b=>open Classical in if EH b then w.heap[b]? else K b,K.amb⟩:=⟨_,rfl⟩
  have k1s:K1.amb=K.amb:=by rw[hK1]
  have k1y:∀b,EH b->K1 b=w.heap[b]? :=fun b hb=>by rw[hK1];simp only[if_pos hb]
  have k1n:∀b,¬EH b->K1 b=K b:=fun b hb=>by rw[hK1];simp only[if_neg hb]
  have hKK1:K.le K1:=⟨fun b o hb=>by rw[k1n b (fun q=>by rw[(hEK b q).1]at hb;cases hb)];exact hb,k1s.symm⟩
  have hkeep1:∀b o,K1 b=some o->w.heap[b]? =some o:=fun b o hb=>by
   by_cases q:EH b
   ·rw[k1y b q]at hb;exact hb
   ·rw[k1n b q]at hb;exact r.keep b o hb
  have hold:∀ {i:Nat} {k:Blk},h[i]? =some k->i<h.length/\(h++e)[i]? =some k:=fun {i k} hi=>by
   have:=(List.getElem?_eq_some_iff.1 hi).1;exact⟨this,by rw[aL this];exact hi⟩
  have hbt:∀ {i:Nat},i<h.length->(β.take h.length)[i]? =β[i]? :=fun hi=>List.getElem?_take_of_lt hi
  have hdis:∀(i:Nat) (x:Home) (k:Blk),h[i]? =some k->k≠ .gone->(β.take h.length)[i]? =some (.lie x)->¬EH x.b:=fun i x k hi hg hb ⟨j,y,k2,h1,h2,h3,h4⟩=>by
   obtain⟨q1,q2⟩:=hold hi;rw[hbt q1]at hb;have:=r.inj i (h.length+j) x y k k2 q2 (hget h1) hg h2 hb h3 h4.symm;omega
  obtain⟨E0,hE0⟩:=r1.extOK
  have hxe:∀(i:Nat) (X:Ext) (tr:List V),h[i]? =some (.ext X tr)->∃l E,(β.take h.length)[i]? =some (.ext l)/\X.I l tr E w/\X.base.le K1/\∀b,E b≠none->K1 b=none/\¬EH b/\∀(j:Nat) (x:Home) (k:Blk),h[j]? =some k->k≠ .gone->(β.take h.length)[j]? =some (.lie x)->x.b≠b:=fun i X tr hi=>by
   obtain⟨q1,q2⟩:=hold hi;obtain⟨l,E,p1,p2,p3,p4⟩:=r.ext i X tr q2;have hne:∀b,E b≠none->¬EH b:=fun b hb ⟨j,y,k2,h1,h2,h3,h4⟩=>(p4 b hb).2 (h.length+j) y k2 (hget h1) h2 h3 h4;refine⟨l,E,by rw[hbt q1];exact p1,p2,p3.trans hKK1,fun b hb=>⟨by rw[k1n b (hne b hb)];exact(p4 b hb).1,hne b hb,fun j x k hj hg hbj=> ?_⟩⟩;obtain⟨q3,q4⟩:=hold hj;rw[hbt q3]at hbj;exact(p4 b hb).2 j x k q4 hg hbj
  have r2:RH (β.take h.length) G K1 h w:=by
   refine⟨r1.len,r1.blk,r1.inj,fun i x k hi hg hb=>⟨by rw[k1n _ (hdis i x k hi hg hb)];exact(r1.sep i x k hi hg hb).1,(r1.sep i x k hi hg hb).2⟩,hkeep1,r1.gk.trans hKK1,by rw[k1s];exact r1.amb,fun i X tr hi=> ?_⟩;obtain⟨l,E,p1,p2,p3,p4⟩:=hxe i X tr hi;exact⟨l,E,p1,p2,p3,fun b hb=>⟨(p4 b hb).1,(p4 b hb).2.2⟩⟩
  refine(hc.2 (β.take h.length) G K1 w xs r2 hlen fun j hj=>(hr j hj).take (underL_getD ha j)).mono ?_;rintro e0 w' ⟨x,β',G',K',rfl,h1,h2,h3,h4,h5⟩
  have hβ':β'.length=h.length:=by rw[h4.len,hl]
  have hle:β.le (β'++β.drop h.length):=fun i z hv hz=>by
   rcases Nat.lt_or_ge i h.length with q|q
   ·rw[aL (by omega)];exact h1 i z hv (by rw[hbt q];exact hz)
   ·rw[List.getElem?_append_right (by omega),hβ',List.getElem?_drop,show h.length+(i-h.length)=i by omega];exact hz
  have hb2:∀i,(β'++β.drop h.length)[h.length+i]? =β[h.length+i]? :=fun i=>by
   rw[List.getElem?_append_right (by omega),hβ',List.getElem?_drop,Nat.add_sub_cancel_left]
  obtain⟨K2,hK2⟩:∃K2:Kept,K2=⟨fun b=>open Classical in if EH b then none else K' b,K'.amb⟩:=⟨_,rfl⟩
  have k2s:K2.amb=K'.amb:=by rw[hK2]
  have k2y:∀b,EH b->K2 b=none:=fun b hb=>by rw[hK2];simp only[if_pos hb]
  have k2n:∀b,¬EH b->K2 b=K' b:=fun b hb=>by rw[hK2];simp only[if_neg hb]
  have k2o:∀b o,K2 b=some o->K' b=some o:=fun b o hb=>by
   by_cases q:EH b
   ·rw[k2y b q]at hb;cases hb
   ·rw[k2n b q]at hb;exact hb
  have hKE:∀b,EH b->K' b=w.heap[b]?/\w'.heap[b]? =w.heap[b]? :=fun b hb=>by
   have e1:w.heap[b]? =some (w.heap[b]'(hEK b hb).2):=Array.getElem?_eq_getElem _;have e2:=h3 b _ (by rw[k1y b hb];exact e1);exact⟨e2.trans e1.symm,(h4.keep b _ e2).trans e1.symm⟩
  have hGE:∀b o,G' b=some o->¬EH b:=fun b o hb q=>by
   rcases h2.2 b o hb with z|z
   ·have:=r.gk b o z;rw[(hEK b q).1]at this;cases this
   ·rw[k1y b q,Array.getElem?_eq_getElem (hEK b q).2]at z;cases z
  have hG'K2:G'.le K2:=⟨fun b o hb=>by rw[k2n b (hGE b o hb)];exact h4.gk b o hb,h4.gk.same.trans k2s.symm⟩
  have hKK2:K.le K2:=⟨fun b o hb=>by rw[k2n b (fun q=>by rw[(hEK b q).1]at hb;cases hb)];exact h3 b o (hKK1 b o hb),k1s.symm.trans (h3.same.trans k2s.symm)⟩
  have hh':∀ {i:Nat} {k:Blk},(h'++e)[i]? =some k->(i<h.length/\h'[i]? =some k/\(β'++β.drop h.length)[i]? =β'[i]?)\/(∃j,i=h.length+j/\e[j]? =some k):=fun {i k} hi=>by
   rcases Nat.lt_or_ge i h.length with q|q
   ·rw[aL (by omega)]at hi;exact .inl ⟨q,hi,aL (by omega)⟩
   ·rw[List.getElem?_append_right (by omega),hl]at hi;exact .inr ⟨i-h.length,by omega,hi⟩
  have hsep':∀(i:Nat) (y:Home) (k:Blk),h'[i]? =some k->k≠ .gone->β'[i]? =some (.lie y)->¬EH y.b:=fun i y k hi hg hb q=>by
   have:=(h4.sep i y k hi hg hb).1;rw[(hKE _ q).1,Array.getElem?_eq_getElem (hEK _ q).2]at this;cases this
  refine⟨x,β'++β.drop h.length,G',K2,rfl,hle,⟨h2.1,fun b o hb=> ?_⟩,hKK2,⟨by simp[hβ',hl,hβ],fun i k hi=> ?_,fun i j y z k k2 hi hj g g2 hbi hbj he2=> ?_,fun i y k hi hg hb=> ?_,fun b o hb=>h4.keep b o (k2o b o hb),hG'K2,by rw[k2s];exact h4.amb,fun i X tr hi=> ?_⟩,h5.mono G'.le_refl (Homes.le_append _ _)⟩
  ·rcases h2.2 b o hb with z|z
   ·exact .inl z
   ·right
    by_cases q:EH b
    ·exact(hEK b q).1
    ·rw[k1n b q]at z;exact z
  ·by_cases hg:k=.gone
   ·subst hg;cases((β'++β.drop h.length)[i]?.getD .void)<;>trivial
   rcases hh' hi with⟨_,q2,q3⟩|⟨j,rfl,q2⟩
   ·rw[q3];exact(h4.blk i k q2).mono G'.le_refl (Homes.le_append _ _) fun _ _=>rfl
   ·rw[hb2];refine(r.blk _ k (hget q2)).mono h2.1 hle fun y hy=> ?_
    have hb:β[h.length+j]? =some (.lie y):=by
     cases hb:β[h.length+j]? with
     |none=>simp[hb]at hy
     |some z=>simp[hb]at hy;rw[hy]
    exact(hKE y.b ⟨j,y,k,q2,hg,hb,rfl⟩).2
  ·rcases hh' hi with⟨a1,a2,a3⟩|⟨p,rfl,a2⟩<;>rcases hh' hj with⟨c1,c2,c3⟩|⟨q,rfl,c2⟩
   ·rw[a3]at hbi;rw[c3]at hbj;exact h4.inj i j y z k k2 a2 c2 g g2 hbi hbj he2
   ·rw[a3]at hbi;rw[hb2]at hbj;exact absurd ⟨q,z,k2,c2,g2,hbj,he2.symm⟩ (hsep' i y k a2 g hbi)
   ·rw[c3]at hbj;rw[hb2]at hbi;exact absurd ⟨p,y,k,a2,g,hbi,he2⟩ (hsep' j z k2 c2 g2 hbj)
   ·rw[hb2]at hbi hbj;exact r.inj _ _ y z k k2 (hget a2) (hget c2) g g2 hbi hbj he2
  ·rcases hh' hi with⟨_,a2,a3⟩|⟨p,rfl,a2⟩
   ·rw[a3]at hb;exact⟨by rw[k2n _ (hsep' i y k a2 hg hb)];exact(h4.sep i y k a2 hg hb).1,(h4.sep i y k a2 hg hb).2⟩
   ·rw[hb2]at hb
    have hq:EH y.b:=⟨p,y,k,a2,hg,hb,rfl⟩
    refine⟨k2y _ hq,?_⟩;have:=(hKE _ hq).2;rw[Array.getElem?_eq_getElem (hEK _ hq).2]at this;exact(Array.getElem?_eq_some_iff.1 this).1
  ·rcases hh' hi with⟨_,a2,a3⟩|⟨p,rfl,a2⟩
   ·obtain⟨l,E,p1,p2,p3,p4⟩:=h4.ext i X tr a2
    have hne:∀b,E b≠none->¬EH b:=fun b hb q=>by
     have:=(p4 b hb).1;rw[(hKE _ q).1,Array.getElem?_eq_getElem (hEK _ q).2]at this;cases this
    have hbase:X.base.le K2:=by
     obtain⟨tr',ht⟩:=hxa i X tr a2;obtain⟨l2,E2,z1,z2,z3,z4⟩:=r.ext i X tr' (hold ht).2;exact z3.trans hKK2
    refine⟨l,E,by rw[a3];exact p1,p2,hbase,fun b hb=>⟨by rw[k2n b (hne b hb)];exact(p4 b hb).1,fun j y k hj hg hbj=> ?_⟩⟩;rcases hh' hj with⟨_,c2,c3⟩|⟨q,rfl,c2⟩
    ·rw[c3]at hbj;exact(p4 b hb).2 j y k c2 hg hbj
    ·rw[hb2]at hbj;exact fun e2=>hne b hb ⟨q,y,k,c2,hg,hbj,e2⟩
   ·exact absurd a2 (noExt_not he)⟩
theorem AWP.rangeFV{P:Program}{m:Nat}{S:St}{g:Operand}{ps:Array Tmp}{assign body:Code}{f:FuncId}{caps ys:List V}{go:Nat->Bool}{fs:List Bool}{T:List V}{H:Nat->List Blk}{jx:Exit}{jc:Code}{Q:Exit->St->Prop}
  (hd:S.d=[]) (hnS:noExt S.h=true) (hnv:∀i,fs.getD i false=true->S.h[i]? =some .void->False) (hTl:T.length=S.t.length) (hT:∀j,T.getD j .undef=S.t.getD j .undef\/Snap (stillB fs S.h) (S.t.getD j .undef) (T.getD j .undef)) (hg:St.eval ⟨T,H 0,[]⟩ g=.func (.func f) [] caps) (hcaps:underL 0 caps=true) (hcf:∀xs w,(callFunc f xs).run P w=.ok (.enter f xs) w)
  (hit:IterL P f caps ys) (hH0:H 0=otherB fs S.h) (hlen:∀k,(H k).length=S.h.length) (hne:∀k,noExt (H k)=true) (hgo:go 0=true) (hj:exitCode jx=some jc)
  (hround:∀(l:Nat) (k:Nat) (us:List V),ys[k]? =some (.tuple us)->go k=true->us.length=ps.size/\
   AWP P ⟨some l,S.h.length⟩ assign ⟨setPs ps.toList us T,H k,[]⟩ fun e S1=>e=.normal/\noExt S1.h=true/\
    AWP P ⟨some l,S.h.length⟩ body S1 fun e S2=>e=(bif go (k+1)then .normal else jx)/\S2.h=H (k+1))
  (hfree:∀(q i:Nat) (k:Blk),(H q)[i]? =some k->BlkFree k)
  (hQ:Q (bif go (stopK go 0 ys.length)then .normal else jx) {t:=S.t,h:=mergeB fs S.h (H (stopK go 0 ys.length))++ [.obj (.deferred (some []))],d:=[S.h.length]}):
  AWP P ⟨none,m⟩ (.rangeFunc g ps assign body) S Q:=fun β G K a w r=>by
 have hstill:∀ {i:Nat} {k:Blk},(stillB fs S.h)[i]? =some k->k≠ .gone->fs.getD i false=true/\S.h[i]? =some k:=fun {i k} hi hk=>by
  rw[stillB_get]at hi;split at hi
  ·rename_i hf;exact⟨hf,hi⟩
  ·cases hh:S.h[i]? with
   |none=>rw[hh]at hi;cases hi
   |some k'=>rw[hh]at hi;cases hi;exact absurd rfl hk
 have hother:∀ {i:Nat} {k:Blk},(otherB fs S.h)[i]? =some k->k≠ .gone->fs.getD i false=false/\S.h[i]? =some k:=fun {i k} hi hk=>by
  rw[otherB_get]at hi;split at hi
  ·cases hh:S.h[i]? with
   |none=>rw[hh]at hi;cases hi
   |some k'=>rw[hh]at hi;cases hi;exact absurd rfl hk
  ·rename_i hf;exact⟨by simpa using hf,hi⟩
 have rF:RH β G K (stillB fs S.h) w:=r.h.part hnS (stillB_length _ _) fun i k hi hk=>(hstill hi hk).2
 obtain⟨G1,hG1⟩:∃G1,allOf β G (stillB fs S.h) w=G1:=⟨_,rfl⟩
 have hGG:G.le G1:=by rw[<-hG1];exact allOf_le _ _ _ _
 have hGk:KeepsIn G1 w:=by rw[<-hG1];exact allOf_keeps rF
 have hGn:∀b o,G1 b=some o->G b=some o\/∃(i:Nat) (x:Home) (k:Blk),(stillB fs S.h)[i]? =some k/\k≠ .gone/\β[i]? =some (.lie x)/\x.b=b:=fun b o hb=>by
  rw[<-hG1]at hb;change allF β G (stillB fs S.h) w b=some o at hb
  unfold allF at hb;split at hb
  ·rename_i o' hG;exact .inl (hG.trans hb)
  ·split at hb
   ·rename_i hex;exact .inr hex
   ·cases hb
 have hGh:∀(i:Nat) (x:Home) (k:Blk),(stillB fs S.h)[i]? =some k->k≠ .gone->β[i]? =some (.lie x)->G1 x.b=w.heap[x.b]? :=fun i x k h1 h2 h3=>by
  have hlt:=(rF.sep i x k h1 h2 h3).2;rw[Array.getElem?_eq_getElem hlt,<-hG1];exact allOf_home rF h1 h2 h3 (Array.getElem?_eq_getElem hlt)
 obtain⟨K1,hK1⟩:∃K1:Kept,K1=⟨fun b=>match K b with|some o=>some o|none=>G1 b,K.amb⟩:=⟨_,rfl⟩
 have k1s:K1.amb=K.amb:=by rw[hK1]
 have hKK:K.le K1:=⟨fun b o hb=>by rw[hK1];simp[hb],k1s.symm⟩
 have hG1K1:G1.le K1:=by
  refine⟨fun b o hb=> ?_,hGG.same.symm.trans (r.h.gk.same.trans k1s.symm)⟩;rw[hK1]
  cases hKb:K b with
  |none=>simp[hKb,hb]
  |some o'=>
   have h1:=r.h.keep _ _ hKb;rw[hGk _ _ hb]at h1;simp[hKb,h1]
 have hK1n:∀b,K1 b=none->K b=none:=fun b hb=>by
  cases hKb:K b with
  |none=>rfl
  |some o=>rw[hKK _ _ hKb]at hb;cases hb
 have r1:RS β G1 K1 ⟨T,H 0,[]⟩ {a with defers:=[]} w:=by
  refine⟨?_,by rw[hTl];exact r.size,fun j=> ?_,rfl,fun j hj=>by simp at hj⟩
  ·rw[hH0];have r0:RH β G K (otherB fs S.h) w:=r.h.part hnS (otherB_length _ _) fun i k hi hk=>(hother hi hk).2;refine⟨r0.len,fun i k hk=> ?_,r0.inj,fun i x k hi hk hb=>⟨?_,(r0.sep i x k hi hk hb).2⟩,fun b o hb=> ?_,hG1K1,by rw[k1s];exact r.h.amb,fun i X tr hi=>absurd hi (noExt_not (by rw[<-hH0];exact hne 0))⟩
   ·by_cases hg:k=.gone
    ·subst hg;cases(β[i]?.getD .void)<;>trivial
    ·exact(r0.blk i k hk).mono hGG (Homes.le_refl _) fun _ _=>rfl
   ·cases h1:K1 x.b with
    |none=>rfl
    |some o=>
     exfalso
     have hs:=(r0.sep i x k hi hk hb).1;rw[hK1]at h1;simp only[hs]at h1;rcases hGn _ _ h1 with h2|⟨i2,x2,k2,p1,p2,p3,p4⟩
     ·have:=r.h.gk _ _ h2;rw[hs]at this;cases this
     ·obtain⟨f1,s1⟩:=hstill p1 p2;obtain⟨f2,s2⟩:=hother hi hk;have:=r.h.inj i i2 x x2 k k2 s2 s1 hk p2 hb p3 p4.symm;subst this;rw[f1]at f2;cases f2
   ·rw[hK1]at hb;simp only at hb;split at hb
    ·rename_i o' hKb;cases hb;exact r.h.keep _ _ hKb
    ·exact hGk _ _ hb
  ·rcases hT j with h|h
   ·show Rel G1 β (T.getD j .undef) _;rw[h];exact(r.tmp j).mono hGG (Homes.le_refl _)
   ·have:=snap_rel rF h (r.tmp j);rw[hG1]at this;exact this.up _
 have hl0:(H 0).length=S.h.length:=hlen 0;have hdef:a.defers=[]:=List.eq_nil_of_length_eq_zero (by rw[r.marks,hd];rfl);have ha:({a with defers:=[]}:Act)=a:=by cases a;simp at hdef;subst hdef;rfl
 rw[ha]at r1
 refine range_wpL (m:=m) r1 hg hcaps hcf hit rfl (fun k=>by rw[hlen k];exact hl0.symm) (fun k=>.of_no (hne k)) (fun k=>hfree (k+1)) hgo hj (fun l k us h1 h2=>by
  obtain⟨p1,p2⟩:=hround l k us h1 h2;refine⟨p1,?_⟩;simp only[hl0]
  exact p2.mono fun e S1 ⟨q1,q2,q3⟩=>⟨q1,.of_no q2,q3⟩) fun β2 G2 K3 D w4 q1 hlb q2 q3 hr5=> ?_
 rw[show(St.mk T (H 0) []).h.length=S.h.length from hl0]at hlb;generalize stopK go 0 ys.length=kk at hr5 hQ
 let FH:Nat->Prop:=fun b=>∃(i:Nat) (x:Home) (k:Blk),(stillB fs S.h)[i]? =some k/\k≠ .gone/\β[i]? =some (.lie x)/\x.b=b
 have hFK:∀b,FH b->K b=none:=fun b ⟨i,x,k,h1,h2,h3,h4⟩=>by rw[<-h4];exact(rF.sep i x k h1 h2 h3).1
 have hF4:∀b,FH b->w4.heap[b]? =w.heap[b]?/\K3 b≠none:=fun b ⟨i,x,k,h1,h2,h3,h4⟩=>by
  have h5:=hGh i x k h1 h2 h3;have hlt:=(rF.sep i x k h1 h2 h3).2;rw[Array.getElem?_eq_getElem hlt]at h5;have h6:=q3 _ _ (hG1K1 _ _ h5);rw[<-h4,hr5.keep _ _ h6,Array.getElem?_eq_getElem hlt];exact⟨rfl,by rw[h6];simp⟩
 obtain⟨G5,hG5⟩:∃G5:Kept,G5=⟨fun b=>open Classical in if FH b then none else G2 b,G2.amb⟩:=⟨_,rfl⟩
 obtain⟨K5,hK5⟩:∃K5:Kept,K5=⟨fun b=>open Classical in if FH b then none else K3 b,K3.amb⟩:=⟨_,rfl⟩
 have g5m:G5.amb=G2.amb:=by rw[hG5]
 have k5m:K5.amb=K3.amb:=by rw[hK5]
 have g5n:∀b,¬FH b->G5 b=G2 b:=fun b hb=>by rw[hG5];simp only[if_neg hb]
 have k5n:∀b,¬FH b->K5 b=K3 b:=fun b hb=>by rw[hK5];simp only[if_neg hb]
 have g5s:∀b o,G5 b=some o->¬FH b/\G2 b=some o:=fun b o hb=>by
  rw[hG5]at hb;simp only at hb;split at hb
  ·cases hb
  ·rename_i hf;exact⟨hf,hb⟩
 have k5s:∀b o,K5 b=some o->¬FH b/\K3 b=some o:=fun b o hb=>by
  rw[hK5]at hb;simp only at hb;split at hb
  ·cases hb
  ·rename_i hf;exact⟨hf,hb⟩
 have hGG5:G.le G5:=by
  refine⟨fun b o hb=> ?_,hGG.same.trans (q2.1.same.trans g5m.symm)⟩;have hKb:=r.h.gk _ _ hb;rw[g5n b (fun hf=>by rw[hFK b hf]at hKb;cases hKb)];exact q2.1 _ _ (hGG _ _ hb)
 have hKK5:K.le K5:=by
  refine⟨fun b o hb=> ?_,hKK.same.trans (q3.same.trans k5m.symm)⟩;rw[k5n b (fun hf=>by rw[hFK b hf]at hb;cases hb)];exact q3 _ _ (hKK _ _ hb)
 have hext5:G.ext K G5:=⟨hGG5,fun b o hb=>by
  obtain⟨hf,h2⟩:=g5s b o hb;rcases q2.2 _ _ h2 with h3|h3
  ·rcases hGn _ _ h3 with h4|h4
   ·exact .inl h4
   ·exact absurd h4 hf
  ·exact .inr (hK1n _ h3)⟩
 have hβ:β.le (β2++ [Hm.lie ⟨D,0,0⟩]):=q1.trans (Homes.le_append _ _);have hml:=mergeB_length fs S.h (H kk) (hlen kk)
 have look:∀ {i:Nat} {k:Blk},(mergeB fs S.h (H kk)++ [Blk.obj (.deferred (some []))])[i]? =some k->(fs.getD i false=true/\i<S.h.length/\S.h[i]? =some k)\/((H kk++ [Blk.obj (.deferred (some []))])[i]? =some k/\(fs.getD i false=false\/S.h.length<=i)):=fun {i k} hi=>by
  rcases Nat.lt_or_ge i S.h.length with h1|h1
  ·rw[aL (by omega),mergeB_get fs S.h (H kk) i (hlen kk)]at hi;split at hi
   ·rename_i hf;exact .inl ⟨hf,h1,hi⟩
   ·rename_i hf;right
    rw[aL (by rw[hlen kk];exact h1)];exact⟨hi,.inl (by simpa using hf)⟩
  ·rw[List.getElem?_append_right (by omega)]at hi;right
   rw[List.getElem?_append_right (by rw[hlen kk];exact h1),hlen kk,<-hml];exact⟨hi,.inr (by omega)⟩
 have fhome:∀ {i:Nat} {k:Blk} {x:Home},fs.getD i false=true->S.h[i]? =some k->k≠ .gone->(β2++ [Hm.lie ⟨D,0,0⟩])[i]? =some (.lie x)->i<S.h.length->k≠ .void->β[i]? =some (.lie x)/\FH x.b:=fun {i k x} hf hi hk hb hil hkv=>by
  have hil':i<β.length:=by rw[r.h.len];exact hil
  have hne0:β[i]?≠some .void:=fun e=>by
   have:=r.h.blk i k hi;rw[e]at this;cases k<;>first|exact absurd rfl hk|exact absurd rfl hkv|exact this.elim
  have h1:β[i]? =some β[i]:=List.getElem?_eq_getElem hil';have h2:=hβ i _ (fun e=>hne0 (by rw[h1,e])) h1;rw[hb]at h2;have h3:β[i]? =some (.lie x):=by rw[h1];exact h2.symm
  exact⟨h3,i,x,k,by rw[stillB_get,if_pos hf];exact hi,hk,h3,rfl⟩
 have hrh:RH (β2++ [Hm.lie ⟨D,0,0⟩]) G5 K5 (mergeB fs S.h (H kk)++ [.obj (.deferred (some []))]) w4:=by
  refine⟨by simp[hlb,hml],fun i k hk=> ?_,fun i j x y k k' hi hj g g' hbi hbj e=> ?_,fun i x k hi g hb=> ?_,fun b o hb=>hr5.keep _ _ (k5s b o hb).2,⟨fun b o hb=> ?_,g5m.trans (hr5.gk.same.trans k5m.symm)⟩,by rw[k5m];exact hr5.amb,fun i X tr hi=> ?_⟩
  ·by_cases hg:k=.gone
   ·subst hg;cases((β2++ [Hm.lie ⟨D,0,0⟩])[i]?.getD .void)<;>trivial
   rcases look hk with⟨hf,hil,hi⟩|⟨hi,_⟩
   ·have hB:=r.h.blk i k hi;have hil':i<β.length:=by rw[r.h.len];exact hil
    have h1:β[i]? =some β[i]:=List.getElem?_eq_getElem hil';rw[h1]at hB;by_cases hv:β[i]=.void
    ·exfalso
     have hB':BlkOK G β w k .void:=by have:(some β[i]).getD .void=.void:=hv;rw[this]at hB;exact hB
     cases k<;>first|exact absurd rfl hg|exact hB'.elim|skip
     exact hnv i hf hi
    ·have h2:=hβ i _ hv h1;rw[h2];refine BlkOK.mono hB hGG5 hβ fun y hy=> ?_;have h3:β[i]? =some (.lie y):=by rw[h1];exact congrArg some hy
     exact(hF4 y.b ⟨i,y,k,by rw[stillB_get,if_pos hf];exact hi,hg,h3,rfl⟩).1
   ·refine(hr5.blk i k hi).free ?_;rcases Nat.lt_or_ge i (H kk).length with h1|h1
    ·rw[aL h1]at hi;exact hfree _ i k hi
    ·rw[List.getElem?_append_right h1]at hi
     have:k=.obj (.deferred (some [])):=by
      rcases Nat.lt_or_ge (i-(H kk).length) 1 with h2|h2
      ·have:i-(H kk).length=0:=by omega
       rw[this]at hi;simpa using hi.symm
      ·rw[List.getElem?_eq_none (by simpa using h2)]at hi;cases hi
     subst this;trivial
  ·have kv:∀ {i:Nat} {x:Home} {k:Blk},fs.getD i false=true->S.h[i]? =some k->(β2++ [Hm.lie ⟨D,0,0⟩])[i]? =some (.lie x)->k≠ .void:=fun hf hi _ e=>hnv _ hf (by rw[hi,e]);rcases look hi with⟨hf,hil,h1⟩|⟨h1,_⟩<;>rcases look hj with⟨hf2,hjl,h2⟩|⟨h2,_⟩
   ·exact r.h.inj i j x y k k' h1 h2 g g' (fhome hf h1 g hbi hil (kv hf h1 hbi)).1 (fhome hf2 h2 g' hbj hjl (kv hf2 h2 hbj)).1 e
   ·exfalso
    have h3:=(hF4 _ (fhome hf h1 g hbi hil (kv hf h1 hbi)).2).2;have h4:=(hr5.sep j y k' h2 g' hbj).1;rw[e]at h3;exact h3 h4
   ·exfalso
    have h3:=(hF4 _ (fhome hf2 h2 g' hbj hjl (kv hf2 h2 hbj)).2).2;have h4:=(hr5.sep i x k h1 g hbi).1;rw[<-e]at h3;exact h3 h4
   ·exact hr5.inj i j x y k k' h1 h2 g g' hbi hbj e
  ·rcases look hi with⟨hf,hil,h1⟩|⟨h1,_⟩
   ·have kv:k≠ .void:=fun e=>hnv _ hf (by rw[h1,e]);obtain⟨h2,h3⟩:=fhome hf h1 g hb hil kv;refine⟨by rw[hK5];simp only[if_pos h3],?_⟩;have h4:=(hF4 _ h3).1;have h5:=(r.h.sep i x k h1 g h2).2;rw[Array.getElem?_eq_getElem h5]at h4;exact(Array.getElem?_eq_some_iff.1 h4).1
   ·have h2:=hr5.sep i x k h1 g hb;refine⟨?_,h2.2⟩
    cases h3:K5 x.b with
    |none=>rfl
    |some o=>have:=(k5s _ _ h3).2;rw[h2.1]at this;cases this
  ·obtain⟨h1,h2⟩:=g5s b o hb;rw[k5n b h1];exact hr5.gk _ _ h2
  ·rcases look hi with⟨_,_,h1⟩|⟨h1,_⟩
   ·exact absurd h1 (noExt_not hnS)
   ·exfalso
    rcases Nat.lt_or_ge i (H kk).length with h2|h2
    ·rw[aL h2]at h1;exact absurd h1 (noExt_not (hne kk))
    ·rw[List.getElem?_append_right h2]at h1;rcases Nat.lt_or_ge (i-(H kk).length) 1 with h3|h3
     ·have:i-(H kk).length=0:=by omega
      rw[this]at h1;simp at h1
     ·rw[List.getElem?_eq_none (by simpa using h3)]at h1;cases h1
 refine⟨{t:=S.t,h:=mergeB fs S.h (H kk)++ [.obj (.deferred (some []))],d:=[S.h.length]},_,G5,K5,hβ.low _,hext5,hKK5,⟨hrh,r.size,fun j=>(r.tmp j).mono hGG5 hβ,by simp[hdef],fun j hj=> ?_⟩,hQ⟩;have:j=0:=by simp at hj;omega
 subst this;exact⟨⟨D,0,0⟩,by simp[<-hlb],rfl,by simp[<-hml]⟩
theorem stopK_all:∀n k,stopK (fun _=>true) k n=k+n
 |0,k=>rfl
 |n+1,k=>by
  show(bif true then stopK (fun _=>true) (k+1) n else k)=_;rw[cond_true,stopK_all n (k+1)];omega
theorem AWP.rangeVT{P:Program}{m:Nat}{S:St}{g:Operand}{ps:Array Tmp}{assign body:Code}{f:FuncId}{caps ys:List V}{fs:List Bool}{T:List V}{H:Nat->List Blk}
  (hd:S.d=[]) (hnS:noExt S.h=true) (hnv:∀i,fs.getD i false=true->S.h[i]? =some .void->False) (hTl:T.length=S.t.length) (hT:∀j,T.getD j .undef=S.t.getD j .undef\/Snap (stillB fs S.h) (S.t.getD j .undef) (T.getD j .undef)) (hg:St.eval ⟨T,H 0,[]⟩ g=.func (.func f) [] caps) (hcaps:underL 0 caps=true) (hcf:∀xs w,(callFunc f xs).run P w=.ok (.enter f xs) w)
  (hit:IterL P f caps ys) (hH0:H 0=otherB fs S.h) (hlen:∀k,(H k).length=S.h.length) (hne:∀k,noExt (H k)=true)
  (hround:∀(l:Nat) (k:Nat) (us:List V),ys[k]? =some (.tuple us)->us.length=ps.size/\
   AWP P ⟨some l,S.h.length⟩ assign ⟨setPs ps.toList us T,H k,[]⟩ fun e S1=>e=.normal/\noExt S1.h=true/\
    AWP P ⟨some l,S.h.length⟩ body S1 fun e S2=>e=.normal/\S2.h=H (k+1))
  (hfree:∀(q i:Nat) (k:Blk),(H q)[i]? =some k->BlkFree k):
  AWP P ⟨none,m⟩ (.rangeFunc g ps assign body) S fun e T=>e=.normal/\T={t:=S.t,h:=mergeB fs S.h (H ys.length)++ [.obj (.deferred (some []))],d:=[S.h.length]}:=by
 refine AWP.rangeFV (go:=fun _=>true) (jx:=.ret) (jc:=.ret) hd hnS hnv hTl hT hg hcaps hcf hit hH0 hlen hne rfl rfl (fun l k us h1 _=>hround l k us h1) hfree ?_;refine⟨by cases stopK (fun _=>true) 0 ys.length<;>rfl,?_⟩;rw[stopK_all,Nat.zero_add]
theorem AWP.rangeV1{P:Program}{m:Nat}{S:St}{g:Operand}{ps:Array Tmp}{assign body:Code}{f:FuncId}{caps ys:List V}{fs:List Bool}{T:List V}{H1:List Blk}{jx:Exit}{jc:Code}
  (hd:S.d=[]) (hnS:noExt S.h=true) (hnv:∀i,fs.getD i false=true->S.h[i]? =some .void->False) (hTl:T.length=S.t.length) (hT:∀j,T.getD j .undef=S.t.getD j .undef\/Snap (stillB fs S.h) (S.t.getD j .undef) (T.getD j .undef)) (hg:St.eval ⟨T,otherB fs S.h,[]⟩ g=.func (.func f) [] caps) (hcaps:underL 0 caps=true) (hcf:∀xs w,(callFunc f xs).run P w=.ok (.enter f xs) w)
  (hit:IterL P f caps ys) (hl1:H1.length=S.h.length) (hn0:noExt (otherB fs S.h)=true) (hn1:noExt H1=true) (hj:exitCode jx=some jc)
  (hround:∀(l:Nat) (us:List V),ys[0]? =some (.tuple us)->us.length=ps.size/\
   AWP P ⟨some l,S.h.length⟩ assign ⟨setPs ps.toList us T,otherB fs S.h,[]⟩ fun e S1=>e=.normal/\noExt S1.h=true/\
    AWP P ⟨some l,S.h.length⟩ body S1 fun e S2=>e=jx/\S2.h=H1)
  (hf0:∀(i:Nat) (k:Blk),(otherB fs S.h)[i]? =some k->BlkFree k) (hf1:∀(i:Nat) (k:Blk),H1[i]? =some k->BlkFree k):
  AWP P ⟨none,m⟩ (.rangeFunc g ps assign body) S fun e T=>(ys=[]->e=.normal/\T={t:=S.t,h:=mergeB fs S.h (otherB fs S.h)++ [.obj (.deferred (some []))],d:=[S.h.length]})/\
   (ys≠ []->e=jx/\T={t:=S.t,h:=mergeB fs S.h H1++ [.obj (.deferred (some []))],d:=[S.h.length]}):=by
 refine AWP.rangeFV (go:=fun k=>k==0) (H:=fun k=>match k with|0=>otherB fs S.h|_+1=>H1) (jx:=jx) (jc:=jc) hd hnS hnv hTl hT hg hcaps hcf hit rfl (fun k=> ?_) (fun k=> ?_) rfl hj (fun l k us h1 h2=> ?_) (fun q i k h=> ?_) ?_
 ·cases k with
  |zero=>exact otherB_length _ _
  |succ k=>exact hl1
 ·cases k with
  |zero=>exact hn0
  |succ k=>exact hn1
 ·have:k=0:=by simpa using h2
  subst this;exact hround l us h1
 ·cases q with
  |zero=>exact hf0 i k h
  |succ q=>exact hf1 i k h
 ·match ys with
  |[]=>exact⟨fun _=>⟨rfl,rfl⟩,fun h=>absurd rfl h⟩
  |y::ys=>
   have e:stopK (fun k=>k==0) 0 (y::ys).length=1:=by
    show(bif (0:Nat)==0 then stopK (fun k=>k==0) 1 ys.length else 0)=1;rw[show((0:Nat)==0)=true from rfl,cond_true];cases ys<;>rfl
   rw[e];exact⟨fun h=>absurd h (List.cons_ne_nil _ _),fun _=>⟨rfl,rfl⟩⟩
section
variable {P:Program} {h:List Blk}
theorem run_copy_rowW(w:World)(dT sT ty elem:TypeId)(g o dLen dCap:Nat)(a:Addr)(sLen sCap:Nat)(cur:Array Value)(t:TypeId)(cs:List Value){sz:Nat}
  (hu:P.underlying dT=some (.slice elem)) (hs:(P.info? elem).map (·.size)=some sz)
  (hg:w.heap[g]? =some (.cells cur t (0,0))) (hn:cs.length=Nat.min sLen dLen*sz)
  (hsrc:∀j v,cs[j]? =some v->w.cell? (a.add j)=some v) (hfit:o+cs.length<=cur.size) (h1:∀v∈cs,v.oneCell'=true):
  (Builtin.copy_ #[dT,sT] ty #[.slice (some ⟨g,o,none⟩) dLen dCap,.slice (some a) sLen sCap]).run P w=
   .ok (goInt (Nat.min sLen dLen)) (w.setRow g (cur.toList.take o++cs++cur.toList.drop (o+cs.length)).toArray):=by
 have hl:=run_loadCells_list (P:=P) w a cs hsrc;have hst:=run_storeCells_at P g o t cs 0 cur w hg (by simpa using hfit) h1
 cases hq:P.info? elem with
 |none=>simp[hq]at hs
 |some i=>
  have hi:i.size=sz:=by simpa[hq]using hs
  simp[Builtin.copy_,run_underlying hu,Builtin.lenOf,Builtin.firstCells,Go.sizeOf,typeInfo,hq,hi,<-hn,hl,hst]
theorem run_copy_noneW(w:World)(dT sT ty elem:TypeId)(d a:Option Addr)(dLen dCap sLen sCap:Nat){sz:Nat}(hu:P.underlying dT=some (.slice elem))(hs:(P.info? elem).map (·.size)=some sz)(hn:Nat.min sLen dLen=0):
  (Builtin.copy_ #[dT,sT] ty #[.slice d dLen dCap,.slice a sLen sCap]).run P w=.ok (goInt 0) w:=by
 cases hq:P.info? elem with
 |none=>simp[hq]at hs
 |some i=>
  have hl:∀(x:Addr),(loadCells x 0).run P w=.ok #[] w:=fun x=>by simpa using run_loadCells_list (P:=P) w x [] (by simp)
  cases d<;>cases a<;>simp[Builtin.copy_,run_underlying hu,Builtin.lenOf,Builtin.firstCells,Go.sizeOf,typeInfo,hq,hn,storeCells,hl]
theorem sem_copyW{x y:Operand}{dT sT e:TypeId}{i n wd:Nat}{et:TypeId}{c c0:Nat->Nat->V}(hu:P.underlying dT=some (.slice e))(hs:(P.info? e).map (·.size)=some wd)(hi:h[i]? =some (.rows et wd n c0))(hc1:∀r,r<n->∀j,j<wd->(c r j).scalar=true):
  SemOK P (.call {callee:=.builtin .copy,args:= #[x,y],argTypes:= #[dT,sT]}) [(x,.row i n),(y,.list wd n c)] h (.int .i64 n) (h.set i (.rows et wd n c)):=fun β G K w ρ' oper ho _ r hr=>by
 have hx:=hr (x,.row i n) (by simp);have hy:=hr (y,.list wd n c) (by simp);simp only at hx hy;have hB:=r.blk i _ hi
 have fin:∀w',(Builtin.copy_ #[dT,sT] oper.type #[ρ' x,ρ' y]).run P w=.ok (.int .i64 n) w'->RH β G K (h.set i (.rows et wd n c)) w'->OpOK P β G K w ρ' oper (.int .i64 n) (h.set i (.rows et wd n c)):=fun w' hrun hrh=>
  ⟨.value (.int .i64 n),w',β,by
   simp only[execOp,ho,resolve,Sem.run_bind,Sem.run_pure,Result.andThen_ok,invoke,builtin,List.map_toArray,List.map_cons,List.map_nil,hrun],Homes.le_refl _,hrh,.int _ _⟩
 rcases Nat.eq_zero_or_pos n with h0|h0
 ·subst h0;refine fin w ?_ (r.swap hi (by simp) rfl ?_)
  ·have:∃a cp,ρ' x=.slice a 0 cp:=by generalize ρ' x=xv at hx;cases hx<;>exact⟨_,_,rfl⟩
   obtain⟨a1,c1,e1⟩:=this;have:∃a cp,ρ' y=.slice a 0 cp:=by generalize ρ' y=yv at hy;cases hy<;>exact⟨_,_,rfl⟩
   obtain⟨a2,c2,e2⟩:=this;rw[e1,e2];exact run_copy_noneW w dT sT oper.type e a1 a2 0 c1 0 c2 hu hs rfl
  ·revert hB
   cases β[i]?.getD .void with
   |void=>exact id
   |nil=>exact id
   |ext l=>exact id
   |lie z=>
    rintro⟨h0,hn,hcm,ca,h1,h2,h3,h4,h5⟩
    exact⟨h0,hn,hcm,ca,h1,h2,h3,h4,fun r j hr=>by omega⟩
 ·generalize hxv:ρ' x=xv at hx
  generalize hyv:ρ' y=yv at hy
  cases hx with
  |row0 _=>omega
  |row hb hcp hcc hm=>
   rename_i cap z
   cases hy with
   |list0=>omega
   |list hG hsz hcap hn hc=>
    rename_i b2 off cap2 cs ct fz;rw[hb]at hB;obtain⟨hw1,hw0,hcm,cur,hh,hs2,hmc,hmx,hrr⟩:=hB;have hsrc0:=r.keep _ _ (r.gk _ _ hG);have hcsz:off+n*wd<=cs.size:=hsz
    have hmul:∀q,q<n*wd->q/wd<n/\q%wd<wd/\(q/wd)*wd+q%wd=q:=fun q hq=>⟨Nat.div_lt_of_lt_mul (by rwa[Nat.mul_comm]),Nat.mod_lt _ hw0,by rw[Nat.mul_comm];exact Nat.div_add_mod q wd⟩
    have hcap':n*wd<=cur.size:=by rw[hs2];exact Nat.mul_le_mul_right _ (by omega)
    have hrow:=run_copy_rowW (P:=P) w dT sT oper.type e z.b 0 n cap ⟨b2,off,none⟩ n cap2 cur et ((List.range (n*wd)).map fun j=>cs.getD (off+j) Go.undef) hu hs hh (by simp) (fun j v hv=>by
     simp only[List.getElem?_map]at hv;rcases Nat.lt_or_ge j (n*wd)with q|q
     ·rw[List.getElem?_range q]at hv;simp only[Option.map_some,sJ]at hv;subst hv;rw[addr_add];simp only[World.cell?,hsrc0];rw[Array.getElem?_eq_getElem (by omega)];simp[aG,Array.getElem?_eq_getElem (show off+j<cs.size by omega)]
     ·rw[List.getElem?_eq_none (by simpa using q)]at hv;cases hv) (by simp;omega) (fun v hv=>by
     simp only[List.mem_map,List.mem_range]at hv;obtain⟨j,hj,rfl⟩:=hv;obtain⟨m1,m2,m3⟩:=hmul j hj;have:=hc (j/wd) (j%wd) m1 m2;rw[m3]at this
     exact(this.scalar (hc1 _ m1 _ m2)).2)
    refine fin _ (by rw[hxv,hyv];simpa[goInt]using hrow) (r.write hi (by simp) hb (fun b hb'=>setRow_other w _ _ _ hb') (by simp) ⟨hw1,by omega,hcm,_,setRow_heap w _ cur _ et _ hh,?_,hmc,hmx,fun q j hq hj=> ?_⟩)
    ·simp only[List.take_zero,List.nil_append,List.size_toArray,List.length_append,List.length_map,List.length_range,List.length_drop,Array.length_toList];rw[hs2]at*;omega
    ·have hlt:q*wd+j<n*wd:=by
      have:(q+1)*wd<=n*wd:=Nat.mul_le_mul_right _ hq;rw[Nat.succ_mul]at this;omega
     have:=hc q j hq hj;simpa[aG,aL,hlt]using this
theorem sem_makeAt{t e:TypeId}{l c:Operand}{k k':IntKind}{n:Int}{q wd:Nat}{zs:List V}(hu:P.underlying t=some (.slice e))(hz:zeroCs P e=some zs)(hd:decide (hasT P e=true/\szOf P e=wd/\0<wd/\zs.length=wd/\P.bytesOf e<=65536)=true)(hvd:h[q]? =some .void)(h1:0<=n)(h3:n<=4294967296):
  SemOK P (.makeSlice t l c) [(l,.int k n),(c,.int k' n)] h (.row q n.toNat) (h.set q (.rows e wd n.toNat fun _ j=>zs.getD j .undef)):=fun β G K w ρ' o hop _ r hr=>by
 obtain⟨he,hsz0,h0,hzl,hby⟩:=of_decide_eq_true hd;subst hsz0;have hl':=hr (l,.int k n) (by simp);have hc':=hr (c,.int k' n) (by simp);simp only at hl' hc';generalize hx:ρ' l=lx at hl'
 generalize hy:ρ' c=cx at hc'
 cases hl';cases hc';obtain⟨z,z1,z2,z3⟩:=zeroCs_ok hz w
 have hinfo:∃i,P.info? e=some i:=by
  unfold hasT at he
  cases hi:P.info? e with
  |none=>simp[hi]at he
  |some i=>exact⟨i,rfl⟩
 obtain⟨i,hi⟩:=hinfo
 have hiz:i.zero=some z:=by
  cases hiz:i.zero with
  |none=>simp[zeroCs,hi,hiz]at hz
  |some z'=>
   have:(zeroValue e).run P w=.ok z' w:=by simp only[zeroValue,Sem.run_bind,run_typeInfo' hi,Result.andThen_ok,hiz,Sem.run_pure]
   rw[this]at z1;cases z1;rfl
 have hsz:i.size=szOf P e:=by simp[szOf,Program.cellsOf,hi]
 have hb':i.bytes<=65536:=by simpa[Program.bytesOf,hi]using hby
 have hbytes:(i.bytes:Int)*n<=281474976710656:=by
  obtain⟨n,rfl⟩:=Int.eq_ofNat_of_zero_le h1;have:i.bytes*n<=65536*4294967296:=Nat.mul_le_mul hb' (by omega);have:((i.bytes*n:Nat):Int)<=281474976710656:=by omega
  rwa[Int.natCast_mul]at this
 have hr:=run_make (P:=P) w t e i z hu hi hiz k k' n n h1 (Int.le_refl _) hbytes (by omega);have hzs:z.cells.size=szOf P e:=by rw[z2,hzl]
 have hlt:q<β.length:=by rw[r.len];exact(List.getElem?_eq_some_iff.1 hvd).1
 have hle:=le_set_void (x:=.lie ⟨w.heap.size,szOf P e,n.toNat⟩) (r.void_home hvd)
 have hrun:(execOp ρ' o).run P w=.ok (.value (.slice (some ⟨w.heap.size,0,none⟩) n.toNat n.toNat)) (w.alloc (.cells (madeCells z.cells (n.toNat*i.size)) e)):=by
  simp only[execOp,hop,hx,hy,Sem.run_bind,hr,Result.andThen_ok,Sem.run_pure]
 refine⟨_,_,β.set q (.lie ⟨w.heap.size,szOf P e,n.toNat⟩),hrun,hle,r.fillG (fun b hb=>heap_alloc_lt w _ hb) (by simp) hvd (x:=⟨w.heap.size,szOf P e,n.toNat⟩) (Nat.le_refl _) (by simp) ?_ (Mild.alloc w _),?_⟩
 ·refine⟨rfl,h0,by unfold maxLen;show n.toNat<=_;omega,_,heap_alloc_new w _,by rw[size_madeCells,hsz],Nat.le_refl _,by unfold maxn;omega,fun q j hq hj=> ?_⟩
  have hlt:q*szOf P e+j<n.toNat*szOf P e:=by
   have:(q+1)*szOf P e<=n.toNat*szOf P e:=Nat.mul_le_mul_right _ hq;rw[Nat.succ_mul]at this;omega
  have hmod:(q*szOf P e+j)%szOf P e=j:=by rw[Nat.mul_comm,Nat.mul_add_mod,Nat.mod_eq_of_lt hj]
  have:=z3 G [] j;have hj':j<z.cells.size:=by rw[hzs];exact hj
  simp only[madeCells,aG,Array.getElem?_map,Array.getElem?_range,hsz,hlt,if_true,Option.map_some,Option.getD_some,hzs,hmod];rw[getElem!_pos z.cells j hj'];simpa[aG,hj']using this
 ·exact .row (List.getElem?_set_self hlt) (Nat.le_refl _) (Nat.le_refl _) (by unfold maxn;omega)
end
section
variable {P:Program} {h:List Blk}
theorem home_maps{β:Homes}{G K:Kept}{w:World}(r:RH β G K h w){q:Nat}{ks:List Value}{vs:List V}{b:Nat}(hq:h[q]? =some (.maps ks vs))(hm:Rel G β (.map q) (.map (some b))):
  ∃(x:Home) (es:Array MapEntry),β[q]? =some (.lie x)/\x.b=b/\w.heap[b]? =some (.map es ks.length)/\es.size=ks.length/\∀j k,ks[j]? =some k->∃e,es[j]? =some e/\e.key=k/\e.born=j/\Rel G β (vs.getD j .undef) e.val:=by
 cases hm with
 |map hi=>
  rename_i x;have:=r.blk q _ hq;rw[hi]at this;obtain⟨es,h1,h2,h3⟩:=this;exact⟨x,es,hi,rfl,h1,h2,h3⟩
theorem sem_makeMapV(t:TypeId):SemOK P (.makeMap t none) [] h (.map h.length) (h++ [.maps [] []]):=fun β G K w ρ' oper ho _ r _=>by
 refine⟨.value (.map (some w.heap.size)),w.alloc (.map #[] 0),β++ [Hm.lie ⟨w.heap.size,0,0⟩],?_,Homes.le_append _ _,r.push rfl ⟨#[],heap_alloc_new w _,rfl,fun j k hj=>by simp at hj⟩,.map (ref_new r _ _ _)⟩;simp only[execOp,ho,Sem.run_bind];simp only[Instr.makeMap,newObj];rfl
end
theorem AWP.reserve{P:Program}{ro:Env}{c:Code}{S:St}{Q:Exit->St->Prop}(n:Nat)(h:AWP P ro c ⟨S.t,S.h++List.replicate n .void,S.d⟩ Q):AWP P ro c S Q:=by
 intro β G K a w r
 have r1:RS (β++List.replicate n Hm.void) G K ⟨S.t,S.h++List.replicate n .void,S.d⟩ a w:=⟨r.h.reserve n,r.size,fun j=>(r.tmp j).mono G.le_refl (Homes.le_append _ _),r.marks,fun j hj=>by
  obtain⟨x,h1,h2,h3⟩:=r.mark j hj
  exact⟨x,Homes.le_append _ _ _ _ (by simp) h1,h2,by
   show(S.h++List.replicate n Blk.void)[S.d.getD j 0]? =_
   rw[aL (List.getElem?_eq_some_iff.1 h3).1];exact h3⟩⟩
 exact wpIn_mono (h _ G K a w r1) fun e a' w' hp=>hp.up ((Homes.le_append _ _).low _) (G.ext_refl K) K.le_refl
def aC(F:Nat->Int):Array Value:= #[.int .i64 (F 0),.int .i64 (F 1),.int .i64 (F 2),.int .i64 (F 3),.int .i64 (F 4)]
def aK(F:Nat->Int):Value:=.agg (aC F)
def aKV(F:Nat->Int):V:=.agg [.int .i64 (F 0),.int .i64 (F 1),.int .i64 (F 2),.int .i64 (F 3),.int .i64 (F 4)]
def same5(F G:Nat->Int):Bool:=F 0==G 0&&(F 1==G 1&&(F 2==G 2&&(F 3==G 3&&(F 4==G 4&&true))))
theorem same5_iff{F G:Nat->Int}:same5 F G=true↔F 0=G 0/\F 1=G 1/\F 2=G 2/\F 3=G 3/\F 4=G 4:=by simp[same5]
theorem aK_same{F G:Nat->Int}(h:same5 F G=true):aK F=aK G:=by
 obtain⟨h0,h1,h2,h3,h4⟩:=same5_iff.1 h;unfold aK aC;rw[h0,h1,h2,h3,h4]
theorem rel_aK{G0:Kept}{β:Homes}(F:Nat->Int):Rel G0 β (aKV F) (aK F):=by
 refine .agg rfl fun j hj=> ?_;have hj':j<5:=hj;rcases show j=0\/j=1\/j=2\/j=3\/j=4 by omega with rfl|rfl|rfl|rfl|rfl<;>exact .int _ _
theorem rel_arr_inv{G0:Kept}{β:Homes}{c:Nat->Nat->V}{F:Nat->Int}{y:Value}(hc:∀r,r<5->c r 0=.int .i64 (F r))(h:Rel G0 β (.arr 1 5 c) y):y=aK F:=by
 cases h with
 |arr hs hh=>
  rename_i xs
  have hx:∀j,j<5->xs.getD j Go.undef=.int .i64 (F j):=fun j hj=>by
   have:=hh j 0 hj (by omega);rw[hc j hj,Nat.mul_one,Nat.add_zero]at this;exact rel_int_inv this
  have:xs=aC F:=by
   apply Array.ext
   ·rw[hs];rfl
   ·intro j h1 h2;have h5:j<5:=by rw[hs]at h1;omega
    have:=hx j h5;rw[aG,Array.getElem?_eq_getElem h1]at this;rw[show xs[j]=.int .i64 (F j)from this];rcases show j=0\/j=1\/j=2\/j=3\/j=4 by omega with rfl|rfl|rfl|rfl|rfl<;>rfl
  rw[this];rfl
section
variable {P:Program} {h:List Blk}
def noK(w:World):Kept:=⟨fun _=>none,⟨w.os,w.output,w.tape,0⟩⟩
theorem run_checkK{kt e:TypeId}(hk:P.underlying kt=some (.array 5 e))(he:P.underlying e=some (.int .i64))(hs:hasT P e=true)(hz:szOf P e=1)(hp:∀(F:Nat->Int) (i:Nat),i<5->partV P e [.int .i64 (F 0),.int .i64 (F 1),.int .i64 (F 2),.int .i64 (F 3),.int .i64 (F 4)] i=some (.int .i64 (F i)))(b:Bool)(F:Nat->Int)(w:World):
  (Instr.checkKey b 10000 kt (aK F)).run P w=.ok () w:=by
 have hpart:∀i,i<5->(part e (aC F) i).run P w=.ok (.int .i64 (F i)) w:=fun i hi=>by
  have hr:∀j,j<5->Rel (noK w) [] (([.int .i64 (F 0),.int .i64 (F 1),.int .i64 (F 2),.int .i64 (F 3),.int .i64 (F 4)]:List V).getD j .undef) ((aC F).getD j Go.undef):=fun j hj=>by
   rcases show j=0\/j=1\/j=2\/j=3\/j=4 by omega with rfl|rfl|rfl|rfl|rfl<;>exact .int _ _
  obtain⟨y,h1,h2⟩:=part_ok hs (xs:=[.int .i64 (F 0),.int .i64 (F 1),.int .i64 (F 2),.int .i64 (F 3),.int .i64 (F 4)]) (cs:=aC F) rfl hr (hp F i hi) w;rw[rel_int_inv h2]at h1;exact h1
 have hint:∀(n:Nat) (k:Int),(Instr.checkKey b (n+1) e (.int .i64 k)).run P w=.ok () w:=fun n k=>by
  simp only[Instr.checkKey,Sem.run_bind,run_underlying' he,Result.andThen_ok];rfl
 have:∀n,(Instr.checkKey b (n+2) kt (aK F)).run P w=.ok () w:=fun n=>by
  rw[Instr.checkKey.eq_def];simp only[aK,Sem.run_bind,run_underlying' hk,Result.andThen_ok];rw[Std.Legacy.Range.forIn_eq_forIn_range'];simp only[Std.Legacy.Range.size];have hl:List.range' 0 ((5-0+1-1)/1)=[0,1,2,3,4]:=by decide
  rw[hl];simp only[List.forIn_cons,List.forIn_nil,Sem.run_bind,run_sizeOf' hs,hz,Nat.mul_one,Result.andThen_ok,hpart 0 (by omega),hpart 1 (by omega),hpart 2 (by omega),hpart 3 (by omega),hpart 4 (by omega),hint,Sem.run_pure]
 exact this 9998
structure KeyT(P:Program)(kt:TypeId):Prop where
 und:∃e,P.underlying kt=some (.array 5 e)
 eqv:∀F G,eqV P 2 kt (aKV F) (aKV G)=some (same5 F G)
 chk:∀b F w,(Instr.checkKey b 10000 kt (aK F)).run P w=.ok () w
theorem run_equalK{kt:TypeId}(hk:KeyT P kt)(F G:Nat->Int)(w:World):(Op.equal kt (aK F) (aK G)).run P w=.ok (same5 F G) w:=
 eqV_ok (G:=noK w) (β:=[]) 2 10000 (by omega) kt (aKV F) (aKV G) _ _ _ w (hk.eqv F G) (rel_aK F) (rel_aK G)
theorem find_noneK{kt:TypeId}(hk:KeyT P kt)(F:Nat->Int)(w:World):∀(L:List MapEntry) (i:Nat),(∀e∈L,∃G,e.key=aK G/\same5 F G=false)->(Instr.findAsking kt (aK F) L i).run P w=.ok none w
 |[],_,_=>rfl
 |e::L,i,h=>by
  obtain⟨G,h1,h2⟩:=h e List.mem_cons_self;have ih:=find_noneK hk F w L (i+1) fun e he=>h e (List.mem_cons_of_mem _ he);simp only[Instr.findAsking,Sem.run_bind,h1,run_equalK hk,h2,Result.andThen_ok];simpa using ih
theorem find_someK{kt:TypeId}(hk:KeyT P kt)(F:Nat->Int)(w:World)(e:MapEntry){G:Nat->Int}(he:e.key=aK G)(hs:same5 F G=true)(L2:List MapEntry):∀(L1:List MapEntry) (i:Nat),(∀e∈L1,∃G,e.key=aK G/\same5 F G=false)->(Instr.findAsking kt (aK F) (L1++e::L2) i).run P w=.ok (some (i+L1.length,e.val)) w
 |[],i,_=>by
  simp only[List.nil_append,Instr.findAsking,Sem.run_bind,he,run_equalK hk,hs,Result.andThen_ok];simp
 |d::L1,i,h=>by
  obtain⟨G2,h1,h2⟩:=h d List.mem_cons_self;have ih:=find_someK hk F w e he hs L2 L1 (i+1) fun e he=>h e (List.mem_cons_of_mem _ he);simp only[List.cons_append,Instr.findAsking,Sem.run_bind,h1,run_equalK hk,h2,Result.andThen_ok];simpa[Nat.add_assoc,Nat.add_comm 1]using ih
theorem findNow_K{e:TypeId}(F:Nat->Int)(L:List MapEntry)(hL:∀x∈L,∃G,x.key=aK G):(Instr.findNow (.array 5 e) (aK F) L 0=some none/\L=[])\/Instr.findNow (.array 5 e) (aK F) L 0=none:=by
 cases L with
 |nil=>exact .inl ⟨rfl,rfl⟩
 |cons x L=>
  obtain⟨G,h⟩:=hL x List.mem_cons_self;right
  simp[Instr.findNow,h,aK,Instr.sameNow]
theorem run_findK{kt:TypeId}(hk:KeyT P kt)(F:Nat->Int)(w:World)(L:List MapEntry)(hL:∀x∈L,∃G,x.key=aK G){r:Option (Nat × Value)}(hr:(Instr.findAsking kt (aK F) L 0).run P w=.ok r w):(Instr.findKey kt (aK F) L).run P w=.ok r w:=by
 obtain⟨e,hu⟩:=hk.und;rcases findNow_K (e:=e) F L hL with⟨h1,rfl⟩|h1
 ·have:r=none:=by
   simp[Instr.findAsking]at hr;exact hr.symm
  subst this;simp[Instr.findKey,run_underlying' hu,h1]
 ·simp[Instr.findKey,run_underlying' hu,h1,hr]
def entsK(M:List ((Nat->Int) × Int)):Array MapEntry:=((List.range M.length).map fun j=>({key:=aK (M.getD j (fun _=>0,0)).1,val:=.int .i64 (M.getD j (fun _=>0,0)).2,born:=j}:MapEntry)).toArray
def mK(M:List ((Nat->Int) × Int)):Blk:=.obj (.map (entsK M) M.length)
theorem entsK_size(M:List ((Nat->Int) × Int)):(entsK M).size=M.length:=by simp[entsK]
theorem entsK_get(M:List ((Nat->Int) × Int))(j:Nat)(hj:j<M.length):∃e,(entsK M)[j]? =some e/\e.key=aK M[j].1/\e.born=j/\e.val=.int .i64 M[j].2:=by
 refine⟨{key:=aK M[j].1,val:=.int .i64 M[j].2,born:=j},?_,rfl,rfl,rfl⟩;have e:M.getD j (fun _=>0,0)=M[j]:=by rw[gE,List.getElem?_eq_getElem hj];rfl
 rw[<-e];simp[entsK,hj]
theorem entsK_ext{es:Array MapEntry}{M:List ((Nat->Int) × Int)}(hs:es.size=M.length)(he:∀j,(hj:j<M.length)->∃e,es[j]? =some e/\e.key=aK M[j].1/\e.born=j/\e.val=.int .i64 M[j].2):es=entsK M:=by
 apply Array.ext
 ·rw[hs,entsK_size]
 ·intro j h1 h2;obtain⟨e,g1,g2,g3,g4⟩:=he j (by omega);obtain⟨e',f1,f2,f3,f4⟩:=entsK_get M j (by omega);rw[Array.getElem?_eq_getElem h1]at g1;rw[Array.getElem?_eq_getElem h2]at f1;cases g1;cases f1;have:∀a b:MapEntry,a.key=b.key->a.val=b.val->a.born=b.born->a=b:=fun a b q1 q2 q3=>by cases a;cases b;simp_all
  exact this _ _ (g2.trans f2.symm) (g4.trans f4.symm) (g3.trans f3.symm)
theorem keys_in{es:Array MapEntry}{M:List ((Nat->Int) × Int)}(hs:es.size=M.length)(he:∀j,(hj:j<M.length)->∃e,es[j]? =some e/\e.key=aK M[j].1/\e.born=j/\e.val=.int .i64 M[j].2)(n:Nat){p:(Nat->Int)->Prop}(hp:∀j,(hj:j<M.length)->j<n->p M[j].1):∀e∈es.toList.take n,∃G,e.key=aK G/\p G:=fun e hm=>by
 obtain⟨j,hj,rfl⟩:=List.getElem_of_mem hm;simp only[List.length_take,Array.length_toList]at hj;obtain⟨e,h1,h2,-⟩:=he j (by omega);have e1:es[j]? =some es[j]:=Array.getElem?_eq_getElem (by omega);rw[e1]at h1;cases h1;exact⟨M[j].1,by simpa using h2,hp j (by omega) (by omega)⟩
theorem split_at{es:Array MapEntry}{j:Nat}{e:MapEntry}(h:es[j]? =some e):es.toList=es.toList.take j++e::es.toList.drop (j+1):=by
 have e1:es.toList[j]? =some e:=by simpa using h
 obtain⟨l1,l2⟩:=List.getElem?_eq_some_iff.1 e1;rw[<-l2,List.getElem_cons_drop,List.take_append_drop]
theorem put_mK{β:Homes}{G K:Kept}{w:World}(r:RH β G K h w){q:Nat}{x:Home}{M M':List ((Nat->Int) × Int)}(hq:h[q]? =some (mK M))(hx:β[q]? =some (.lie x)){es es':Array MapEntry}(hh:w.heap[x.b]? =some (.map es M.length))(hs:es'.size=M'.length)
  (he:∀j,(hj:j<M'.length)->∃e,es'[j]? =some e/\e.key=aK M'[j].1/\e.born=j/\e.val=.int .i64 M'[j].2):RH β G K (h.set q (mK M')) (w.putObj x.b (.map es' M'.length)):=by
 have hlt:=(Array.getElem?_eq_some_iff.1 hh).1;rw[entsK_ext hs he];exact r.write (hm:=Mild.putObj _ _ _) hq (by simp[mK]) hx (fun b hb=>World.putObj_heap_other hb) (by simp) (World.putObj_heap_same hlt)
theorem open_mK{β:Homes}{G K:Kept}{w:World}(r:RH β G K h w){q:Nat}{M:List ((Nat->Int) × Int)}{y:Value}(hq:h[q]? =some (mK M))(hm:Rel G β (.map q) y):∃(x:Home) (es:Array MapEntry),y=.map (some x.b)/\β[q]? =some (.lie x)/\w.heap[x.b]? =some (.map es M.length)/\es.size=M.length/\
  (∀j,(hj:j<M.length)->∃e,es[j]? =some e/\e.key=aK M[j].1/\e.born=j/\e.val=.int .i64 M[j].2):=by
 obtain⟨b,hb⟩:=rel_map_inv hm;rw[hb]at hm;obtain⟨x,hx,rfl,hh⟩:=home_obj r hq hm;exact⟨x,entsK M,hb,hx,hh,entsK_size M,entsK_get M⟩
variable {t kt et:TypeId} {M:List ((Nat->Int) × Int)} {q:Nat} {x y z:Operand} {F:Nat->Int} {c:Nat->Nat->V}
theorem sem_lookupK0(ht:P.underlying t=some (.map kt et))(hk:KeyT P kt)(hz:(P.info? et).bind (·.zero)=some (.int .i64 0))(hq:h[q]? =some (mK M))(hc:∀r,r<5->c r 0=.int .i64 (F r))(hno:∀p∈M,same5 F p.1=false):
  SemOK P (.lookup t x y false) [(x,.map q),(y,.arr 1 5 c)] h (.int .i64 0) h:=fun β G K w ρ' oper ho _ r hr=>by
 obtain⟨xx,es,hb,hx,hh,hs,he⟩:=open_mK r hq (hr (x,.map q) (by simp));have hy:=rel_arr_inv hc (hr (y,.arr 1 5 c) (by simp));simp only at hb hy
 have hzv:(zeroValue et).run P w=.ok (.int .i64 0) w:=by
  cases hi:P.info? et with
  |none=>simp[hi]at hz
  |some i=>
   cases hz':i.zero with
   |none=>simp[hi,hz']at hz
   |some z=>
    simp[hi,hz']at hz;subst hz;simp only[zeroValue,Sem.run_bind,run_typeInfo' hi,Result.andThen_ok,hz',Sem.run_pure]
 have hn:=keys_in hs he es.size (p:=fun G=>same5 F G=false) (fun j hj _=>hno _ (List.getElem_mem hj));have hn2:=keys_in hs he es.size (p:=fun _=>True) (fun j hj _=>trivial);rw[<-Array.length_toList,List.take_length]at hn hn2;have hf:=run_findK hk F w es.toList (fun e hm=>by obtain⟨G,h1,_⟩:=hn2 e hm;exact⟨G,h1⟩) (find_noneK hk F w es.toList 0 hn);have hg:(getObj xx.b).run P w=.ok (.map es M.length) w:=MapKept.run_getObj_map hh
 refine opOK_value (y:=.int .i64 0) r ?_ (.int _ _)
 have hrun:(Instr.lookup t (.map (some xx.b)) (aK F) false).run P w=.ok (.int .i64 0) w:=by
  simp only[Instr.lookup,Sem.run_bind,run_underlying' ht,Result.andThen_ok,hg,Sem.run_pure,hk.chk,hf];simp[hzv]
 simp only[execOp,ho,hb,hy,Sem.run_bind,hrun,Result.andThen_ok,Sem.run_pure]
theorem found_K{kt:TypeId}(hk:KeyT P kt){es:Array MapEntry}(hs:es.size=M.length)(he:∀j,(hj:j<M.length)->∃e,es[j]? =some e/\e.key=aK M[j].1/\e.born=j/\e.val=.int .i64 M[j].2){j:Nat}(hj:j<M.length)(hsm:same5 F M[j].1=true)(hne:∀i,(hi:i<M.length)->i<j->same5 F M[i].1=false)(w:World):
  ∃e,es[j]? =some e/\e.key=aK F/\e.born=j/\e.val=.int .i64 M[j].2/\(Instr.findKey kt (aK F) es.toList).run P w=.ok (some (j,.int .i64 M[j].2)) w:=by
 obtain⟨e,g1,g2,g3,g4⟩:=he j hj;have hn:=keys_in hs he j (p:=fun G=>same5 F G=false) hne;have hn2:=keys_in hs he es.size (p:=fun _=>True) (fun j hj _=>trivial);rw[<-Array.length_toList,List.take_length]at hn2;have hf:=find_someK hk F w e g2 hsm (es.toList.drop (j+1)) (es.toList.take j) 0 hn;rw[<-split_at g1]at hf;have hl:(es.toList.take j).length=j:=by simp;omega
 rw[hl,Nat.zero_add,g4]at hf;exact⟨e,g1,by rw[g2,<-aK_same hsm],g3,g4,run_findK hk F w es.toList (fun e hm=>by obtain⟨G,h1,_⟩:=hn2 e hm;exact⟨G,h1⟩) hf⟩
theorem sem_lookupK1(ht:P.underlying t=some (.map kt et))(hk:KeyT P kt)(hq:h[q]? =some (mK M))(hc:∀r,r<5->c r 0=.int .i64 (F r)){j:Nat}(hj:j<M.length)(hsm:same5 F M[j].1=true)(hne:∀i,(hi:i<M.length)->i<j->same5 F M[i].1=false):
  SemOK P (.lookup t x y false) [(x,.map q),(y,.arr 1 5 c)] h (.int .i64 M[j].2) h:=fun β G K w ρ' oper ho _ r hr=>by
 obtain⟨xx,es,hb,hx,hh,hs,he⟩:=open_mK r hq (hr (x,.map q) (by simp));have hy:=rel_arr_inv hc (hr (y,.arr 1 5 c) (by simp));simp only at hb hy;obtain⟨e,g1,g2,g3,g4,hf⟩:=found_K hk hs he hj hsm hne w;have hg:(getObj xx.b).run P w=.ok (.map es M.length) w:=MapKept.run_getObj_map hh;refine opOK_value (y:=.int .i64 M[j].2) r ?_ (.int _ _)
 have hrun:(Instr.lookup t (.map (some xx.b)) (aK F) false).run P w=.ok (.int .i64 M[j].2) w:=by
  simp only[Instr.lookup,Sem.run_bind,run_underlying' ht,Result.andThen_ok,hg,Sem.run_pure,hk.chk,hf];simp
 simp only[execOp,ho,hb,hy,Sem.run_bind,hrun,Result.andThen_ok,Sem.run_pure]
theorem sem_entryK0(ht:P.underlying t=some (.map kt et))(hk:KeyT P kt)(hz:(P.info? et).bind (·.zero)=some (.int .i64 0))(hq:h[q]? =some (mK M))(hc:∀r,r<5->c r 0=.int .i64 (F r))(hno:∀p∈M,same5 F p.1=false):
  SemOK P (.mapEntry t x y) [(x,.map q),(y,.arr 1 5 c)] h (.tuple [.int .i64 0,.int .i64 M.length]) (h.set q (mK (M++ [(F,0)]))):=fun β G K w ρ' oper ho _ r hr=>by
 obtain⟨xx,es,hb,hx,hh,hs,he⟩:=open_mK r hq (hr (x,.map q) (by simp));have hy:=rel_arr_inv hc (hr (y,.arr 1 5 c) (by simp));simp only at hb hy
 have hzv:(zeroValue et).run P w=.ok (.int .i64 0) w:=by
  cases hi:P.info? et with
  |none=>simp[hi]at hz
  |some i=>
   cases hz':i.zero with
   |none=>simp[hi,hz']at hz
   |some z=>
    simp[hi,hz']at hz;subst hz;simp only[zeroValue,Sem.run_bind,run_typeInfo' hi,Result.andThen_ok,hz',Sem.run_pure]
 have hn:=keys_in hs he es.size (p:=fun G=>same5 F G=false) (fun j hj _=>hno _ (List.getElem_mem hj));have hn2:=keys_in hs he es.size (p:=fun _=>True) (fun j hj _=>trivial);rw[<-Array.length_toList,List.take_length]at hn hn2;have hf:=run_findK hk F w es.toList (fun e hm=>by obtain⟨G,h1,_⟩:=hn2 e hm;exact⟨G,h1⟩) (find_noneK hk F w es.toList 0 hn);have hg:(getObj xx.b).run P w=.ok (.map es M.length) w:=MapKept.run_getObj_map hh
 have hst:∀o,(setObj xx.b o).run P w=.ok () (w.putObj xx.b o):=fun o=>MapKept.run_setObj_map o hh
 have hrun:(Instr.mapEntry t (.map (some xx.b)) (aK F)).run P w=.ok (.tuple #[.int .i64 0,goInt M.length]) (w.putObj xx.b (.map (es.push {key:=aK F,val:=.int .i64 0,born:=M.length}) (M.length+1))):=by
  simp only[Instr.mapEntry,Sem.run_bind,run_underlying' ht,Result.andThen_ok,hg,Sem.run_pure,hk.chk,hf,hzv,hst]
 have hw:=put_mK r (M':=M++ [(F,0)]) hq hx hh (es':=es.push {key:=aK F,val:=.int .i64 0,born:=M.length}) (by simp[hs]) (fun j hj=>by
  rw[List.length_append,List.length_singleton]at hj;by_cases hjm:j<M.length
  ·obtain⟨e,h1,h2,h3,h4⟩:=he j hjm;refine⟨e,by rw[Array.getElem?_push,if_neg (by omega)];exact h1,?_,h3,?_⟩
   ·rw[List.getElem_append_left hjm];exact h2
   ·rw[List.getElem_append_left hjm];exact h4
  ·obtain rfl:j=M.length:=by omega
   exact⟨{key:=aK F,val:=.int .i64 0,born:=M.length},by rw[Array.getElem?_push,if_pos hs.symm],by simp,rfl,by simp⟩)
 rw[List.length_append,List.length_singleton]at hw;refine⟨.value (.tuple #[.int .i64 0,goInt M.length]),_,β,?_,Homes.le_refl _,hw,.tuple rfl fun j hj=> ?_⟩
 ·simp only[execOp,ho,hb,hy,Sem.run_bind,hrun,Result.andThen_ok,Sem.run_pure]
 ·match j,hj with
  |0,_=>exact .int _ _
  |1,_=>exact .int _ _
theorem sem_entryK1(ht:P.underlying t=some (.map kt et))(hk:KeyT P kt)(hq:h[q]? =some (mK M))(hc:∀r,r<5->c r 0=.int .i64 (F r)){j:Nat}(hj:j<M.length)(hsm:same5 F M[j].1=true)(hne:∀i,(hi:i<M.length)->i<j->same5 F M[i].1=false):
  SemOK P (.mapEntry t x y) [(x,.map q),(y,.arr 1 5 c)] h (.tuple [.int .i64 M[j].2,.int .i64 j]) (h.set q (mK M)):=fun β G K w ρ' oper ho _ r hr=>by
 obtain⟨xx,es,hb,hx,hh,hs,he⟩:=open_mK r hq (hr (x,.map q) (by simp));have hy:=rel_arr_inv hc (hr (y,.arr 1 5 c) (by simp));simp only at hb hy;obtain⟨e,g1,g2,g3,g4,hf⟩:=found_K hk hs he hj hsm hne w;have hg:(getObj xx.b).run P w=.ok (.map es M.length) w:=MapKept.run_getObj_map hh;have hst:∀o,(setObj xx.b o).run P w=.ok () (w.putObj xx.b o):=fun o=>MapKept.run_setObj_map o hh;have hsb:Instr.sameBits 10000 (aK F) (aK F)=true:=by simp[aK,aC,Instr.sameBits]
 have hke:(Instr.keyThatStays (aK F) (aK F)).run P w=.ok (aK F) w:=by simp[Instr.keyThatStays,hsb]
 have hrun:(Instr.mapEntry t (.map (some xx.b)) (aK F)).run P w=.ok (.tuple #[.int .i64 M[j].2,goInt j]) (w.putObj xx.b (.map (es.modify j fun e=>{e with key:=aK F}) M.length)):=by
  simp only[Instr.mapEntry,Sem.run_bind,run_underlying' ht,Result.andThen_ok,hg,Sem.run_pure,hk.chk,hf,g1,Option.map_some,Option.getD_some,g2,hke,hst,g3]
 have hw:=put_mK r (M':=M) hq hx hh (es':=es.modify j fun e=>{e with key:=aK F}) (by simp[hs]) (fun i hi=>by
  obtain⟨e,h1,h2,h3,h4⟩:=he i hi;rw[Array.getElem?_modify];by_cases hij:j=i
  ·subst hij;exact⟨{e with key:=aK F},by simp[h1],aK_same hsm,h3,h4⟩
  ·exact⟨e,by rw[if_neg hij];exact h1,h2,h3,h4⟩)
 refine⟨.value (.tuple #[.int .i64 M[j].2,goInt j]),_,β,?_,Homes.le_refl _,hw,.tuple rfl fun j hj=> ?_⟩
 ·simp only[execOp,ho,hb,hy,Sem.run_bind,hrun,Result.andThen_ok,Sem.run_pure]
 ·match j,hj with
  |0,_=>exact .int _ _
  |1,_=>exact .int _ _
theorem sem_storeK(hq:h[q]? =some (mK M)){j:Nat}(hj:j<M.length)(n:Int):
  SemOK P (.entryStore t x y z) [(x,.map q),(y,.int .i64 j),(z,.int .i64 n)] h .undef (h.set q (mK (M.set j (M[j].1,n)))):=fun β G K w ρ' oper ho _ r hr=>by
 obtain⟨xx,es,hb,hx,hh,hs,he⟩:=open_mK r hq (hr (x,.map q) (by simp));have hy:=rel_int_inv (hr (y,.int .i64 j) (by simp));have hzz:=rel_int_inv (hr (z,.int .i64 n) (by simp));simp only at hb hy hzz;have hg:(getObj xx.b).run P w=.ok (.map es M.length) w:=MapKept.run_getObj_map hh;have hst:∀o,(setObj xx.b o).run P w=.ok () (w.putObj xx.b o):=fun o=>MapKept.run_setObj_map o hh
 have hborn:∀i,(hi:i<es.size)->es[i].born=i:=fun i hi=>by
  obtain⟨e,h1,h2,h3,h4⟩:=he i (by omega);rw[Array.getElem?_eq_getElem hi]at h1;cases h1;exact h3
 have hfi:es.findIdx? (fun e=>(e.born:Int)==(j:Int))=some j:=by
  rw[Array.findIdx?_eq_some_iff_getElem];refine⟨by omega,by rw[hborn j (by omega)];simp,fun i hi=> ?_⟩;rw[hborn i (by omega)];simp;omega
 have hrun:(Instr.entryStore t (.map (some xx.b)) (.int .i64 j) (.int .i64 n)).run P w=.ok () (w.putObj xx.b (.map (es.modify j fun e=>{e with val:=.int .i64 n}) M.length)):=by
  simp[Instr.entryStore,hg,asInt,asIntOf,hfi,hst]
 have hw:=put_mK r (M':=M.set j (M[j].1,n)) hq hx hh (es':=es.modify j fun e=>{e with val:=.int .i64 n}) (by simp[hs]) (fun i hi=>by
  rw[List.length_set]at hi;obtain⟨e,h1,h2,h3,h4⟩:=he i hi;rw[Array.getElem?_modify];by_cases hij:j=i
  ·subst hij;exact⟨{e with val:=.int .i64 n},by simp[h1],by simpa using h2,h3,by simp⟩
  ·exact⟨e,by rw[if_neg hij];exact h1,by rw[List.getElem_set_ne hij];exact h2,h3,by rw[List.getElem_set_ne hij];exact h4⟩)
 rw[List.length_set]at hw;refine⟨.skip,_,β,?_,Homes.le_refl _,hw,rfl⟩;simp only[execOp,ho,hb,hy,hzz,Sem.run_bind,hrun,Result.andThen_ok,Sem.run_pure]
theorem sem_makeK(t:TypeId):SemOK P (.makeMap t none) [] h (.map h.length) (h++ [mK []]):=fun β G K w ρ' oper ho _ r _=>by
 refine⟨.value (.map (some w.heap.size)),w.alloc (.map #[] 0),β++ [Hm.lie ⟨w.heap.size,0,0⟩],?_,Homes.le_append _ _,r.push rfl (heap_alloc_new w _),.map (ref_new r _ _ _)⟩;simp only[execOp,ho,Sem.run_bind];simp only[Instr.makeMap,newObj];rfl
theorem sem_lenK(ht:P.underlying t=some (.map kt et))(hq:h[q]? =some (mK M)):
  SemOK P (.call {callee:=.builtin .len,args:= #[x],argTypes:= #[t]}) [(x,.map q)] h (.int .i64 M.length) h:=fun β G K w ρ' oper ho _ r hr=>by
 obtain⟨xx,es,hb,hx,hh,hs,he⟩:=open_mK r hq (hr (x,.map q) (by simp));simp only at hb;have hg:(getObj xx.b).run P w=.ok (.map es M.length) w:=MapKept.run_getObj_map hh;refine opOK_value (y:=.int .i64 M.length) r ?_ (.int _ _);simp only[execOp,ho,resolve,Sem.run_bind,Sem.run_pure,Result.andThen_ok,invoke,builtin,List.map_toArray,List.map_cons,List.map_nil,hb]
 have:(Builtin.len_ #[t] oper.type #[.map (some xx.b)]).run P w=.ok (.int .i64 M.length) w:=by
  simp[Builtin.len_,run_underlying' ht,hg,hs,goInt]
 rw[this];rfl
end
theorem RS.telRows{β:Homes}{G K:Kept}{S:St}{a:Act}{w:World}(r:RS β G K S a w){i:Nat}{e:TypeId}{wd n:Nat}{c c':Nat->Nat->V}(hi:S.h[i]? =some (.rows e wd n c))(hv:∀r j,r<n->j<wd->VLe (c r j) (c' r j)):RS β G K ⟨S.t,S.h.set i (.rows e wd n c'),S.d⟩ a w:=by
 refine⟨r.h.swap hi (by simp) rfl ?_,r.size,r.tmp,r.marks,fun q hq=> ?_⟩
 ·have hB:=r.h.blk i _ hi;revert hB
  cases β[i]?.getD .void with
  |void=>exact id
  |nil=>exact id
  |ext l=>exact id
  |lie z=>
   rintro⟨q1,q2,q3,ca,q4,q5,q6,q7,q8⟩
   exact⟨q1,q2,q3,ca,q4,q5,q6,q7,fun r j hr hj=>hv r j hr hj _ _ _ (q8 r j hr hj)⟩
 ·obtain⟨x,h1,h2,h3⟩:=r.mark q hq;have hne:i≠S.d.getD q 0:=by intro e9;rw[<-e9,hi]at h3;cases h3
  refine⟨x,h1,h2,?_⟩;show(S.h.set i _)[S.d.getD q 0]? =_;rw[sN hne];exact h3
theorem AWP.telRows{P:Program}{ro:Env}{code:Code}{S:St}{Q:Exit->St->Prop}{i:Nat}{e:TypeId}{wd n:Nat}{c c':Nat->Nat->V}(hi:S.h[i]? =some (.rows e wd n c))(hv:∀r j,r<n->j<wd->VLe (c r j) (c' r j))(h:AWP P ro code ⟨S.t,S.h.set i (.rows e wd n c'),S.d⟩ Q):AWP P ro code S Q:=
 fun β G K a w r=>h β G K a w (r.telRows hi hv)
theorem AWP.toldRows{P:Program}{ro:Env}{code:Code}{S:St}{Q:Exit->St->Prop}{i:Nat}{e:TypeId}{wd n:Nat}{c c':Nat->Nat->V}{t:List V}(h:AWP P ro code S fun x T=>T.h[i]? =some (.rows e wd n c)/\(∀r j,r<n->j<wd->VLe (c r j) (c' r j))/\T.t.length=t.length/\(∀j,VLe (T.t.getD j .undef) (t.getD j .undef))/\Q x ⟨t,T.h.set i (.rows e wd n c'),T.d⟩):AWP P ro code S Q:=
 AWP.weak h fun x T β G K a w hq r=>by
  obtain⟨h1,h2,h3,h4,h5⟩:=hq;have r1:=r.telRows h1 h2;exact⟨⟨t,T.h.set i (.rows e wd n c'),T.d⟩,β,Homes.low_refl _ _,⟨r1.h,by rw[r1.size];exact h3,fun j=>h4 j _ _ _ (r1.tmp j),r1.marks,r1.mark⟩,h5⟩
end Ab
