/-
  Part of the proof of the Claim laws. Conditions: those that stand in each theorem.
-/
import Derived.Laws.AppendOwn
import Derived.ArgAppend
import Derived.RangeFuncSeq
import Derived.RangeFuncCalls
import Derived.Test.YtdamoemndifpmaaGreatB03
set_option linter.unusedSimpArgs false
set_option linter.unusedVariables false
namespace Ab
open Go
mutual
def V.off(i:Nat):V->Bool
 |.ref j _ _=> !(j==i)
 |.row j _=> !(j==i)
 |.map j=> !(j==i)
 |.yld j=> !(j==i)
 |.sub j _ _ _ _=> !(j==i)
 |.agg vs=>offL i vs
 |.tuple vs=>offL i vs
 |.func _ f c=>offL i f&&offL i c
 |.iface _ v=>v.off i
 |_=>true
def offL(i:Nat):List V->Bool
 |[]=>true
 |v::vs=>v.off i&&offL i vs
end
theorem offL_getD{m:Nat}:∀ {vs:List V} (_:offL m vs=true) (j:Nat),(vs.getD j .undef).off m=true
 |[],_,j=>by simp[V.off]
 |v::vs,h,0=>by simp only[offL,Bool.and_eq_true]at h;simpa using h.1
 |v::vs,h,j+1=>by
  simp only[offL,Bool.and_eq_true]at h;simpa using offL_getD h.2 j
theorem Rel.rehome{G:Kept}{β:Homes}{v:V}{x:Value}(h:Rel G β v x):∀ {i:Nat} {y:Hm},v.off i=true->Rel G (β.set i y) v x:=by
 have look:∀ {β:Homes} {j i:Nat} {y z:Hm},(!(j==i))=true->β[j]? =some z->(β.set i y)[j]? =some z:=fun {β j i y z} hj hz=>by
  have:i≠j:=by intro e;subst e;simp at hj
  rw[sN this];exact hz
 induction h with
 |undef x=>intros;exact .undef x
 |bool b=>intros;exact .bool b
 |int k n=>intros;exact .int k n
 |str s=>intros;exact .str s
 |nil=>intros;exact .nil
 |nils=>intros;exact .nils
 |nilfunc=>intros;exact .nilfunc
 |nilmap=>intros;exact .nilmap
 |niliface=>intros;exact .niliface
 |cref g hsz h ih=>intros;exact .cref g hsz h
 |list0=>intros;exact .list0
 |list g hsz hcap hn h ih=>intros;exact .list g hsz hcap hn h
 |ref hi=>intro i y hm;exact .ref (look hm hi)
 |row hi hn hc hx=>intro i y hm;exact .row (look hm hi) hn hc hx
 |row0 hi=>intro i y hm;exact .row0 (look hm hi)
 |map hi=>intro i y hm;exact .map (look hm hi)
 |yld hi=>intro i y hm;exact .yld (look hm hi)
 |sub hi hc hx=>intro i y hm;exact .sub (look hm hi) hc hx
 |sub0=>intros;exact .sub0
 |arr hs h ih=>intros;exact .arr hs h
 |agg hs h ih=>intro i y hm;exact .agg hs fun j hj=>ih j hj (offL_getD hm j)
 |tuple hs h ih=>intro i y hm;exact .tuple hs fun j hj=>ih j hj (offL_getD hm j)
 |func hf hc h h' ih ih'=>
  intro i y hm;simp only[V.off,Bool.and_eq_true]at hm;exact .func hf hc (fun j hj=>ih j hj (offL_getD hm.1 j)) fun j hj=>ih' j hj (offL_getD hm.2 j)
 |iface h ih=>intro i y hm;exact .iface (ih hm)
def killV(i:Nat)(v:V):V:=bif v.off i then v else .undef
def killB(i:Nat):Blk->Blk
 |.cells cs=>.cells (cs.map (killV i))
 |.iter v n s=>.iter (killV i v) n s
 |.rowsL e w n c r0 j0 v=>.rowsL e w n c r0 j0 (killV i v)
 |.maps ks vs=>.maps ks (vs.map (killV i))
 |k=>k
theorem Rel.kill{G:Kept}{β:Homes}{v:V}{x:Value}(h:Rel G β v x)(i:Nat)(y:Hm):Rel G (β.set i y) (killV i v) x:=by
 unfold killV;cases ho:v.off i
 ·exact .undef x
 ·exact h.rehome ho
theorem getD_kill(i:Nat)(cs:List V)(j:Nat):(cs.map (killV i)).getD j .undef=killV i (cs.getD j .undef):=by
 simp only[gE,List.getElem?_map]
 cases cs[j]? with
 |none=>rfl
 |some v=>rfl
theorem killB_gone{i:Nat}{k:Blk}(h:k=.gone):killB i k=.gone:=by subst h;rfl
theorem killB_ne{i:Nat}{k:Blk}(h:killB i k≠ .gone):k≠ .gone:=fun e=>h (killB_gone e)
theorem BlkOK.kill{G:Kept}{β:Homes}{w w':World}{k:Blk}{x:Hm}{i:Nat}{y:Hm}(h:BlkOK G β w k x)(hw:∀z,x=.lie z->w'.heap[z.b]? =w.heap[z.b]?):BlkOK G (β.set i y) w' (killB i k) x:=by
 cases x with
 |void=>cases k<;>first|exact h|exact h.elim
 |nil=>cases k<;>first|exact h|exact h.elim
 |lie z=>
  have e:=hw z rfl
  cases k with
  |gone=>trivial
  |void=>exact h
  |cells cs=>obtain⟨c,t,h1,h2,h3⟩:=h;exact⟨c,t,e.trans h1,by simpa using h2,fun j hj=>by rw[getD_kill];exact(h3 j (by simpa using hj)).kill i y⟩
  |rows et n m rs=>obtain⟨h0,hn,hc,c,h1,h2⟩:=h;exact⟨h0,hn,hc,c,e.trans h1,h2⟩
  |iter v n seen=>obtain⟨b,h1,h2⟩:=h;exact⟨b,h1.kill i y,e.trans h2⟩
  |obj o=>exact e.trans h
  |ext X tr=>exact h
  |rowsL et n m rs r0 j0 v=>
   obtain⟨h0,hn,hc,c,h1,h2,h3,h4,h5,h6,h7,h8⟩:=h;exact⟨h0,hn,hc,c,e.trans h1,h2,h3,h4,h5,h6,h7,h8.kill i y⟩
  |maps ks vs=>obtain⟨es,h1,h2,h3⟩:=h;exact⟨es,e.trans h1,h2,fun j k hj=>by obtain⟨z,q1,q2,q3,q4⟩:=h3 j k hj;exact⟨z,q1,q2,q3,by rw[getD_kill];exact q4.kill i y⟩⟩
 |ext l=>cases k<;>first|exact h|exact h.elim
theorem RH.rehome{β:Homes}{G K:Kept}{h:List Blk}{w w':World}(r:RH β G K h w){i:Nat}{k0 k':Blk}{y:Home}(hi:h[i]? =some k0)(h0:k0≠ .gone)
  (hy:(w.heap.size<=y.b)\/∃z,β[i]? =some (.lie z)/\z.b=y.b) (hw:∀b,b<w.heap.size->b≠y.b->w'.heap[b]? =w.heap[b]?) (hs:w.heap.size<=w'.heap.size) (hlt:y.b<w'.heap.size)
  (hk:BlkOK G (β.set i (.lie y)) w' k' (.lie y)) (hm:Mild w w'):RH (β.set i (.lie y)) G K ((h.map (killB i)).set i k') w':=by
 have hil:i<h.length:=(List.getElem?_eq_some_iff.1 hi).1;have hib:i<β.length:=by rw[r.len];exact hil
 have hself:(β.set i (.lie y))[i]? =some (.lie y):=List.getElem?_set_self hib
 have knone:K y.b=none:=by
  rcases hy with e|⟨z,hz,e⟩
  ·cases hk:K y.b with
   |none=>rfl
   |some o'=>have:=(Array.getElem?_eq_some_iff.1 (r.keep _ _ hk)).1;omega
  ·rw[<-e];exact(r.sep i z k0 hi h0 hz).1
 have other:∀ {j:Nat} {k:Blk} {x:Home},j≠i->h[j]? =some k->k≠ .gone->β[j]? =some (.lie x)->x.b<w.heap.size/\x.b≠y.b:=fun {j k x} hj hk hg hb=>by
  refine⟨(r.sep j x k hk hg hb).2,fun e=> ?_⟩;rcases hy with e'|⟨z,hz,e'⟩
  ·have:=(r.sep j x k hk hg hb).2;omega
  ·exact hj (r.inj j i x z k k0 hk hi hg h0 hb hz (e.trans e'.symm))
 have look:∀ {j:Nat} {k:Blk},j≠i->((h.map (killB i)).set i k')[j]? =some k->∃k2,h[j]? =some k2/\k=killB i k2:=fun {j k} hj hk=>by
  rw[sN (Ne.symm hj),List.getElem?_map]at hk
  cases hh:h[j]? with
  |none=>rw[hh]at hk;cases hk
  |some k2=>rw[hh]at hk;cases hk;exact⟨k2,rfl,rfl⟩
 refine⟨by simp[r.len],fun j k hk'=> ?_,fun a b xa xb ka kb ha hb ga gb hba hbb hxy=> ?_,fun j x k hk' hg hb=> ?_,fun b o hb=> ?_,r.gk,r.amb.mild hm,fun j X tr hj=> ?_⟩
 ·by_cases e:j=i
  ·subst e;rw[List.getElem?_set_self (by simpa using hil)]at hk';simp only[sJ]at hk';subst hk';rw[hself];exact hk
  ·obtain⟨k2,q1,rfl⟩:=look e hk';rw[sN (Ne.symm e)];by_cases hg:k2=.gone
   ·rw[killB_gone hg];cases(β[j]?.getD .void)<;>trivial
   refine(r.blk j k2 q1).kill fun z hz=> ?_
   have hbz:β[j]? =some (.lie z):=by
    cases hb:β[j]? with
    |none=>simp[hb]at hz
    |some z'=>simp[hb]at hz;rw[hz]
   obtain⟨l1,l2⟩:=other e q1 hg hbz;exact hw _ l1 l2
 ·by_cases ea:a=i
  ·by_cases eb:b=i
   ·rw[ea,eb]
   ·exfalso
    subst ea;rw[hself]at hba;simp only[sJ,Hm.lie.injEq]at hba;subst hba;obtain⟨k2,q1,rfl⟩:=look eb hb;rw[sN (Ne.symm eb)]at hbb;exact(other eb q1 (killB_ne gb) hbb).2 hxy.symm
  ·obtain⟨k1,q1,rfl⟩:=look ea ha;rw[sN (Ne.symm ea)]at hba;by_cases eb:b=i
   ·exfalso
    subst eb;rw[hself]at hbb;simp only[sJ,Hm.lie.injEq]at hbb;subst hbb;exact(other ea q1 (killB_ne ga) hba).2 hxy
   ·obtain⟨k2,q2,rfl⟩:=look eb hb;rw[sN (Ne.symm eb)]at hbb;exact r.inj a b xa xb k1 k2 q1 q2 (killB_ne ga) (killB_ne gb) hba hbb hxy
 ·by_cases e:j=i
  ·subst e;rw[hself]at hb;simp only[sJ,Hm.lie.injEq]at hb;subst hb;exact⟨knone,hlt⟩
  ·obtain⟨k2,q1,rfl⟩:=look e hk';rw[sN (Ne.symm e)]at hb;have:=r.sep j x k2 q1 (killB_ne hg) hb;exact⟨this.1,by omega⟩
 ·have hlt':=(Array.getElem?_eq_some_iff.1 (r.keep b o hb)).1;rw[hw b hlt' (fun e=>by rw[e,knone]at hb;cases hb)];exact r.keep b o hb
 ·by_cases e:j=i
  ·subst e;rw[List.getElem?_set_self (by simpa using hil)]at hj;simp only[sJ]at hj;subst hj;exact hk.elim
  ·obtain⟨k2,q1,q2⟩:=look e hj;have hk2:k2=.ext X tr:=by cases k2<;>simp only[killB]at q2<;>first|(cases q2;rfl)|cases q2
   subst hk2;obtain⟨l,E,h1,h2,hbs,h3⟩:=r.ext j X tr q1
   have far:∀b,E b≠none->b<w.heap.size/\b≠y.b:=fun b hE=>by
    refine⟨Ext.lt h2 hE,fun e2=> ?_⟩;rcases hy with e'|⟨z,hz,e'⟩
    ·have:=Ext.lt h2 hE;omega
    ·exact(h3 b hE).2 i z k0 hi h0 hz (e'.trans e2.symm)
   refine⟨l,E,by rw[sN (Ne.symm e)];exact h1,X.stable h2 (fun b o hb=>by
    obtain⟨l1,l2⟩:=far b (by rw[hb];simp)
    rw[hw b l1 l2];exact X.keeps h2 b o hb) (fun b o hb=>by
    have hb':=hbs b o hb
    rw[hw b (Array.getElem?_eq_some_iff.1 (r.keep b o hb')).1 (fun e=>by rw[e,knone]at hb';cases hb')];exact r.keep b o hb') hs hm,hbs,fun b hE=>⟨(h3 b hE).1,fun q x k1 hq g hbq=> ?_⟩⟩
   by_cases e2:q=i
   ·subst e2;rw[hself]at hbq;simp only[sJ,Hm.lie.injEq]at hbq;subst hbq;exact fun e3=>(far b hE).2 e3.symm
   ·obtain⟨k3,p1,rfl⟩:=look e2 hq;rw[sN (Ne.symm e2)]at hbq;exact(h3 b hE).2 q x k3 p1 (killB_ne g) hbq
def appC(n:Nat)(c c2:Nat->Nat->V):Nat->Nat->V:=fun r j=>if r<n then c r j else c2 (r-n) j
def srcV(h:List Blk):V->Option (Nat × Nat × (Nat->Nat->V) × Option Nat × Bool)
 |.list w k c=>some (w,k,c,none,true)
 |.row j k=>match h[j]? with|some (.rows _ w k' c)=>some (w,k,c,some j,decide (k<=k'))|_=>none
 |.sub j r 0 w k=>match h[j]? with|some (.rows _ w' k' c)=>if w'=w then some (w,k,fun a b=>c (r+a) b,some j,decide (r+k<=k'))else none|_=>none
 |_=>none
def SrcOK(G:Kept)(W:World)(y:Value)(w k:Nat)(c2:Nat->Nat->V):Prop:=
 ∃a cap,y=.slice a k cap/\(k=0\/∃(ad:Addr) (news:List Value),a=some ad/\news.length=k*w/\(∀j u,news[j]? =some u->W.cell? (ad.add j)=some u)/\∀r j,r<k->j<w->Rel G [] (c2 r j) (news.getD (r*w+j) Go.undef))
theorem srcOK_of{G:Kept}{W:World}{b off w k cap:Nat}{cs:Array Value}{e:TypeId}{fz:Nat × Nat}{c2:Nat->Nat->V}(hb:W.heap[b]? =some (.cells cs e fz))(hs:off+k*w<=cs.size)
  (hr:∀r j,r<k->j<w->Rel G [] (c2 r j) (cs.getD (off+(r*w+j)) Go.undef)):SrcOK G W (.slice (some ⟨b,off,none⟩) k cap) w k c2:=by
 refine⟨_,_,rfl,.inr ⟨_,(cs.toList.drop off).take (k*w),rfl,by simp;omega,fun j u hj=> ?_,fun r j h1 h2=> ?_⟩⟩
 ·have hlt:j<k*w:=by
   have:=(List.getElem?_eq_some_iff.1 hj).1;simp at this;omega
  rw[List.getElem?_take_of_lt hlt,List.getElem?_drop,Array.getElem?_toList]at hj;rw[addr_add,cell_of_heap hb _ (by omega)];rw[aG,hj];rfl
 ·have hlt:r*w+j<k*w:=by
   have:(r+1)*w<=k*w:=Nat.mul_le_mul_right _ h1;rw[Nat.succ_mul]at this;omega
  have:=hr r j h1 h2;rw[gE,List.getElem?_take_of_lt hlt,List.getElem?_drop,Array.getElem?_toList];rwa[aG]at this
theorem src_ok{β:Homes}{G K:Kept}{h:List Blk}{W:World}(r:RH β G K h W){x:V}{y:Value}(hx:Rel G β x y){w k:Nat}{c2:Nat->Nat->V}{o:Option Nat}(hs:srcV h x=some (w,k,c2,o,true)):SrcOK G W y w k c2:=by
 cases hx with
 |list0=>
  simp only[srcV,sJ,Prod.mk.injEq]at hs;obtain⟨rfl,rfl,rfl,-⟩:=hs;exact⟨_,_,rfl,.inl rfl⟩
 |list hG hsz hcap hn hc=>
  simp only[srcV,sJ,Prod.mk.injEq]at hs;obtain⟨rfl,rfl,rfl,-⟩:=hs;exact srcOK_of (r.keep _ _ (r.gk _ _ hG)) hsz hc
 |row0 hi=>
  simp only[srcV]at hs;split at hs
  ·simp only[sJ,Prod.mk.injEq]at hs;obtain⟨rfl,rfl,-⟩:=hs;exact⟨_,_,rfl,.inl rfl⟩
  ·cases hs
 |row hi hn hc hm=>
  simp only[srcV]at hs;split at hs
  ·rename_i e wd k' c hb;simp only[sJ,Prod.mk.injEq,decide_eq_true_eq]at hs;obtain⟨rfl,rfl,rfl,-,hk⟩:=hs;have hB:=r.blk _ _ hb;rw[hi]at hB;obtain⟨hw,h0,hcm,ca,hh,hsz,hmc,hmx,hrr⟩:=hB;subst hw;refine srcOK_of hh ?_ fun a j ha hj=>by rw[Nat.zero_add];exact hrr a j (by omega) hj
   rw[Nat.zero_add,hsz];exact Nat.mul_le_mul_right _ (by omega)
  ·cases hs
 |sub0=>
  rename_i i rr off wd a cap
  cases off with
  |zero=>
   simp only[srcV]at hs;split at hs
   ·split at hs
    ·simp only[sJ,Prod.mk.injEq]at hs;obtain⟨rfl,rfl,-⟩:=hs;exact⟨_,_,rfl,.inl rfl⟩
    ·cases hs
   ·cases hs
  |succ _=>simp[srcV]at hs
 |sub hi hc hm=>
  rename_i i rr off wd k0 cap hm'
  cases off with
  |zero=>
   simp only[srcV]at hs;split at hs
   ·rename_i e w' k' c hb;split at hs
    ·rename_i hww;subst hww;simp only[sJ,Prod.mk.injEq,decide_eq_true_eq]at hs;obtain⟨rfl,rfl,rfl,-,hk⟩:=hs;have hB:=r.blk _ _ hb;rw[hi]at hB;obtain⟨hw,h0,hcm,ca,hh,hsz,hmc,hmx,hrr⟩:=hB;subst hw;refine srcOK_of hh ?_ fun a j ha hj=> ?_
     ·rw[Nat.add_zero,<-Nat.add_mul,hsz];exact Nat.mul_le_mul_right _ (by omega)
     ·rw[Nat.add_zero,<-Nat.add_assoc,<-Nat.add_mul];exact hrr (rr+a) j (by omega) hj
    ·cases hs
   ·cases hs
  |succ _=>simp[srcV]at hs
 |_=>simp[srcV]at hs
section
variable {P:Program}
theorem run_append_room_row{w:World}{t ty e e':TypeId}{i:TypeInfo}(ht:P.underlying t=some (.slice e))(hi:P.info? e=some i){b n cap m c:Nat}{cur:Array Value}{ad:Addr}{news:List Value}
  (hb:w.heap[b]? =some (.cells cur e' (0,0))) (hl:news.length=m*i.size) (hn:∀j u,news[j]? =some u->w.cell? (ad.add j)=some u) (h1:∀u∈news,u.oneCell'=true) (hroom:n+m<=cap) (hs:n*i.size+news.length<=cur.size):
  (Builtin.append_ #[t,t] ty #[.slice (some ⟨b,0,none⟩) n cap,.slice (some ad) m c]).run P w=.ok (.slice (some ⟨b,0,none⟩) (n+m) cap) (w.setRow b (cur.toList.take (n*i.size)++news++cur.toList.drop (n*i.size+news.length)).toArray):=by
 have hfc:=run_firstCells_some (P:=P) w i.size m ad m c news hl hn;have hst:=run_storeCells_at P b (n*i.size) e' news 0 cur w hb (by simpa using hs) h1;simp only[Nat.add_zero]at hst;simp[Builtin.append_,run_underlying ht,Go.sizeOf,typeInfo,hi,Builtin.lenOf,hroom,hfc,addr_add,hst]
theorem run_append_zero{w:World}{t ty e:TypeId}{i:TypeInfo}(ht:P.underlying t=some (.slice e))(hi:P.info? e=some i){a a2:Option Addr}{n cap c:Nat}(hn:n<=cap):
  (Builtin.append_ #[t,t] ty #[.slice a n cap,.slice a2 0 c]).run P w=.ok (.slice a n cap) w:=by
 have hfc:(Builtin.firstCells i.size 0 (.slice a2 0 c)).run P w=.ok #[] w:=by
  cases a2 with
  |none=>exact run_firstCells_none (P:=P) w _ _ _ _
  |some ad=>exact run_firstCells_some (P:=P) w i.size 0 ad 0 c [] (by simp) (by simp)
 cases a<;>simp[Builtin.append_,run_underlying ht,Go.sizeOf,typeInfo,hi,Builtin.lenOf,hn,hfc,storeCells]
end
def killS(i:Nat)(S:St):St:={t:=S.t.map (killV i),h:=S.h.map (killB i),d:=S.d}
def appendV(P:Program)(m:Nat)(S:St)(t:TypeId)(s x:V):Option (Bool × (Nat->Bool) × V × St):=
 match P.underlying t,s with
 |some (.slice e),.row i n=>
  match S.h[i]?,srcV S.h x,zeroCs P e with
  |some (.rows e' w n' c),some (w2,k,c2,o,ob),some zs=>
   if e'=e/\hasT P e=true/\szOf P e=w/\w2=w/\0<w/\m<=i/\zs.length=w/\P.bytesOf e<=32768/\o≠some i then
    some (decide (n=n')&&decide (n+k<=4294967296)&&ob,(fun r=>(List.range w).all fun j=>(c2 r j).scalar),.row i (n+k),{killS i S with h:=(killS i S).h.set i (.rows e w (n+k) (appC n c c2))})
   else none
  |_,_,_=>none
 |_,_=>none
theorem RS.rehome{β:Homes}{G K:Kept}{S:St}{a:Act}{w w':World}(r:RS β G K S a w){i:Nat}{e:TypeId}{wd n:Nat}{c:Nat->Nat->V}{k':Blk}{y:Home}(hi:S.h[i]? =some (.rows e wd n c))
  (hy:(w.heap.size<=y.b)\/∃z,β[i]? =some (.lie z)/\z.b=y.b) (hw:∀b,b<w.heap.size->b≠y.b->w'.heap[b]? =w.heap[b]?) (hs:w.heap.size<=w'.heap.size) (hlt:y.b<w'.heap.size)
  (hk:BlkOK G (β.set i (.lie y)) w' k' (.lie y)) (hm:Mild w w'):RS (β.set i (.lie y)) G K {killS i S with h:=(killS i S).h.set i k'} a w':=by
 refine⟨r.h.rehome hi (by simp) hy hw hs hlt hk hm,by simpa[killS]using r.size,fun j=> ?_,r.marks,fun j hj=> ?_⟩
 ·show Rel _ _ ((S.t.map (killV i)).getD j .undef) _;rw[getD_kill];exact(r.tmp j).kill i _
 ·obtain⟨x,h1,h2,h3⟩:=r.mark j hj;have hne:i≠S.d.getD j 0:=by intro e;rw[<-e,hi]at h3;cases h3
  refine⟨x,?_,h2,?_⟩
  ·show(β.set i (.lie y))[S.d.getD j 0]? =_;rw[sN hne];exact h1
  ·show((S.h.map (killB i)).set i k')[S.d.getD j 0]? =_;rw[sN hne,List.getElem?_map,h3];rfl
section
variable {P:Program} {ro:Env} {ops:Array Oper} {S:St} {Q:Exit->St->Prop}
theorem append_rs{β:Homes}{G K:Kept}{a:Act}{w:World}(r:RS β G K S a w){m:Nat}{t ty:TypeId}{s x:Operand}{p:Nat->Bool}{v:V}{S1:St}(he:appendV P m S t (S.eval s) (S.eval x)=some (true,p,v,S1))(hp:∀r,p r=true):
  ∃v' w' β',(Builtin.append_ #[t,t] ty #[a.eval s,a.eval x]).run P w=.ok v' w'/\Homes.low m β β'/\RS β' G K S1 a w'/\Rel G β' v v':=by
 unfold appendV at he;split at he
 case h_2=>cases he
 rename_i e i n hu hsv;split at he
 case h_2=>cases he
 rename_i e' wd n' c w2 k c2 o ob zs hi hsrc hz;split at he
 case isFalse=>cases he
 rename_i hc;obtain⟨rfl,hT,hsz,rfl,h0,hmi,hzl,hby,hoi⟩:=hc;simp only[sJ,Prod.mk.injEq,Bool.and_eq_true,decide_eq_true_eq]at he;obtain⟨⟨⟨hn,hb⟩,hob⟩,rfl,rfl,rfl⟩:=he;subst hn;subst hob;obtain⟨ax,capx,hxe,hx⟩:=src_ok r.h (r.eval x) hsrc;have hrs:=r.eval s;rw[hsv]at hrs;have hB:=r.h.blk i _ hi
 have hinfo:∃inf,P.info? e'=some inf:=by
  unfold hasT at hT
  cases h:P.info? e' with
  |none=>simp[h]at hT
  |some q=>exact⟨q,rfl⟩
 obtain⟨inf,hinf⟩:=hinfo;have hisz:inf.size=w2:=by rw[<-hsz];simp[szOf,Program.cellsOf,hinf]
 have hiby:inf.bytes<=32768:=by simpa[Program.bytesOf,hinf]using hby
 obtain⟨z,z1,z2,z3⟩:=zeroCs_ok hz w
 have hiz:inf.zero=some z:=by
  cases hq:inf.zero with
  |none=>simp[zeroCs,hinf,hq]at hz
  |some z'=>
   have:(zeroValue e').run P w=.ok z' w:=by simp only[zeroValue,Sem.run_bind,run_typeInfo' hinf,Result.andThen_ok,hq,Sem.run_pure]
   rw[this]at z1;cases z1;rfl
 have hzs:z.cells.size=inf.size:=by rw[z2,hzl,hisz]
 have hbytes:(n+k)*inf.bytes<=140737488355328:=by
  have:(n+k)*inf.bytes<=4294967296*32768:=Nat.mul_le_mul hb hiby;omega
 have hml:n+k<=maxLen:=by unfold maxLen;omega
 have hmn:n+k<=maxn:=by unfold maxn;omega
 have lowset:∀y,Homes.low m β (β.set i y):=fun y j x hv hx=>by
  rcases Nat.lt_or_ge j m with q|q
  ·rw[List.getElem?_take_of_lt q]at hx;rw[sN (by omega)];exact hx
  ·rw[List.getElem?_eq_none (by simp;omega)]at hx;cases hx
 have hib:i<β.length:=by rw[r.h.len];exact(List.getElem?_eq_some_iff.1 hi).1
 have one:∀ {news:List Value},news.length=k*w2->(∀r j,r<k->j<w2->Rel G [] (c2 r j) (news.getD (r*w2+j) Go.undef))->∀u∈news,u.oneCell'=true:=fun {news} hl hrel u hu'=>by
  obtain⟨q,hq,rfl⟩:=List.mem_iff_getElem.1 hu';have hmod:q%w2<w2:=Nat.mod_lt _ h0;have hdiv:q/w2<k:=Nat.div_lt_of_lt_mul (by rw[Nat.mul_comm,<-hl];exact hq);have hr:=hrel (q/w2) (q%w2) hdiv hmod;rw[Nat.div_add_mod']at hr;have hsc:=List.all_eq_true.1 (hp (q/w2)) _ (List.mem_range.2 hmod);have:=(hr.scalar hsc).2;rw[gE,List.getElem?_eq_getElem hq]at this;exact this
 have content:∀ {news:List Value} {cells:Array Value},news.length=k*w2->(∀r j,r<k->j<w2->Rel G [] (c2 r j) (news.getD (r*w2+j) Go.undef))->
   (∀r j,r<n->j<w2->Rel G [] (c r j) (cells.getD (r*w2+j) Go.undef))->(∀q,q<k*w2->cells.getD (n*w2+q) Go.undef=news.getD q Go.undef)->
   ∀r j,r<n+k->j<w2->Rel G [] (appC n c c2 r j) (cells.getD (r*w2+j) Go.undef):=fun {news cells} hl hrel hold hnew r j hr hj=>by
  unfold appC;split
  ·rename_i hlt;exact hold r j hlt hj
  ·rename_i hge;have h1:=hrel (r-n) j (by omega) hj
   have hlt:(r-n)*w2+j<k*w2:=by
    have:(r-n+1)*w2<=k*w2:=Nat.mul_le_mul_right _ (by omega);rw[Nat.succ_mul]at this;omega
   have e1:n*w2+((r-n)*w2+j)=r*w2+j:=by
    rw[<-Nat.add_assoc,<-Nat.add_mul];congr 2;omega
   have:=hnew _ hlt;rw[e1]at this;rw[this];exact h1
 rw[hxe]
 have grow:∀ {v':Value} {w':World} {olds news:List Value},w'.ownsRow w.heap.size e' w2 v' (n+k) (olds++news)->w.grownBy w' none->Mild w w'->0<n+k->olds.length=n*w2->news.length=k*w2->
   (∀r j,r<k->j<w2->Rel G [] (c2 r j) (news.getD (r*w2+j) Go.undef))->(∀r j,r<n->j<w2->Rel G [] (c r j) (olds.getD (r*w2+j) Go.undef))->
   ∃β',Homes.low m β β'/\RS β' G K {killS i S with h:=(killS i S).h.set i (.rows e' w2 (n+k) (appC n c c2))} a w'/\Rel G β' (.row i (n+k)) v':=fun {v' w' olds news} how hg hmild hpos hlo hln hrel hold=>by
  obtain⟨ol,oc⟩:=how;rcases oc with⟨_,hzero⟩|⟨g,cap',cur,rfl,hge,hcur,hnc,hcm,hcsz,htake⟩
  ·omega
  ·refine⟨β.set i (.lie ⟨g,w2,cap'⟩),lowset _,?_,.row (List.getElem?_set_self hib) hnc (Nat.le_refl _) hmn⟩;have hglt:g<w'.heap.size:=(Array.getElem?_eq_some_iff.1 hcur).1
   have look:∀q,q<(n+k)*w2->cur.getD q Go.undef=(olds++news).getD q Go.undef:=fun q hq=>by
    rw[<-htake,gE,List.getElem?_take_of_lt hq,Array.getElem?_toList,aG]
   have hnk:(n+k)*w2=n*w2+k*w2:=Nat.add_mul _ _ _
   have hrows:BlkOK G (β.set i (.lie ⟨g,w2,cap'⟩)) w' (.rows e' w2 (n+k) (appC n c c2)) (.lie ⟨g,w2,cap'⟩):=by
    refine⟨rfl,h0,hcm,cur,hcur,hcsz,hnc,hmn,content hln hrel (fun r j hr hj=> ?_) fun q hq=> ?_⟩
    ·have hlt:r*w2+j<n*w2:=by
      have:(r+1)*w2<=n*w2:=Nat.mul_le_mul_right _ hr;rw[Nat.succ_mul]at this;omega
     rw[look _ (by omega),getD_append_left (by omega)];exact hold r j hr hj
    ·rw[look _ (by omega),getD_append_right (by omega)];congr 1;omega
   exact r.rehome hi (.inl hge) (fun b hb hne=>hg.block b hb (by simp)) hg.size hglt hrows hmild
 generalize hsx:a.eval s=sv at hrs
 cases hrs with
 |row0 hb0=>
  rename_i a0;rw[hb0]at hB;by_cases hk0:k=0
  ·
   subst hk0;refine⟨_,w,β,run_append_zero hu hinf (Nat.le_refl _),Homes.low_refl _ _,?_,.row0 hb0⟩
   have hkill:β.set i .nil=β:=by
    apply List.ext_getElem?;intro j;by_cases e:i=j
    ·subst e;rw[List.getElem?_set_self hib,hb0]
    ·rw[sN e]
   refine⟨?_,by simpa[killS]using r.size,fun j=> ?_,r.marks,fun j hj=> ?_⟩
   ·refine⟨by simp[killS,r.h.len],fun j kk hj=> ?_,fun p q xp xq kp kq hp hq gp gq bp bq e=> ?_,fun j xx kk hj hg hbj=> ?_,r.h.keep,r.h.gk,r.h.amb,fun j X tr hj=> ?_⟩
    ·by_cases e:j=i
     ·subst e;simp only[killS]at hj;rw[List.getElem?_set_self (by simpa using(List.getElem?_eq_some_iff.1 hi).1)]at hj;simp only[sJ]at hj;subst hj;rw[hb0];exact⟨rfl,h0⟩
     ·simp only[killS]at hj;rw[sN (Ne.symm e),List.getElem?_map]at hj
      cases hh:S.h[j]? with
      |none=>rw[hh]at hj;cases hj
      |some k2=>
       rw[hh]at hj;cases hj;have:=(r.h.blk j k2 hh).kill (i:=i) (y:=.nil) (w':=w) fun _ _=>rfl;rwa[hkill]at this
    ·have fix:∀ {p:Nat} {kp:Blk} {xp:Home},((S.h.map (killB i)).set i (.rows e' w2 (0+0) (appC 0 c c2)))[p]? =some kp->kp≠ .gone->β[p]? =some (.lie xp)->∃k2,S.h[p]? =some k2/\k2≠ .gone:=fun {p kp xp} hp gp bp=>by
      have hne:i≠p:=by intro e;subst e;rw[hb0]at bp;cases bp
      rw[sN hne,List.getElem?_map]at hp
      cases hh:S.h[p]? with
      |none=>rw[hh]at hp;cases hp
      |some k2=>rw[hh]at hp;cases hp;exact⟨k2,rfl,killB_ne gp⟩
     obtain⟨k1,q1,g1⟩:=fix hp gp bp;obtain⟨k2,q2,g2⟩:=fix hq gq bq;exact r.h.inj p q xp xq k1 k2 q1 q2 g1 g2 bp bq e
    ·have hne:i≠j:=by intro e;subst e;rw[hb0]at hbj;cases hbj
     simp only[killS]at hj;rw[sN hne,List.getElem?_map]at hj
     cases hh:S.h[j]? with
     |none=>rw[hh]at hj;cases hj
     |some k2=>rw[hh]at hj;cases hj;exact r.h.sep j xx k2 hh (killB_ne hg) hbj
    ·have back:∀ {p:Nat} {kp:Blk} {xp:Home},((S.h.map (killB i)).set i (.rows e' w2 (0+0) (appC 0 c c2)))[p]? =some kp->kp≠ .gone->β[p]? =some (.lie xp)->∃k2,S.h[p]? =some k2/\k2≠ .gone:=fun {p kp xp} hp gp bp=>by
      have hne:i≠p:=by intro e;subst e;rw[hb0]at bp;cases bp
      rw[sN hne,List.getElem?_map]at hp
      cases hh:S.h[p]? with
      |none=>rw[hh]at hp;cases hp
      |some k2=>rw[hh]at hp;cases hp;exact⟨k2,rfl,killB_ne gp⟩
     simp only[killS]at hj;by_cases e:i=j
     ·subst e;rw[List.getElem?_set_self (by simpa using(List.getElem?_eq_some_iff.1 hi).1)]at hj;cases hj
     ·rw[sN e,List.getElem?_map]at hj
      cases hh:S.h[j]? with
      |none=>rw[hh]at hj;cases hj
      |some k2=>
       rw[hh]at hj;have hk2:k2=.ext X tr:=by cases k2<;>simp[killB]at hj;simp[hj]
       subst hk2;obtain⟨l,E,h1,h2,hbs,h3⟩:=r.h.ext j X tr hh;exact⟨l,E,h1,h2,hbs,fun b hE=>⟨(h3 b hE).1,fun q y k1 hq g hbq=>by obtain⟨k3,q3,g3⟩:=back hq g hbq;exact(h3 b hE).2 q y k3 q3 g3 hbq⟩⟩
   ·show Rel _ _ ((S.t.map (killV i)).getD j .undef) _;rw[getD_kill];have:=(r.tmp j).kill i .nil;rwa[hkill]at this
   ·obtain⟨xx,q1,q2,q3⟩:=r.mark j hj;have hne:i≠S.d.getD j 0:=by intro e;rw[<-e,hi]at q3;cases q3
    refine⟨xx,q1,q2,?_⟩;show((S.h.map (killB i)).set i _)[S.d.getD j 0]? =_;rw[sN hne,List.getElem?_map,q3];rfl
  ·obtain⟨ad,news,rfl,hln,hcell,hrel⟩:=hx.resolve_left hk0
   have fin:∀ {v':Value} {w':World},w'.ownsRow w.heap.size e' w2 v' (0+k) ([]++news)->w.grownBy w' none->Mild w w'->∃β',Homes.low m β β'/\RS β' G K {killS i S with h:=(killS i S).h.set i (.rows e' w2 (0+k) (appC 0 c c2))} a w'/\Rel G β' (.row i (0+k)) v':=fun how hg hmild=>
    grow how hg hmild (by omega) (by simp) hln hrel (fun r j hr=>by omega)
   cases a0 with
   |none=>
    obtain⟨v',w',q1,q2,q3,-⟩:=run_append_own (P:=P) w w.heap.size t ty e' inf z w2 inf.bytes hu hinf hiz hisz rfl (by rw[hzs,hisz]) h0 (.slice none 0 0) 0 [] (World.ownsRow_nil w _ e' w2) ad k capx news hln hcell (one hln hrel) hml hbytes (Nat.le_refl _);obtain⟨β',f1,f2,f3⟩:=fin q2 q3 ⟨q3.os,q3.output,q3.tape,(run_drew _ q1).drawn⟩;exact⟨v',w',β',q1,f1,f2,f3⟩
   |some b=>
    obtain⟨v',w',q1,q2,q3⟩:=run_append_arg_grows (P:=P) w t ty e' inf z w2 inf.bytes hu hinf hiz hisz rfl (by rw[hzs,hisz]) h0 b 0 0 [] (by simp) (by simp) ad k capx news hln hcell (by omega) hml hbytes;obtain⟨β',f1,f2,f3⟩:=fin q2 q3 ⟨q3.os,q3.output,q3.tape,(run_drew _ q1).drawn⟩;exact⟨v',w',β',q1,f1,f2,f3⟩
 |row hb0 hncap hcap hmm=>
  rename_i cap y;rw[hb0]at hB;obtain⟨hw,-,hcm,ca,hh,hsz',hmc,hmx,hrr⟩:=hB;have hyw:y.w=w2:=hw;have hself:(β.set i (.lie y))[i]? =some (.lie y):=List.getElem?_set_self hib;have hylt:y.b<w.heap.size:=(Array.getElem?_eq_some_iff.1 hh).1;by_cases hk0:k=0
  ·subst hk0;refine⟨_,w,β.set i (.lie y),run_append_zero hu hinf hncap,lowset _,r.rehome hi (.inr ⟨y,hb0,rfl⟩) (fun _ _ _=>rfl) (Nat.le_refl _) hylt ⟨hw,h0,hcm,ca,hh,hsz',by omega,by omega,fun q j hq hj=> ?_⟩ (Mild.refl _),.row hself (by omega) hcap hmm⟩;unfold appC;rw[if_pos (by omega)];exact hrr q j (by omega) hj
  obtain⟨ad,news,rfl,hln,hcell,hrel⟩:=hx.resolve_left hk0;have hone:=one hln hrel;by_cases hroom:n+k<=cap
  ·have hsize:n*w2+k*w2<=ca.size:=by
    rw[hsz',<-Nat.add_mul];exact Nat.mul_le_mul_right _ (by omega)
   have hrun:=run_append_room_row (P:=P) (ty:=ty) (c:=capx) hu hinf hh (by rw[hisz];exact hln) hcell hone hroom (by rw[hisz,hln];exact hsize);rw[hisz]at hrun;have hlen:(ca.toList.take (n*w2)++news++ca.toList.drop (n*w2+news.length)).length=ca.size:=by simp[hln];omega
   refine⟨_,_,β.set i (.lie y),hrun,lowset _,r.rehome hi (.inr ⟨y,hb0,rfl⟩) (fun b _ hne=>setRow_other w _ _ _ hne) (by simp) (by simpa using hylt)
    ⟨hw,h0,hcm,_,setRow_heap w _ ca _ e' _ hh,by simp only[List.size_toArray];rw[hlen,hsz'],by omega,hmn,?_⟩ (Mild.setRow _ _ _),.row hself hroom hcap hmn⟩
   refine content hln hrel (fun q j hq hj=> ?_) fun q hq=> ?_
   ·have hlt:q*w2+j<n*w2:=by
     have:(q+1)*w2<=n*w2:=Nat.mul_le_mul_right _ hq;rw[Nat.succ_mul]at this;omega
    have:=hrr q j hq hj;rw[aG]at this⊢;rw[List.getElem?_toArray,List.append_assoc,aL (by simp;omega),List.getElem?_take_of_lt hlt,Array.getElem?_toList];exact this
   ·rw[aG,List.getElem?_toArray,List.append_assoc,List.getElem?_append_right (by simp;omega),aL (by simp;omega),gE];simp only[List.length_take,Array.length_toList];rw[show n*w2+q-min (n*w2) ca.size=q by omega]
  ·have hlo:(ca.toList.take (n*w2)).length=n*w2:=by
    have:n*w2<=ca.size:=by rw[hsz'];exact Nat.mul_le_mul_right _ (by omega)
    simp;omega
   have get:∀q,q<n*w2->(ca.toList.take (n*w2)).getD q Go.undef=ca.getD q Go.undef:=fun q hq=>by
    rw[gE,List.getElem?_take_of_lt hq,Array.getElem?_toList,aG]
   have hold:∀(j:Nat) (u:Value),(ca.toList.take (n*w2))[j]? =some u->w.cell? ((Addr.mk y.b 0 none).add j)=some u:=fun j u hj=>by
    have hlt:j<n*w2:=by have:=(List.getElem?_eq_some_iff.1 hj).1;omega
    rw[List.getElem?_take_of_lt hlt,Array.getElem?_toList]at hj;rw[addr_add,Nat.zero_add,cell_of_heap hh _ (by have:=(Array.getElem?_eq_some_iff.1 hj).1;exact this),aG,hj];rfl
   obtain⟨v',w',q1,q2,q3⟩:=run_append_arg_grows (P:=P) w t ty e' inf z w2 inf.bytes hu hinf hiz hisz rfl (by rw[hzs,hisz]) h0 ⟨y.b,0,none⟩ n cap (ca.toList.take (n*w2)) hlo hold ad k capx news hln hcell (by omega) hml hbytes
   obtain⟨β',f1,f2,f3⟩:=grow q2 q3 ⟨q3.os,q3.output,q3.tape,(run_drew _ q1).drawn⟩ (by omega) hlo hln hrel fun q j hq hj=>by
    have hlt:q*w2+j<n*w2:=by
     have:(q+1)*w2<=n*w2:=Nat.mul_le_mul_right _ hq;rw[Nat.succ_mul]at this;omega
    rw[get _ hlt];exact hrr q j hq hj
   exact⟨v',w',β',q1,f1,f2,f3⟩
theorem AOps.append{i:Nat}{is:List Nat}{o:Oper}{t:TypeId}{s x:Operand}{ob:Bool}{p:Nat->Bool}{v:V}{S1:St}(hi:ops[i]? =some o)(hw:wantedV ops S o=some true)
  (ho:o.op=.call {callee:=.builtin .append,args:= #[s,x],argTypes:= #[t,t]}) (he:appendV P ro.m S t (S.eval s) (S.eval x)=some (ob,p,v,S1)) (hob:ob=true) (hp:∀r,p r=true)
  (rest:AOps P ro ops is (S1.put o.dst v) Q):AOps P ro ops (i::is) S Q:=fun β G K a w r=>by
 subst hob;obtain⟨v',w',β',hrun,hlow,r',hv⟩:=append_rs (ty:=o.type) r he hp;simp only[wpOpsIn,hi,wanted_ok r hw,if_true,Oper.wpIn];refine⟨fun _ _=>trivial,?_⟩
 have hsem:(o.semAt ro.ro a.eval).run P w=.ok (.value v') w':=by
  rw[Oper.semAt_eq _ _ _ (by rw[ho];simp)];simp only[execOp,ho,resolve,Sem.run_bind,Sem.run_pure,Result.andThen_ok,invoke,builtin,List.map_toArray,List.map_cons,List.map_nil,hrun]
 rw[hsem];exact mono_ops (fun e a w hp=>hp.up hlow (G.ext_refl K) K.le_refl) (rest β' G K _ _ (r'.put hv o.dst))
end
def ownT(S:St)(j:Nat)(e:TypeId)(w:Nat):Option St:=
 match S.t.getD j .undef with
 |.nils=>if 0<w then some {S with t:=S.t.set j (.row S.h.length 0),h:=S.h++ [.rows e w 0 fun _ _=>.undef]} else none
 |_=>none
theorem RS.push_none{β:Homes}{G K:Kept}{S:St}{a:Act}{w:World}(r:RS β G K S a w){n:Nat}(e:TypeId)(c:Nat->Nat->V)(hn:0<n):RS (β++ [Hm.nil]) G K {S with h:=S.h++ [.rows e n 0 c]} a w:=by
 refine⟨r.h.push_none e c hn,r.size,fun j=>(r.tmp j).mono G.le_refl (Homes.le_append _ _),r.marks,fun j hj=> ?_⟩;obtain⟨x,h1,h2,h3⟩:=r.mark j hj;refine⟨x,Homes.le_append _ _ _ _ (by simp) h1,h2,?_⟩;show(S.h++_)[S.d.getD j 0]? =_;rw[aL (List.getElem?_eq_some_iff.1 h3).1];exact h3
theorem RS.retell{β:Homes}{G K:Kept}{S:St}{a:Act}{w:World}(r:RS β G K S a w){j:Nat}{v:V}(h:Rel G β v (a.tmps.getD j Go.undef)):RS β G K {S with t:=S.t.set j v} a w:=by
 refine⟨r.h,by simpa using r.size,fun q=> ?_,r.marks,r.mark⟩;show Rel _ _ ((S.t.set j v).getD q .undef) _;by_cases e:j=q
 ·subst e;by_cases hl:j<S.t.length
  ·rw[gE,List.getElem?_set_self hl];exact h
  ·rw[gE,List.getElem?_eq_none (by simpa using hl)];exact .undef _
 ·rw[gE,sN e,<-List.getD_eq_getElem?_getD];exact r.tmp q
theorem RS.own{β:Homes}{G K:Kept}{S S':St}{a:Act}{w:World}(r:RS β G K S a w){j:Nat}{e:TypeId}{n:Nat}(h:ownT S j e n=some S'):RS (β++ [Hm.nil]) G K S' a w:=by
 unfold ownT at h;split at h
 ·rename_i hv;split at h
  ·rename_i hn;cases h;have r1:=r.push_none e (fun _ _=>.undef) hn;have hz:(β++ [Hm.nil])[S.h.length]? =some .nil:=by rw[<-r.h.len];simp
   have ht:=r.tmp j;rw[hv]at ht;refine r1.retell (j:=j) (v:=.row S.h.length 0) ?_;generalize a.tmps.getD j Go.undef=x at ht
   cases ht;exact .row0 hz
  ·cases h
 ·cases h
def frzV(i w:Nat)(c:Nat->Nat->V):V->V
 |.row j n=>bif j==i then .list w n c else .row j n
 |v=>v
def frzOK(i m:Nat):V->Bool
 |.row j n=>bif j==i then decide (n<=m)else true
 |_=>true
def isR:V->Bool
 |.row _ _=>true
 |_=>false
def isL:Blk->Bool
 |.rowsL _ _ _ _ _ _ _=>true
 |.cells cs=>cs.any isR
 |_=>false
def frzB(i w:Nat)(c:Nat->Nat->V):Blk->Blk
 |.rowsL e w' n c' r0 j0 v=>.rowsL e w' n c' r0 j0 (frzV i w c v)
 |.cells cs=>bif cs.any isR then .cells (cs.map (frzV i w c))else .cells cs
 |b=>b
def okL(i m:Nat):Blk->Bool
 |.rowsL _ _ _ _ _ _ v=>frzOK i m v
 |.cells cs=>cs.all (frzOK i m)
 |_=>true
theorem frzB_id{i w:Nat}{c:Nat->Nat->V}{b:Blk}(h:isL b=false):frzB i w c b=b:=by
 cases b<;>first|rfl|(simp[isL]at h;done)|skip
 simp only[isL]at h;simp only[frzB,h,cond_false]
theorem frzB_ne{i w:Nat}{c:Nat->Nat->V}{b:Blk}(h:frzB i w c b≠ .gone):b≠ .gone:=fun e=>h (by rw[e];rfl)
def frzR(S:St)(i:Nat)(w m:Nat)(c:Nat->Nat->V):Option (Bool × St):=
 some (bif S.h.any isL then S.t.all (frzOK i m)&&S.h.all (okL i m)else S.t.all (frzOK i m),
   {t:=S.t.map fun v=>killV i (frzV i w c v),h:=(S.h.map fun b=>killB i (frzB i w c b)).set i .gone,d:=S.d})
def frzVC(i:Nat)(cs:List V):V->V
 |.ref j r off=>bif j==i&&(r==0&&decide (off<=cs.length))then .cref (cs.length-off) (fun q=>(cs.drop off).getD q .undef)else .ref j r off
 |v=>v
def frzS(S:St)(i:Nat):Option (Bool × St):=
 match S.h[i]? with
 |some (.rows _ w m c)=>frzR S i w m c
 |some (.cells cs)=>some (underL 0 cs,{t:=S.t.map fun v=>killV i (frzVC i cs v),h:=(S.h.map (killB i)).set i .gone,d:=S.d})
 |_=>none
theorem RS.frzR{β:Homes}{G K:Kept}{S S':St}{a:Act}{w:World}(r:RS β G K S a w){i:Nat}{e:TypeId}{wd m:Nat}{c:Nat->Nat->V}(hi:S.h[i]? =some (.rows e wd m c))(h:frzR S i wd m c=some (true,S')):∃G',G.ext K G'/\∃K',K.le K'/\RS β G' K' S' a w:=by
 unfold Ab.frzR at h;simp only[sJ,Prod.mk.injEq]at h;obtain⟨hn0,rfl⟩:=h
 have hn:S.t.all (frzOK i m)=true:=by
  cases hl:S.h.any isL with
  |true=>rw[hl,cond_true,Bool.and_eq_true]at hn0;exact hn0.1
  |false=>rw[hl,cond_false]at hn0;exact hn0
 have hnL:∀ {j:Nat} {k:Blk},S.h[j]? =some k->isL k=true->okL i m k=true:=fun {j k} hj hk=>by
  have hm:=List.mem_of_getElem? hj;have hl:S.h.any isL=true:=List.any_eq_true.2 ⟨k,hm,hk⟩;rw[hl,cond_true,Bool.and_eq_true,List.all_eq_true,List.all_eq_true]at hn0;exact hn0.2 k hm
 have hB:=r.h.blk i _ hi;have hilt:i<S.h.length:=(List.getElem?_eq_some_iff.1 hi).1
 have look:∀ {j:Nat} {k:Blk},((S.h.map fun b=>killB i (frzB i wd c b)).set i .gone)[j]? =some k->k≠ .gone->j≠i/\∃k2,S.h[j]? =some k2/\k=killB i (frzB i wd c k2):=fun {j k} hk hg=>by
  by_cases e:j=i
  ·subst e;rw[List.getElem?_set_self (by simpa using hilt)]at hk;cases hk;exact absurd rfl hg
  ·refine⟨e,?_⟩;rw[sN (Ne.symm e),List.getElem?_map]at hk
   cases hh:S.h[j]? with
   |none=>rw[hh]at hk;cases hk
   |some k2=>rw[hh]at hk;cases hk;exact⟨k2,rfl,rfl⟩
 have hset:∀(z:Hm),β[i]? =some z->β.set i z=β:=fun z hz=>by
  apply List.ext_getElem?;intro j;by_cases e:i=j
  ·subst e;rw[List.getElem?_set_self (by rw[r.h.len];exact hilt),hz]
  ·rw[sN e]
 have hib:i<β.length:=by rw[r.h.len];exact hilt
 have hk:∀ {G':Kept} {v:V} {x:Value},Rel G' β v x->Rel G' β (killV i v) x:=fun {G' v x} hv=>by
  have:=hv.kill i (β[i]);rwa[hset _ (List.getElem?_eq_getElem hib)]at this
 have main:∀(G' K':Kept),G.ext K G'->K.le K'->G'.le K'->(∀b o,K' b=some o->w.heap[b]? =some o)->(∀j x k2,j≠i->S.h[j]? =some k2->k2≠ .gone->β[j]? =some (.lie x)->K' x.b=none)->
   (∀b,K b=none->(∀y,β[i]? =some (.lie y)->y.b≠b)->K' b=none)->(∀n x,(n<=m)->Rel G β (.row i n) x->Rel G' β (.list wd n c) x)->RS β G' K' {t:=S.t.map fun v=>killV i (frzV i wd c v),h:=(S.h.map fun b=>killB i (frzB i wd c b)).set i .gone,d:=S.d} a w:=fun G' K' hGG hKK hGK hkeep hsep hextK hrow=>by
  have tv:∀ {v:V} {x:Value},frzOK i m v=true->Rel G β v x->Rel G' β (killV i (frzV i wd c v)) x:=fun {v x} ho ht=>by
   refine hk ?_;by_cases hv:∃n,v=.row i n
   ·obtain⟨n,rfl⟩:=hv;simp only[frzV,beq_self_eq_true,cond_true];exact hrow n _ (by simpa[frzOK]using ho) ht
   ·have:frzV i wd c v=v:=by
     cases v<;>first|rfl|skip
     rename_i q n;by_cases e:q=i
     ·subst e;exact absurd ⟨n,rfl⟩ hv
     ·have:(q==i)=false:=by simpa using e
      simp only[frzV,this,cond_false]
    rw[this];exact ht.mono hGG.1 (Homes.le_refl _)
  refine⟨⟨by simp[r.h.len],fun j k hj=> ?_,fun p q xp xq kp kq hp hq gp gq bp bq e=> ?_,fun j x k hj hg hb=> ?_,hkeep,hGK,hKK.same▸r.h.amb,fun j X tr hj=> ?_⟩,by simpa using r.size,fun j=> ?_,r.marks,fun j hj=> ?_⟩
  ·by_cases hg:k=.gone
   ·subst hg;cases(β[j]?.getD .void)<;>trivial
   ·obtain⟨hne,k2,q1,rfl⟩:=look hj hg;by_cases hL:isL k2=true
    ·have ho:=hnL q1 hL;have hB2:=r.h.blk j k2 q1
     cases k2 with
     |rowsL e2 w2 n2 c2 r0 j0 v=>
      revert hB2
      cases hz:β[j]?.getD .void with
      |void=>intro h;exact h.elim
      |nil=>intro h;exact h.elim
      |ext l=>intro h;exact h.elim
      |lie z=>
       intro hB2;obtain⟨h0,hn',hc,ca,h1,h2,h3,h4,h5,h6,h7,h8⟩:=hB2;exact⟨h0,hn',hc,ca,h1,h2,h3,h4,fun r j hr hj hne=>(h5 r j hr hj hne).mono hGG.1 (Homes.le_refl _),h6,h7,tv ho h8⟩
     |cells cs=>
      revert hB2
      cases hz:β[j]?.getD .void with
      |void=>intro h;exact h.elim
      |nil=>intro h;exact h.elim
      |ext l=>intro h;exact h.elim
      |lie z=>
       intro hB2;obtain⟨ca,e2,h1,h2,h3⟩:=hB2;have hb:frzB i wd c (.cells cs)=.cells (cs.map (frzV i wd c)):=by simp only[isL]at hL;simp only[frzB,hL,cond_true]
       rw[hb];refine⟨ca,e2,h1,by simpa using h2,fun q hq=> ?_⟩;have hq':q<cs.length:=by simpa using hq
       have e1:((cs.map (frzV i wd c)).map (killV i)).getD q .undef=killV i (frzV i wd c (cs.getD q .undef)):=by
        simp[gE,hq']
       rw[e1];refine tv ?_ (h3 q hq');rw[okL,List.all_eq_true]at ho;exact ho _ (by rw[gE,List.getElem?_eq_getElem hq'];exact List.getElem_mem hq')
     |_=>simp[isL]at hL
    rw[frzB_id (by simpa using hL)];have:=((r.h.blk j k2 q1).mono hGG.1 (Homes.le_refl _) (w':=w) fun _ _=>rfl).kill (i:=i) (y:=β[i]) (w':=w) fun _ _=>rfl;rwa[hset _ (List.getElem?_eq_getElem hib)]at this
  ·obtain⟨n1,k1,q1,rfl⟩:=look hp gp;obtain⟨n2,k2,q2,rfl⟩:=look hq gq;exact r.h.inj p q xp xq k1 k2 q1 q2 (frzB_ne (killB_ne gp)) (frzB_ne (killB_ne gq)) bp bq e
  ·obtain⟨n1,k1,q1,rfl⟩:=look hj hg;exact⟨hsep j x k1 n1 q1 (frzB_ne (killB_ne hg)) hb,(r.h.sep j x k1 q1 (frzB_ne (killB_ne hg)) hb).2⟩
  ·obtain⟨n1,k1,q1,q2⟩:=look hj (by simp)
   have hk2:k1=.ext X tr:=by
    cases k1<;>simp only[frzB]at q2
    case cells cs=>cases hc:cs.any isR<;>rw[hc]at q2<;>simp[killB]at q2
    all_goals simp[killB]at q2
    simp[q2]
   subst hk2;obtain⟨l,E,h1,h2,hbs,h3⟩:=r.h.ext j X tr q1;refine⟨l,E,h1,h2,hbs.trans hKK,fun b hE=>⟨hextK b (h3 b hE).1 fun y hy=>(h3 b hE).2 i y _ hi (by simp) hy,fun q y k3 hq g hbq=> ?_⟩⟩;obtain⟨_,k4,q4,rfl⟩:=look hq g;exact(h3 b hE).2 q y k4 q4 (frzB_ne (killB_ne g)) hbq
  ·show Rel _ _ ((S.t.map fun v=>killV i (frzV i wd c v)).getD j .undef) _
   have hmap:(S.t.map fun v=>killV i (frzV i wd c v)).getD j .undef=killV i (frzV i wd c (S.t.getD j .undef)):=by
    simp only[gE,List.getElem?_map]
    cases S.t[j]? with
    |none=>rfl
    |some v=>rfl
   rw[hmap];refine tv ?_ (r.tmp j);by_cases hl:j<S.t.length
   ·exact List.all_eq_true.1 hn (S.t.getD j .undef) (by rw[gE,List.getElem?_eq_getElem hl];exact List.getElem_mem hl)
   ·rw[gE,List.getElem?_eq_none (by omega)];rfl
  ·obtain⟨x,h1,h2,h3⟩:=r.mark j hj;have hne:i≠S.d.getD j 0:=by intro e;rw[<-e,hi]at h3;cases h3
   refine⟨x,h1,h2,?_⟩;show((S.h.map fun b=>killB i (frzB i wd c b)).set i .gone)[S.d.getD j 0]? =_;rw[sN hne,List.getElem?_map,h3];rfl
 cases hb:β[i]? with
 |none=>rw[List.getElem?_eq_getElem hib]at hb;cases hb
 |some z=>
  rw[hb]at hB
  cases z with
  |void=>exact hB.elim
  |ext l=>exact hB.elim
  |nil=>
   obtain⟨hm0,hw0⟩:=hB;refine⟨G,G.ext_refl K,K,K.le_refl,main G K (G.ext_refl K) K.le_refl r.h.gk r.h.keep (fun j x k2 hne hj hg hbj=>(r.h.sep j x k2 hj hg hbj).1) (fun b hb _=>hb) fun n x hn hx=> ?_⟩;have:n=0:=by omega
   subst this
   cases hx with
   |row0 _=>exact .list0
   |row h1 _ _ _=>rw[hb]at h1;cases h1
  |lie y=>
   obtain⟨hw,h0,hcm,ca,hh,hsz,hmc,hmx,hrr⟩:=hB;have hsepi:=r.h.sep i y _ hi (by simp) hb
   have hGn:G y.b=none:=by
    cases hG:G y.b with
    |none=>rfl
    |some o'=>have:=r.h.gk _ _ hG;rw[hsepi.1]at this;cases this
   refine⟨⟨fun b=>if b=y.b then some (.cells ca e (0,0))else G b,G.amb⟩,⟨⟨fun b o hbo=> ?_,rfl⟩,fun b o hbo=> ?_⟩,⟨fun b=>if b=y.b then some (.cells ca e (0,0))else K b,K.amb⟩,⟨fun b o hbo=> ?_,rfl⟩,main _ _ ⟨⟨fun b o hbo=> ?_,rfl⟩,fun b o hbo=> ?_⟩ ⟨fun b o hbo=> ?_,rfl⟩ ⟨fun b o hbo=> ?_,r.h.gk.same⟩ (fun b o hbo=> ?_) (fun j x k2 hne hj hg hbj=> ?_) (fun b hKb hy=> ?_) fun n x hn hx=> ?_⟩
   ·have:b≠y.b:=by intro e;subst e;rw[hGn]at hbo;cases hbo
    simpa[this]using hbo
   ·by_cases e:b=y.b
    ·right;rw[e];exact hsepi.1
    ·simp only[e,if_false]at hbo;exact .inl hbo
   ·have:b≠y.b:=by intro e;subst e;rw[hsepi.1]at hbo;cases hbo
    simpa[this]using hbo
   ·have:b≠y.b:=by intro e;subst e;rw[hGn]at hbo;cases hbo
    simpa[this]using hbo
   ·by_cases e:b=y.b
    ·right;rw[e];exact hsepi.1
    ·simp only[e,if_false]at hbo;exact .inl hbo
   ·have:b≠y.b:=by intro e;subst e;rw[hsepi.1]at hbo;cases hbo
    simpa[this]using hbo
   ·by_cases e:b=y.b
    ·simp only[e,if_true]at hbo⊢;exact hbo
    ·simp only[e,if_false]at hbo⊢;exact r.h.gk _ _ hbo
   ·by_cases e:b=y.b
    ·simp only[e,if_true]at hbo;rw[e,hh,hbo]
    ·simp only[e,if_false]at hbo;exact r.h.keep _ _ hbo
   ·have:x.b≠y.b:=fun e=>hne (r.h.inj j i x y k2 _ hj hi hg (by simp) hbj hb e);simp only[this,if_false];exact(r.h.sep j x k2 hj hg hbj).1
   ·have:b≠y.b:=fun e=>hy y hb e.symm;simp only[this,if_false];exact hKb
   ·cases hx with
    |row0 h1=>exact .list0
    |row h1 q1 q2 q3=>
     rw[hb]at h1;cases h1;subst hw;refine .list (cs:=ca) (e:=e) (fz:=(0,0)) (by simp) (by rw[Nat.zero_add,hsz];exact Nat.mul_le_mul_right _ (by omega)) q1 q3 fun p j hp hj=> ?_;rw[Nat.zero_add];refine Rel.mono ?_ (hrr p j (by omega) hj) (Homes.le_refl _)
     exact⟨fun b o hbo=>by
      have:b≠y.b:=by intro e;subst e;rw[hGn]at hbo;cases hbo
      simpa[this]using hbo,rfl⟩
theorem RS.frzC{β:Homes}{G K:Kept}{S:St}{a:Act}{w:World}(r:RS β G K S a w){i:Nat}{cs:List V}(hi:S.h[i]? =some (.cells cs))(hu:underL 0 cs=true):∃G',G.ext K G'/\∃K',K.le K'/\RS β G' K' {t:=S.t.map fun v=>killV i (frzVC i cs v),h:=(S.h.map (killB i)).set i .gone,d:=S.d} a w:=by
 have hB:=r.h.blk i _ hi;have hilt:i<S.h.length:=(List.getElem?_eq_some_iff.1 hi).1
 have look:∀ {j:Nat} {k:Blk},((S.h.map (killB i)).set i .gone)[j]? =some k->k≠ .gone->j≠i/\∃k2,S.h[j]? =some k2/\k=killB i k2:=fun {j k} hk hg=>by
  by_cases e:j=i
  ·subst e;rw[List.getElem?_set_self (by simpa using hilt)]at hk;cases hk;exact absurd rfl hg
  ·refine⟨e,?_⟩;rw[sN (Ne.symm e),List.getElem?_map]at hk
   cases hh:S.h[j]? with
   |none=>rw[hh]at hk;cases hk
   |some k2=>rw[hh]at hk;cases hk;exact⟨k2,rfl,rfl⟩
 have hset:∀(z:Hm),β[i]? =some z->β.set i z=β:=fun z hz=>by
  apply List.ext_getElem?;intro j;by_cases e:i=j
  ·subst e;rw[List.getElem?_set_self (by rw[r.h.len];exact hilt),hz]
  ·rw[sN e]
 have hib:i<β.length:=by rw[r.h.len];exact hilt
 have hk:∀ {G':Kept} {v:V} {x:Value},Rel G' β v x->Rel G' β (killV i v) x:=fun {G' v x} hv=>by
  have:=hv.kill i (β[i]);rwa[hset _ (List.getElem?_eq_getElem hib)]at this
 have main:∀(G' K':Kept),G.ext K G'->K.le K'->G'.le K'->(∀b o,K' b=some o->w.heap[b]? =some o)->(∀j x k2,j≠i->S.h[j]? =some k2->k2≠ .gone->β[j]? =some (.lie x)->K' x.b=none)->
   (∀b,K b=none->(∀y,β[i]? =some (.lie y)->y.b≠b)->K' b=none)->(∀off x,(off<=cs.length)->Rel G β (.ref i 0 off) x->Rel G' β (.cref (cs.length-off) fun q=>(cs.drop off).getD q .undef) x)->RS β G' K' {t:=S.t.map fun v=>killV i (frzVC i cs v),h:=(S.h.map (killB i)).set i .gone,d:=S.d} a w:=fun G' K' hGG hKK hGK hkeep hsep hextK hrow=>by
  refine⟨⟨by simp[r.h.len],fun j k hj=> ?_,fun p q xp xq kp kq hp hq gp gq bp bq e=> ?_,fun j x k hj hg hb=> ?_,hkeep,hGK,hKK.same▸r.h.amb,fun j X tr hj=> ?_⟩,by simpa using r.size,fun j=> ?_,r.marks,fun j hj=> ?_⟩
  ·by_cases hg:k=.gone
   ·subst hg;cases(β[j]?.getD .void)<;>trivial
   ·obtain⟨hne,k2,q1,rfl⟩:=look hj hg;have:=((r.h.blk j k2 q1).mono hGG.1 (Homes.le_refl _) (w':=w) fun _ _=>rfl).kill (i:=i) (y:=β[i]) (w':=w) fun _ _=>rfl;rwa[hset _ (List.getElem?_eq_getElem hib)]at this
  ·obtain⟨n1,k1,q1,rfl⟩:=look hp gp;obtain⟨n2,k2,q2,rfl⟩:=look hq gq;exact r.h.inj p q xp xq k1 k2 q1 q2 (killB_ne gp) (killB_ne gq) bp bq e
  ·obtain⟨n1,k1,q1,rfl⟩:=look hj hg;exact⟨hsep j x k1 n1 q1 (killB_ne hg) hb,(r.h.sep j x k1 q1 (killB_ne hg) hb).2⟩
  ·obtain⟨n1,k1,q1,q2⟩:=look hj (by simp);have hk2:k1=.ext X tr:=by cases k1<;>simp[killB]at q2;simp[q2]
   subst hk2;obtain⟨l,E,h1,h2,hbs,h3⟩:=r.h.ext j X tr q1;refine⟨l,E,h1,h2,hbs.trans hKK,fun b hE=>⟨hextK b (h3 b hE).1 fun y hy=>(h3 b hE).2 i y _ hi (by simp) hy,fun q y k3 hq g hbq=> ?_⟩⟩;obtain⟨_,k4,q4,rfl⟩:=look hq g;exact(h3 b hE).2 q y k4 q4 (killB_ne g) hbq
  ·show Rel _ _ ((S.t.map fun v=>killV i (frzVC i cs v)).getD j .undef) _
   have hmap:(S.t.map fun v=>killV i (frzVC i cs v)).getD j .undef=killV i (frzVC i cs (S.t.getD j .undef)):=by
    simp only[gE,List.getElem?_map]
    cases S.t[j]? with
    |none=>rfl
    |some v=>rfl
   rw[hmap];refine hk ?_;have ht:=r.tmp j;generalize S.t.getD j .undef=v at ht
   by_cases hv:∃off,v=.ref i 0 off/\off<=cs.length
   ·obtain⟨off,rfl,ho⟩:=hv;simp only[frzVC,beq_self_eq_true,ho,decide_true,Bool.true_and,cond_true];exact hrow off _ ho ht
   ·have:frzVC i cs v=v:=by
     cases v<;>first|rfl|skip
     rename_i q rr n;by_cases e:q=i/\rr=0/\n<=cs.length
     ·obtain⟨rfl,rfl,e⟩:=e;exact absurd ⟨n,rfl,e⟩ hv
     ·have:(q==i&&(rr==0&&decide (n<=cs.length)))=false:=by rw[Bool.eq_false_iff];simpa using e
      simp only[frzVC,this,cond_false]
    rw[this];exact ht.mono hGG.1 (Homes.le_refl _)
  ·obtain⟨x,h1,h2,h3⟩:=r.mark j hj;have hne:i≠S.d.getD j 0:=by intro e;rw[<-e,hi]at h3;cases h3
   refine⟨x,h1,h2,?_⟩;show((S.h.map (killB i)).set i .gone)[S.d.getD j 0]? =_;rw[sN hne,List.getElem?_map,h3];rfl
 cases hb:β[i]? with
 |none=>rw[List.getElem?_eq_getElem hib]at hb;cases hb
 |some z=>
  rw[hb]at hB
  cases z with
  |void=>exact hB.elim
  |ext l=>exact hB.elim
  |nil=>exact hB.elim
  |lie y=>
   obtain⟨ca,e,hh,hsz,hrr⟩:=hB;have hsepi:=r.h.sep i y _ hi (by simp) hb
   have hGn:G y.b=none:=by
    cases hG:G y.b with
    |none=>rfl
    |some o'=>have:=r.h.gk _ _ hG;rw[hsepi.1]at this;cases this
   refine⟨⟨fun b=>if b=y.b then some (.cells ca e (0,0))else G b,G.amb⟩,⟨⟨fun b o hbo=> ?_,rfl⟩,fun b o hbo=> ?_⟩,⟨fun b=>if b=y.b then some (.cells ca e (0,0))else K b,K.amb⟩,⟨fun b o hbo=> ?_,rfl⟩,main _ _ ⟨⟨fun b o hbo=> ?_,rfl⟩,fun b o hbo=> ?_⟩ ⟨fun b o hbo=> ?_,rfl⟩ ⟨fun b o hbo=> ?_,r.h.gk.same⟩ (fun b o hbo=> ?_) (fun j x k2 hne hj hg hbj=> ?_) (fun b hKb hy=> ?_) fun n x hn hx=> ?_⟩
   ·have:b≠y.b:=by intro e;subst e;rw[hGn]at hbo;cases hbo
    simpa[this]using hbo
   ·by_cases e:b=y.b
    ·right;rw[e];exact hsepi.1
    ·simp only[e,if_false]at hbo;exact .inl hbo
   ·have:b≠y.b:=by intro e;subst e;rw[hsepi.1]at hbo;cases hbo
    simpa[this]using hbo
   ·have:b≠y.b:=by intro e;subst e;rw[hGn]at hbo;cases hbo
    simpa[this]using hbo
   ·by_cases e:b=y.b
    ·right;rw[e];exact hsepi.1
    ·simp only[e,if_false]at hbo;exact .inl hbo
   ·have:b≠y.b:=by intro e;subst e;rw[hsepi.1]at hbo;cases hbo
    simpa[this]using hbo
   ·by_cases e:b=y.b
    ·simp only[e,if_true]at hbo⊢;exact hbo
    ·simp only[e,if_false]at hbo⊢;exact r.h.gk _ _ hbo
   ·by_cases e:b=y.b
    ·simp only[e,if_true]at hbo;rw[e,hh,hbo]
    ·simp only[e,if_false]at hbo;exact r.h.keep _ _ hbo
   ·have:x.b≠y.b:=fun e=>hne (r.h.inj j i x y k2 _ hj hi hg (by simp) hbj hb e);simp only[this,if_false];exact(r.h.sep j x k2 hj hg hbj).1
   ·have:b≠y.b:=fun e=>hy y hb e.symm;simp only[this,if_false];exact hKb
   ·cases hx with
    |ref h1=>
     rw[hb]at h1;cases h1;rw[Nat.zero_mul,Nat.zero_add];refine .cref (cs:=ca) (e:=e) (fz:=(0,0)) (by simp) (by omega) fun j hj=> ?_;rw[show(cs.drop n).getD j .undef=cs.getD (n+j) .undef by simp[gE]];refine Rel.mono ?_ ((hrr (n+j) (by omega)).imm (underL_getD hu _)) (Homes.le_refl _)
     exact⟨fun b o hbo=>by
      have:b≠y.b:=by intro e;subst e;rw[hGn]at hbo;cases hbo
      simpa[this]using hbo,rfl⟩
theorem RS.frz{β:Homes}{G K:Kept}{S S':St}{a:Act}{w:World}(r:RS β G K S a w){i:Nat}(h:frzS S i=some (true,S')):∃G',G.ext K G'/\∃K',K.le K'/\RS β G' K' S' a w:=by
 unfold frzS at h;split at h
 ·rename_i hi;exact r.frzR hi h
 ·rename_i hi;simp only[sJ,Prod.mk.injEq]at h;obtain⟨hu,rfl⟩:=h;exact r.frzC hi hu
 ·cases h
def HCalls(P:Program)(f:FuncId)(args:List V)(v:V)(h h':List Blk):Prop:=
 (∀xs w,(callFunc f xs).run P w=.ok (.enter f xs) w)/\
 ∀β G K w (xs:Array Value),RH β G K h w->args.length=xs.size->(∀j,j<args.length->Rel G β (args.getD j .undef) (xs.getD j Go.undef))->
  Calls P f xs w fun e w'=>∃x β' G' K',e=.returned x/\β.le β'/\G.ext K G'/\K.le K'/\RH β' G' K' h' w'/\Rel G' β' v x
def YSpec(P:Program)(X:Ext):Prop:=
 ∀(l:Nat) (tr:List V) (E:Kept) (w:World) (us:List V) (xs:Array Value) (Kf:Kept),X.I l tr E w->X.go tr=true->tr++ [.tuple us]<+:X.ys->X.base.le Kf->(∀b o,Kf b=some o->w.heap[b]? =some o)->Kf.amb.ok w->(∀b,Kf b≠none->E b=none)->
  us.length=xs.size->plainL us=true->(∀j,j<us.length->Rel ⟨fun _=>none,X.base.amb⟩ [] (us.getD j .undef) (xs.getD j Go.undef))->
  YieldAt Fence.wide 0 P l xs w fun e w'=>∃E',e=.returned (.bool (X.go (tr++ [.tuple us])))/\X.I l (tr++ [.tuple us]) E' w'/\(∀b o,Kf b=some o->w'.heap[b]? =some o)/\(∀b,E' b≠none->Kf b=none)/\Kf.amb.ok w'
def isExt:Blk->Bool
 |.ext _ _=>true
 |_=>false
section
variable {P:Program} {ro:Env} {ops:Array Oper} {S:St} {Q:Exit->St->Prop}
theorem AOps.hcall{i:Nat}{is:List Nat}{o:Oper}{fo:Operand}{args:Array Operand}{ts:Array TypeId}{g:FuncId}{first caps:List V}{v:V}{h':List Blk}(hi:ops[i]? =some o)(hw:wantedV ops S o=some true)
  (ho:o.op=.call {callee:=.value fo,args:=args,argTypes:=ts}) (hf:fnOf (S.eval fo)=some (g,first,caps)) (hc:HCalls P g (callArgs S first caps args) v S.h h') (hd:∀j,j∈S.d->h'[j]? =some (.obj (.deferred (some []))))
  (rest:AOps P ro ops is (St.put {S with h:=h'} o.dst v) Q):AOps P ro ops (i::is) S Q:=fun β G K a w r=>by
 simp only[wpOpsIn,hi,wanted_ok r hw,if_true,Oper.wpIn];refine⟨fun _ _=>trivial,?_⟩;have hfv:=r.eval fo
 obtain⟨f',c',hfe,hfl,hcl,hff,hcc⟩:∃f' c',a.eval fo=.func (.func g) f' c'/\first.length=f'.size/\caps.length=c'.size/\(∀j,j<first.length->Rel G β (first.getD j .undef) (f'.getD j Go.undef))/\(∀j,j<caps.length->Rel G β (caps.getD j .undef) (c'.getD j Go.undef)):=by
  unfold fnOf at hf;split at hf
  ·rename_i f a1 b1 he;cases hf;rw[he]at hfv;generalize a.eval fo=x at hfv
   cases hfv with
   |func h1 h2 h3 h4=>exact⟨_,_,rfl,h1,h2,h3,h4⟩
  ·cases hf
 have hsem:(o.semAt ro.ro a.eval).run P w=.ok (.enter g (f'++args.map a.eval++c')) w:=by
  rw[Oper.semAt_eq _ _ _ (by rw[ho];simp)];simp only[execOp,ho,resolve,hfe,Deferred.ofValue,Sem.run_bind,Sem.run_pure,Result.andThen_ok,invoke,hc.1]
 rw[hsem];refine⟨fun h=>by simp[wide,Fence.wide]at h,?_⟩
 have hmid:∀j,j<(args.toList.map S.eval).length->Rel G β ((args.toList.map S.eval).getD j .undef) ((args.map a.eval).getD j Go.undef):=fun j hj=>by
  have hj':j<args.size:=by simpa using hj
  simpa[gE,aG,hj']using r.eval args[j]
 have hrel:∀j,j<(callArgs S first caps args).length->Rel G β ((callArgs S first caps args).getD j .undef) ((f'++args.map a.eval++c').getD j Go.undef):=
  rel_append (by simp[hfl]) hcl (rel_append hfl (by simp) hff hmid) hcc
 have hlen:(callArgs S first caps args).length=(f'++args.map a.eval++c').size:=by simp[callArgs,hfl,hcl]
 refine(callsIn_wide (n:=0-1)).2 ((hc.2 β G K w _ r.h hlen hrel).mono ?_);rintro e w' ⟨x,β',G',K',rfl,h1,h2,h3,h4,h5⟩
 have r1:RS β' G' K' {S with h:=h'} a w':=⟨h4,r.size,fun j=>(r.tmp j).mono h2.1 h1,r.marks,fun j hj=>by
  have hj':j<S.d.length:=hj;obtain⟨y,q1,q2,q3⟩:=r.mark j hj';refine⟨y,h1 _ _ (by simp) q1,q2,hd _ ?_⟩
  rw[gE,List.getElem?_eq_getElem hj'];exact List.getElem_mem hj'⟩
 exact mono_ops (fun e a w hp=>hp.up (h1.low _) h2 h3) (rest β' G' K' _ w' (r1.put h5 o.dst))
theorem AOps.yield{i:Nat}{is:List Nat}{o:Oper}{fo:Operand}{args:Array Operand}{ts:Array TypeId}{q:Nat}{X:Ext}{tr us:List V}(hi:ops[i]? =some o)(hw:wantedV ops S o=some true)
  (ho:o.op=.call {callee:=.value fo,args:=args,argTypes:=ts}) (hf:S.eval fo=.yld q) (hq:S.h[q]? =some (.ext X tr)) (hul:us.length=args.size) (hus:∀j,j<us.length->VLe ((args.toList.map S.eval).getD j .undef) (us.getD j .undef)) (hpl:plainL us=true) (hgo:X.go tr=true) (hpre:tr++ [.tuple us]<+:X.ys) (hY:YSpec P X)
  (hone:((S.h.set q .gone).any isExt)=false) (hd:∀j,j∈S.d->∃x,S.h[j]? =some (.obj x))
  (rest:AOps P ro ops is (St.put {S with h:=S.h.set q (.ext X (tr++ [.tuple us]))} o.dst (.bool (X.go (tr++ [.tuple us])))) Q):AOps P ro ops (i::is) S Q:=fun β G K a w r=>by
 simp only[wpOpsIn,hi,wanted_ok r hw,if_true,Oper.wpIn];refine⟨fun _ _=>trivial,?_⟩;have hfv:=r.eval fo;rw[hf]at hfv;obtain⟨l,E,hl,hI,hbs,hE⟩:=r.h.ext q X tr hq
 have hfe:a.eval fo=.func (.yield l) #[] #[]:=by
  generalize a.eval fo=x at hfv
  cases hfv with
  |yld h=>rw[hl]at h;cases h;rfl
 let Kf:Kept:=⟨fun b=>match K b with
  |some o=>some o
  |none=>(open Classical in if∃(j:Nat) (x:Home) (k:Blk),S.h[j]? =some k/\k≠ .gone/\β[j]? =some (.lie x)/\x.b=b then w.heap[b]? else none),K.amb⟩
 have kf1:∀b o,Kf b=some o->w.heap[b]? =some o:=fun b o hb=>by
  simp only[Kf]at hb;split at hb
  ·rename_i o' hK;cases hb;exact r.h.keep _ _ hK
  ·split at hb
   ·exact hb
   ·cases hb
 have kf2:∀b,Kf b≠none->E b=none:=fun b hb=>by
  cases hEb:E b with
  |none=>rfl
  |some o'=>
   exfalso
   have hE':=hE b (by rw[hEb];simp);apply hb;simp only[Kf,hE'.1];rw[if_neg];rintro⟨j,x,k,q1,q2,q3,q4⟩
   exact hE'.2 j x k q1 q2 q3 q4
 have kfh:∀(j:Nat) (x:Home) (k:Blk),S.h[j]? =some k->k≠ .gone->β[j]? =some (.lie x)->Kf x.b=w.heap[x.b]? :=fun j x k q1 q2 q3=>by
  simp only[Kf,(r.h.sep j x k q1 q2 q3).1];rw[if_pos ⟨j,x,k,q1,q2,q3,rfl⟩]
 have hlen:us.length=(args.map a.eval).size:=by rw[hul];simp
 have hrel:∀j,j<us.length->Rel ⟨fun _=>none,X.base.amb⟩ [] (us.getD j .undef) ((args.map a.eval).getD j Go.undef):=fun j hj=>by
  have hj':j<args.size:=by rw[hlen]at hj;simpa using hj
  have:Rel G β (us.getD j .undef) ((args.map a.eval).getD j Go.undef):=by
   refine hus j hj _ _ _ ?_;simpa[gE,aG,hj']using r.eval args[j]
  exact this.plain (plainL_getD hpl j) _ _
 obtain⟨fn,tmps,assign,body,hy1,hy2⟩:=hY l tr E w us (args.map a.eval) Kf hI hgo hpre ⟨fun b o hb=>by simp only[Kf,hbs b o hb],hbs.same⟩ kf1 r.h.amb kf2 hlen hpl hrel
 have hsem:(o.semAt ro.ro a.eval).run P w=.ok (.round l fn tmps assign body) w:=by
  rw[Oper.semAt_eq _ _ _ (by rw[ho];simp)];simp only[execOp,ho,resolve,hfe,Deferred.ofValue,Sem.run_bind,Sem.run_pure,Result.andThen_ok,invoke];simpa using hy1
 rw[hsem];refine⟨fun h=>by simp[wide,Fence.wide]at h,?_⟩;have hy3:RoundIn (wide ro) (0-1) P l fn tmps assign body w _:=hy2;refine hy3.mono ?_;rintro e w' ⟨E',rfl,h1,h2,h3,h4⟩
 have hql:q<S.h.length:=(List.getElem?_eq_some_iff.1 hq).1
 have look:∀ {j:Nat} {k:Blk},(S.h.set q (.ext X (tr++ [.tuple us])))[j]? =some k->(j=q/\k=.ext X (tr++ [.tuple us]))\/(j≠q/\S.h[j]? =some k):=fun {j k} hj=>by
  by_cases e:j=q
  ·subst e;rw[List.getElem?_set_self hql]at hj;cases hj;exact .inl ⟨rfl,rfl⟩
  ·rw[sN (Ne.symm e)]at hj;exact .inr ⟨e,hj⟩
 have r1:RS β G K {S with h:=S.h.set q (.ext X (tr++ [.tuple us]))} a w':=by
  refine⟨⟨by simp[r.h.len],fun j k hj=> ?_,fun p s x y k k' hp hs gp gs bp bs e=> ?_,fun j x k hj hg hb=> ?_,fun b o hb=>h2 b o (by simp only[Kf,hb]),r.h.gk,h4,fun j Y tr' hj=> ?_⟩,r.size,r.tmp,r.marks,fun j hj=> ?_⟩
  ·rcases look hj with⟨rfl,rfl⟩|⟨hne,hj'⟩
   ·rw[hl];trivial
   ·by_cases hg:k=.gone
    ·subst hg;cases(β[j]?.getD .void)<;>trivial
    refine(r.h.blk j k hj').mono G.le_refl (Homes.le_refl _) fun y hy=> ?_
    have hby:β[j]? =some (.lie y):=by
     cases hb:β[j]? with
     |none=>simp[hb]at hy
     |some z=>simp[hb]at hy;rw[hy]
    have e1:=kfh j y k hj' hg hby;have hlt:=(r.h.sep j y k hj' hg hby).2;rw[h2 y.b w.heap[y.b] (by rw[e1];exact Array.getElem?_eq_getElem hlt),Array.getElem?_eq_getElem hlt]
  ·rcases look hp with⟨rfl,rfl⟩|⟨np,hp'⟩
   ·rw[hl]at bp;cases bp
   ·rcases look hs with⟨rfl,rfl⟩|⟨ns,hs'⟩
    ·rw[hl]at bs;cases bs
    ·exact r.h.inj p s x y k k' hp' hs' gp gs bp bs e
  ·rcases look hj with⟨rfl,rfl⟩|⟨hne,hj'⟩
   ·rw[hl]at hb;cases hb
   ·have:=r.h.sep j x k hj' hg hb;have e1:=kfh j x k hj' hg hb;rw[Array.getElem?_eq_getElem this.2]at e1;exact⟨this.1,(Array.getElem?_eq_some_iff.1 (h2 _ _ e1)).1⟩
  ·rcases look hj with⟨rfl,e⟩|⟨hne,hj'⟩
   ·cases e;refine⟨l,E',hl,h1,hbs,fun b hb=>⟨?_,fun s y k hs gs bs e=> ?_⟩⟩
    ·have:=h3 b hb;simp only[Kf]at this
     cases hK:K b with
     |none=>rfl
     |some o'=>rw[hK]at this;cases this
    ·rcases look hs with⟨rfl,rfl⟩|⟨ns,hs'⟩
     ·rw[hl]at bs;cases bs
     ·have e1:=kfh s y k hs' gs bs;have hlt:=(r.h.sep s y k hs' gs bs).2;rw[e]at e1 hlt;rw[h3 b hb,Array.getElem?_eq_getElem hlt]at e1;cases e1
   ·exfalso
    have hmem:(S.h.set q .gone)[j]? =some (.ext Y tr'):=by rw[sN (Ne.symm hne)];exact hj'
    have:=List.any_eq_false.1 hone _ (List.mem_of_getElem? hmem);simp[isExt]at this
  ·obtain⟨x,q1,q2,q3⟩:=r.mark j hj;have hne:q≠S.d.getD j 0:=by intro e;rw[<-e,hq]at q3;cases q3
   refine⟨x,q1,q2,?_⟩;show(S.h.set q _)[S.d.getD j 0]? =_;rw[sN hne];exact q3
 exact rest β G K _ w' (r1.put (.bool _) o.dst)
end
end Ab
