/-
  Part of the proof of the Claim laws. Conditions: those that stand in each theorem.
-/
import Derived.MapKept
import Derived.Maps.RangeRun
import Derived.Laws.CopyRow
import Derived.Laws.IdiomCopy
import Derived.Lib.OthersKept
import Derived.Test.YtdamoemndifpmaaGreatB05
set_option linter.unusedSimpArgs false
set_option linter.unusedVariables false
namespace Ab
open Go
theorem dOK_spec{S:St}(h:dOK S=true):∀j,j∈S.d->∃x,S.h[j]? =some (.obj x):=fun j hj=>by
 have:=List.all_eq_true.1 h j hj;unfold isObj at this;split at this
 ·rename_i x hx;exact⟨x,hx⟩
 ·cases this
theorem marksOK_spec{h:List Blk}{d:List Nat}(hm:marksOK h d=true):∀j,j∈d->h[j]? =some (.obj (.deferred (some []))):=fun j hj=>by
 have:=List.all_eq_true.1 hm j hj;split at this
 ·rename_i ds hd
  cases ds with
  |nil=>exact hd
  |cons a l=>cases this
 ·cases this
section
variable {P:Program} {ro:Env} {ops:Array Oper} {Q:Exit->St->Prop} {Q1:Exit->St->Prop} {L:List Item->St->Prop}
theorem map_some_eq{α β:Type}{f:α->β}{x:Option α}{y:β}(h:x.map f=some y):∃a,x=some a/\f a=y:=by
 cases x with
 |none=>cases h
 |some a=>exact⟨a,rfl,by simpa using h⟩
theorem opG_ok{i:Nat}{is:List Nat}{o:Oper}{S:St}{g:DT}{k:KT}(hi:ops[i]? =some o)(hw:wantedV ops S o=some true)(h:opG P o S g k=some g)(hg:g.holds P ro Q L)
  (hk:∀S' g',k S' g'=some g'->g'.holds P ro Q L->AOps P ro ops is S' Q1):AOps P ro ops (i::is) S Q1:=by
 unfold opG at h;split at h
 case h_2=>cases h
 rename_i ob v h' he;split at h
 case isFalse=>cases h
 rename_i hd
 have hdd:∀j,j∈S.d->h'[j]? =S.h[j]? :=fun j hj=>by
  obtain⟨x,hx⟩:=dOK_spec hd j hj;rw[hx];exact evalOp_keeps_obj he j x hx
 split at h
 ·split at h
  ·obtain⟨r,hr,e⟩:=map_some_eq h;cases e;obtain⟨hb,hg'⟩:=hg;subst hb;exact AOps.step hi hw he hdd (hk _ _ hr hg')
  ·cases h
 ·split at h
  ·rename_i hob;subst hob;exact AOps.step hi hw he hdd (hk _ _ h hg)
  ·cases h
theorem exec1_ok{i:Nat}{is:List Nat}{o:Oper}{S:St}{g:DT}{k:KT}(hi:ops[i]? =some o)(hw:wantedV ops S o=some true)(h:exec1 P ro.m o S g k=some g)(hg:g.holds P ro Q L)
  (hk:∀S' g',k S' g'=some g'->g'.holds P ro Q L->AOps P ro ops is S' Q1):AOps P ro ops (i::is) S Q1:=by
 unfold exec1 at h;split at h
 ·rename_i f args ts hop;split at h
  ·rename_i f0 us0 v ob0 g';split at h
   ·rename_i fid first caps hfn
    split at h
    ·rename_i ob us hs;obtain⟨r,hr,e⟩:=map_some_eq h;cases e;obtain⟨hob,hc,hg'⟩:=hg;subst hob;obtain⟨h1,h2,h3⟩:=snapArgs_ok hs;refine AOps.call_snap (post:=(·=v)) hi hw hop hfn h1 h2 hc ?_ fun u hu=>by subst hu;exact hk _ _ hr hg'
     rcases h3 with h3|h3
     ·exact .inl h3
     ·exact .inr fun u hu=>by subst hu;exact h3
    ·cases h
   ·cases h
  ·rename_i f0 us0 v h0 h' g';split at h
   ·rename_i fid first caps hfn
    split at h
    ·rename_i hm;obtain⟨r,hr,e⟩:=map_some_eq h;cases e;obtain⟨hc,hg'⟩:=hg;exact AOps.hcall hi hw hop hfn hc (marksOK_spec hm) (hk _ _ hr hg')
    ·cases h
   ·cases h
  ·rename_i X0 tr0 us0 us' g';split at h
   ·rename_i q hf;split at h
    ·rename_i X tr hq;split at h
     ·rename_i hc;obtain⟨r,hr,e⟩:=map_some_eq h;cases e;obtain⟨h1,h2,h3,h4⟩:=hc;obtain⟨hgo,hY,hpre,hv,hg'⟩:=hg;exact AOps.yield hi hw hop hf hq h1 hv h2 hgo hpre hY h3 (dOK_spec h4) (hk _ _ hr hg')
     ·cases h
    ·cases h
   ·cases h
  ·cases h
 ·rename_i args ts hop;split at h
  ·rename_i s x t t';split at h
   ·rename_i htt;subst htt;split at h
    ·rename_i ob p v S1 he;split at h
     ·rename_i b p' g';obtain⟨r,hr,e⟩:=map_some_eq h;cases e;obtain⟨hb,hp,hg'⟩:=hg;exact AOps.append hi hw hop he hb hp (hk _ _ hr hg')
     ·cases h
    ·cases h
   ·cases h
  ·cases h
 ·exact opG_ok hi hw h hg hk
theorem execG0_ok{i:Nat}{is:List Nat}{o:Oper}{S:St}{g:DT}{k:KT}(hi:ops[i]? =some o)(hw:wantedV ops S o=some true)(h:execG0 P ro.m o S g k=some g)(hg:g.holds P ro Q L)
  (hk:∀S' g',k S' g'=some g'->g'.holds P ro Q L->AOps P ro ops is S' Q1):AOps P ro ops (i::is) S Q1:=by
 unfold execG0 at h;split at h
 ·rename_i o0 us h0 v h' g';split at h
  ·exact exec1_ok hi hw h hg hk
  split at h
  ·rename_i hc;obtain⟨r,hr,e⟩:=map_some_eq h;simp only[DT.sem.injEq,true_and]at e;obtain⟨rfl,e2,rfl,rfl⟩:=e;obtain⟨hs,hg'⟩:=hg;rw[<-e2]at hs;exact AOps.sem hi hw hc.1 hs (marksOK_spec hc.2) (hk _ _ hr hg')
  ·cases h
 ·rename_i o0 us h0 n vs hs f;split at h
  ·exact exec1_ok hi hw h hg hk
  split at h
  ·rename_i hc;simp only[sJ,DT.semn.injEq,true_and]at h;obtain⟨rfl,e2,rfl,hf⟩:=h;obtain⟨hs',hg'⟩:=hg;rw[<-e2]at hs';refine AOps.semn hi hw hc hs' fun j hj=> ?_;have hfj:=congrFun hf j;have hhj:=hg' j hj;split at hfj
   ·rename_i hm;refine⟨marksOK_spec hm,?_⟩
    cases hkj:k (St.put {S with h:=hs j} o.dst (vs j)) (f j)with
    |none=>rw[hkj]at hfj;rw[<-hfj]at hhj;exact hhj.elim
    |some d=>
     rw[hkj]at hfj;have:d=f j:=hfj;subst this;exact hk _ _ hkj hhj
   ·rw[<-hfj]at hhj;exact hhj.elim
  ·cases h
 ·exact exec1_ok hi hw h hg hk
theorem AOps.frz{S S':St}{Q1:Exit->St->Prop}{i:Nat}{is:List Nat}(hf:frzS S i=some (true,S'))(rest:AOps P ro ops is S' Q1):AOps P ro ops is S Q1:=fun β G K a w r=>by
 obtain⟨G',hG,K',hK,r'⟩:=r.frz hf;exact mono_ops (fun e a w hp=>hp.up (Homes.low_refl _ _) hG hK) (rest β G' K' a w r')
theorem AOps.vle{S:St}{Q1:Exit->St->Prop}{j:Nat}{v:V}{is:List Nat}(hv:VLe (S.t.getD j .undef) v)(rest:AOps P ro ops is {S with t:=S.t.set j v} Q1):AOps P ro ops is S Q1:=fun β G K a w r=>
 rest β G K a w (r.retell (hv _ _ _ (r.tmp j)))
theorem wantedV_keep{S S':St}{o:Oper}(hb:∀d c,S.t.getD d .undef=.bool c->S'.t.getD d .undef=.bool c)(h:wantedV ops S o=some true):wantedV ops S' o=some true:=by
 unfold wantedV at h⊢
 cases hq:o.guard with
 |none=>rfl
 |some q=>
  obtain⟨j,want⟩:=q;rw[hq]at h;simp only at h⊢
  cases hd:(ops[j]?).bind (·.dst)with
  |none=>rw[hd]at h;simp at h
  |some d=>
   rw[hd]at h;simp only at h⊢
   cases hv:S.t.getD d .undef with
   |bool c=>rw[hv]at h;rw[hb d c hv];exact h
   |_=>rw[hv]at h;simp at h
theorem getD_map_bool{t:List V}{f:V->V}(hf:∀c,f (.bool c)=.bool c){d:Nat}{c:Bool}(h:t.getD d .undef=.bool c):(t.map f).getD d .undef=.bool c:=by
 rw[gE]at h⊢;rw[List.getElem?_map]
 cases hq:t[d]? with
 |none=>rw[hq]at h;cases h
 |some v=>rw[hq]at h;simp only[Option.getD_some]at h;subst h;simp[hf]
theorem getD_set_bool{t:List V}{j d:Nat}{v:V}{c:Bool}(hj:notBool (t.getD j .undef)=true)(hd:t.getD d .undef=.bool c):(t.set j v).getD d .undef=.bool c:=by
 by_cases e:d=j
 ·subst e;rw[hd]at hj;cases hj
 ·rw[gE]at hd⊢;rw[sN (Ne.symm e)];exact hd
theorem frzS_bool{S S':St}{i:Nat}{b:Bool}(h:frzS S i=some (b,S')):∀d c,S.t.getD d .undef=.bool c->S'.t.getD d .undef=.bool c:=fun d c hd=>by
 unfold frzS at h;split at h
 ·unfold frzR at h;simp only[sJ,Prod.mk.injEq]at h;obtain⟨_,rfl⟩:=h;exact getD_map_bool (fun _=>rfl) hd
 ·simp only[sJ,Prod.mk.injEq]at h;obtain⟨_,rfl⟩:=h;exact getD_map_bool (fun _=>rfl) hd
 ·cases h
theorem execG_ok'{i:Nat}{is:List Nat}{o:Oper}{k:KT}(hi:ops[i]? =some o)(hk:∀S' g',k S' g'=some g'->g'.holds P ro Q L->AOps P ro ops is S' Q1):
  ∀(n:Nat) (g:DT) (S:St),sizeOf g<=n->wantedV ops S o=some true->execG P ro.m o S g k=some g->g.holds P ro Q L->AOps P ro ops (i::is) S Q1:=by
 intro n
 induction n with
 |zero=>intro g S hs;cases g<;>simp at hs
 |succ n ih=>
  intro g S hs hw h hg;unfold execG at h;split at h
  ·split at h
   ·rename_i b S' hf;obtain⟨r,hr,e⟩:=map_some_eq h;simp only[DT.wait.injEq,true_and,DT.frz.injEq]at e;obtain⟨rfl,rfl⟩:=e;obtain⟨rfl,hg'⟩:=hg;exact AOps.frz hf (ih _ S' (by simp at hs⊢;omega) (wantedV_keep (frzS_bool hf) hw) hr hg')
   ·exact execG0_ok hi hw h hg hk
  ·split at h
   ·rename_i hgd;obtain⟨r,hr,e⟩:=map_some_eq h;simp only[DT.wait.injEq,true_and,DT.vle.injEq]at e;obtain⟨e1,rfl⟩:=e;obtain⟨hv,hg'⟩:=hg;rw[<-e1]at hv;refine AOps.vle hv (ih _ _ (by simp at hs⊢;omega) ?_ hr hg');rcases hgd with hgd|hgd
    ·cases hq:o.guard with|none=>simp[wantedV,hq]|some q=>simp[hq]at hgd
    ·exact wantedV_keep (fun d c hd=>getD_set_bool hgd hd) hw
   ·cases h
  ·exact execG0_ok hi hw h hg hk
theorem execG_ok{i:Nat}{is:List Nat}{o:Oper}{S:St}{g:DT}{k:KT}(hi:ops[i]? =some o)(hw:wantedV ops S o=some true)(h:execG P ro.m o S g k=some g)(hg:g.holds P ro Q L)
  (hk:∀S' g',k S' g'=some g'->g'.holds P ro Q L->AOps P ro ops is S' Q1):AOps P ro ops (i::is) S Q1:=
 execG_ok' hi hk _ g S (Nat.le_refl _) hw h hg
theorem runOpsG_ok{k:KT}(hk:∀S g,k S g=some g->g.holds P ro Q L->Q1 .normal S):∀(is:List Nat) (prev:Option (Nat × Bool)) (S:St) (g:DT),runOpsG P ro.m ops k is prev S g=some g->g.holds P ro Q L->AOps P ro ops is S Q1:=by
 intro is
 induction is with
 |nil=>intro prev S g h hg;exact AOps.nil (hk S g h hg)
 |cons i is ih=>
  intro prev S g h hg;simp only[runOpsG]at h;split at h
  ·cases h
  rename_i o hi;split at h
  ·rename_i hgd;exact execG_ok hi (by simp[wantedV,hgd]) h hg fun S' g' h' hg'=>ih _ S' g' h' hg'
  ·rename_i j want hgd;split at h
   ·split at h
    ·rename_i hw;exact execG_ok hi hw h hg fun S' g' h' hg'=>ih _ S' g' h' hg'
    ·rename_i hw;exact AOps.skip hi hw (ih _ _ _ h hg)
    ·cases h
   ·split at h
    ·cases h
    rename_i d hd;split at h
    ·rename_i b hb
     have wnt:∀c,wantedV ops {S with t:=S.t.set d (.bool c)} o=some (c==want):=fun c=>by
      have hlt:d<S.t.length:=by
       rcases Nat.lt_or_ge d S.t.length with q|q
       ·exact q
       ·rw[gE,List.getElem?_eq_none q]at hb;cases hb
      unfold wantedV;rw[hgd];simp only[hd,gE,List.getElem?_set_self hlt,Option.getD_some]
     have go:∀(c:Bool) (g2:DT),(if want=c then execG P ro.m o {S with t:=S.t.set d (.bool c)} g2 (runOpsG P ro.m ops k is (some (j,want)))else runOpsG P ro.m ops k is (some (j,want)) (St.put {S with t:=S.t.set d (.bool c)} o.dst (.tuple [])) g2)=some g2->g2.holds P ro Q L->
       AOps P ro ops (i::is) {S with t:=S.t.set d (.bool c)} Q1:=fun c g2 h2 hg2=>by
      split at h2
      ·rename_i hwc;exact execG_ok hi (by rw[wnt,hwc];simp) h2 hg2 fun S' g' h' hg'=>ih _ S' g' h' hg'
      ·rename_i hwc;have:(c==want)=false:=by cases c<;>cases want<;>simp_all
       exact AOps.skip hi (by rw[wnt,this]) (ih _ _ _ h2 hg2)
     split at h
     ·rename_i b0 gt gf;split at h
      ·rename_i r1 r2 h1 h2;cases h;exact AOps.split d hb (fun hb'=>go true _ h1 (hg.1 hb')) (fun hb'=>go false _ h2 (hg.2 hb'))
      ·cases h
     ·rename_i c g';obtain⟨r,hr,e⟩:=map_some_eq h;cases e;refine AOps.split d hb (fun hb'=> ?_) (fun hb'=> ?_)
      ·subst hb';exact go true _ hr hg
      ·subst hb';exact go false _ hr hg
     ·cases h
    ·rename_i vs hv;refine AOps.skip hi ?_ (ih _ _ _ h hg);unfold wantedV;rw[hgd];simp only[hd,hv]
    ·cases h
theorem RS.retellB{β:Homes}{G K:Kept}{S:St}{a:Act}{w:World}(r:RS β G K S a w){i:Nat}{e:TypeId}{wd k:Nat}{c c':Nat->Nat->V}(hi:S.h[i]? =some (.rows e wd k c))(hc:∀r j,r<k->j<wd->VLe (c r j) (c' r j)):RS β G K {S with h:=S.h.set i (.rows e wd k c')} a w:=by
 have hil:i<S.h.length:=(List.getElem?_eq_some_iff.1 hi).1
 have look:∀ {j:Nat} {b:Blk},(S.h.set i (.rows e wd k c'))[j]? =some b->(j=i/\b=.rows e wd k c')\/(j≠i/\S.h[j]? =some b):=fun {j b} hj=>by
  by_cases q:j=i
  ·subst q;rw[List.getElem?_set_self hil]at hj;cases hj;exact .inl ⟨rfl,rfl⟩
  ·rw[sN (Ne.symm q)]at hj;exact .inr ⟨q,hj⟩
 have back:∀ {j:Nat} {b:Blk},(S.h.set i (.rows e wd k c'))[j]? =some b->b≠ .gone->∃b',S.h[j]? =some b'/\b'≠ .gone:=fun {j b} hj hb=>by
  rcases look hj with⟨rfl,rfl⟩|⟨_,h⟩
  ·exact⟨_,hi,by simp⟩
  ·exact⟨_,h,hb⟩
 refine⟨⟨by simpa using r.h.len,fun j b hj=> ?_,fun p q x y b b' hp hq gp gq bp bq hxy=> ?_,fun j x b hj hg hb=> ?_,r.h.keep,r.h.gk,r.h.amb,fun j X tr hj=> ?_⟩,r.size,r.tmp,r.marks,fun j hj=> ?_⟩
 ·rcases look hj with⟨rfl,rfl⟩|⟨_,h⟩
  ·have hB:=r.h.blk _ _ hi;revert hB
   cases β[j]?.getD .void with
   |void=>exact id
   |nil=>exact id
   |ext l=>exact id
   |lie y=>
    rintro⟨h0,hn,hcm,ca,h1,h2,h3,h4,h5⟩
    exact⟨h0,hn,hcm,ca,h1,h2,h3,h4,fun q j hq hj=>hc q j hq hj _ _ _ (h5 q j hq hj)⟩
  ·exact r.h.blk _ _ h
 ·obtain⟨b1,q1,g1⟩:=back hp gp;obtain⟨b2,q2,g2⟩:=back hq gq;exact r.h.inj p q x y b1 b2 q1 q2 g1 g2 bp bq hxy
 ·obtain⟨b1,q1,g1⟩:=back hj hg;exact r.h.sep j x b1 q1 g1 hb
 ·rcases look hj with⟨_,h⟩|⟨_,h⟩
  ·cases h
  ·obtain⟨l,E,h1,h2,h3,h4⟩:=r.h.ext j X tr h;refine⟨l,E,h1,h2,h3,fun b hE=>⟨(h4 b hE).1,fun q y k1 hq g hbq=> ?_⟩⟩;obtain⟨b1,q1,g1⟩:=back hq g;exact(h4 b hE).2 q y b1 q1 g1 hbq
 ·obtain⟨x,h1,h2,h3⟩:=r.mark j hj;have hne:i≠S.d.getD j 0:=by intro e;rw[<-e,hi]at h3;cases h3
  refine⟨x,h1,h2,?_⟩;show(S.h.set i _)[S.d.getD j 0]? =_;rw[sN hne];exact h3
theorem RH.swap{h:List Blk}{β:Homes}{G K:Kept}{w:World}(r:RH β G K h w){i:Nat}{k k':Blk}(hi:h[i]? =some k)(hk:k≠ .gone)(he:isExt k'=false)(hb:BlkOK G β w k' (β[i]?.getD .void)):RH β G K (h.set i k') w:=by
 have hil:i<h.length:=(List.getElem?_eq_some_iff.1 hi).1
 have look:∀ {j:Nat} {b:Blk},(h.set i k')[j]? =some b->(j=i/\b=k')\/(j≠i/\h[j]? =some b):=fun {j b} hj=>by
  by_cases q:j=i
  ·subst q;rw[List.getElem?_set_self hil]at hj;cases hj;exact .inl ⟨rfl,rfl⟩
  ·rw[sN (Ne.symm q)]at hj;exact .inr ⟨q,hj⟩
 have back:∀ {j:Nat} {b:Blk},(h.set i k')[j]? =some b->b≠ .gone->∃b',h[j]? =some b'/\b'≠ .gone:=fun {j b} hj hb=>by
  rcases look hj with⟨rfl,rfl⟩|⟨_,h⟩
  ·exact⟨_,hi,hk⟩
  ·exact⟨_,h,hb⟩
 refine⟨by simpa using r.len,fun j b hj=> ?_,fun p q x y b b' hp hq gp gq bp bq hxy=> ?_,fun j x b hj hg hb=> ?_,r.keep,r.gk,r.amb,fun j X tr hj=> ?_⟩
 ·rcases look hj with⟨rfl,rfl⟩|⟨_,h⟩
  ·exact hb
  ·exact r.blk _ _ h
 ·obtain⟨b1,q1,g1⟩:=back hp gp;obtain⟨b2,q2,g2⟩:=back hq gq;exact r.inj p q x y b1 b2 q1 q2 g1 g2 bp bq hxy
 ·obtain⟨b1,q1,g1⟩:=back hj hg;exact r.sep j x b1 q1 g1 hb
 ·rcases look hj with⟨_,h⟩|⟨_,h⟩
  ·subst h;simp[isExt]at he
  ·obtain⟨l,E,h1,h2,h3,h4⟩:=r.ext j X tr h;refine⟨l,E,h1,h2,h3,fun b hE=>⟨(h4 b hE).1,fun q y k1 hq g hbq=> ?_⟩⟩;obtain⟨b1,q1,g1⟩:=back hq g;exact(h4 b hE).2 q y b1 q1 g1 hbq
theorem RS.retellL{β:Homes}{G K:Kept}{S:St}{a:Act}{w:World}(r:RS β G K S a w){i:Nat}{e:TypeId}{wd k r0 j0:Nat}{c c':Nat->Nat->V}{v:V}(hi:S.h[i]? =some (.rowsL e wd k c r0 j0 v))(hv:v.under 0=true)
  (hc:∀r j,r<k->j<wd->VLe (if r=r0/\j=j0 then v else c r j) (c' r j)):RS β G K {S with h:=S.h.set i (.rows e wd k c')} a w:=by
 have hB:=r.h.blk _ _ hi;refine⟨r.h.swap hi (by simp) rfl ?_,r.size,r.tmp,r.marks,fun j hj=> ?_⟩
 ·revert hB
  generalize β[i]?.getD .void=z
  cases z with
  |void=>exact fun h=>h.elim
  |nil=>exact fun h=>h.elim
  |ext l=>exact fun h=>h.elim
  |lie y=>
   rintro⟨h0,hn,hcm,ca,h1,h2,h3,h4,h5,h6,h7,h8⟩
   refine⟨h0,hn,hcm,ca,h1,h2,h3,h4,fun q j hq hj=>hc q j hq hj _ _ _ ?_⟩;by_cases e:q=r0/\j=j0
   ·obtain⟨rfl,rfl⟩:=e;simp only[and_self,if_true];exact h8.imm hv
   ·simp only[e,if_false]
    exact h5 q j hq hj (by
     by_cases q1:q=r0
     ·exact .inr fun q2=>e ⟨q1,q2⟩
     ·exact .inl q1)
 ·obtain⟨x,h1,h2,h3⟩:=r.mark j hj;have hne:i≠S.d.getD j 0:=by intro e;rw[<-e,hi]at h3;cases h3
  refine⟨x,h1,h2,?_⟩;show(S.h.set i _)[S.d.getD j 0]? =_;rw[sN hne];exact h3
theorem RS.retellC{β:Homes}{G K:Kept}{S:St}{a:Act}{w:World}(r:RS β G K S a w){i:Nat}{cs cs':List V}(hi:S.h[i]? =some (.cells cs))(hl:cs'.length=cs.length)(hc:∀j,j<cs.length->VLe (cs.getD j .undef) (cs'.getD j .undef)):RS β G K {S with h:=S.h.set i (.cells cs')} a w:=by
 have hil:i<S.h.length:=(List.getElem?_eq_some_iff.1 hi).1
 have look:∀ {j:Nat} {b:Blk},(S.h.set i (.cells cs'))[j]? =some b->(j=i/\b=.cells cs')\/(j≠i/\S.h[j]? =some b):=fun {j b} hj=>by
  by_cases q:j=i
  ·subst q;rw[List.getElem?_set_self hil]at hj;cases hj;exact .inl ⟨rfl,rfl⟩
  ·rw[sN (Ne.symm q)]at hj;exact .inr ⟨q,hj⟩
 have back:∀ {j:Nat} {b:Blk},(S.h.set i (.cells cs'))[j]? =some b->b≠ .gone->∃b',S.h[j]? =some b'/\b'≠ .gone:=fun {j b} hj hb=>by
  rcases look hj with⟨rfl,rfl⟩|⟨_,h⟩
  ·exact⟨_,hi,by simp⟩
  ·exact⟨_,h,hb⟩
 refine⟨⟨by simpa using r.h.len,fun j b hj=> ?_,fun p q x y b b' hp hq gp gq bp bq hxy=> ?_,fun j x b hj hg hb=> ?_,r.h.keep,r.h.gk,r.h.amb,fun j X tr hj=> ?_⟩,r.size,r.tmp,r.marks,fun j hj=> ?_⟩
 ·rcases look hj with⟨rfl,rfl⟩|⟨_,h⟩
  ·have hB:=r.h.blk _ _ hi;revert hB
   cases β[j]?.getD .void with
   |void=>exact id
   |nil=>exact id
   |ext l=>exact id
   |lie y=>
    rintro⟨ca,e,h1,h2,h3⟩
    exact⟨ca,e,h1,by rw[h2,hl],fun q hq=>hc q (by omega) _ _ _ (h3 q (by omega))⟩
  ·exact r.h.blk _ _ h
 ·obtain⟨b1,q1,g1⟩:=back hp gp;obtain⟨b2,q2,g2⟩:=back hq gq;exact r.h.inj p q x y b1 b2 q1 q2 g1 g2 bp bq hxy
 ·obtain⟨b1,q1,g1⟩:=back hj hg;exact r.h.sep j x b1 q1 g1 hb
 ·rcases look hj with⟨_,h⟩|⟨_,h⟩
  ·cases h
  ·obtain⟨l,E,h1,h2,h3,h4⟩:=r.h.ext j X tr h;refine⟨l,E,h1,h2,h3,fun b hE=>⟨(h4 b hE).1,fun q y k1 hq g hbq=> ?_⟩⟩;obtain⟨b1,q1,g1⟩:=back hq g;exact(h4 b hE).2 q y b1 q1 g1 hbq
 ·obtain⟨x,h1,h2,h3⟩:=r.mark j hj;have hne:i≠S.d.getD j 0:=by intro e;rw[<-e,hi]at h3;cases h3
  refine⟨x,h1,h2,?_⟩;show(S.h.set i _)[S.d.getD j 0]? =_;rw[sN hne];exact h3
theorem frObs_all{rs:List FR}(h:frObs rs=true):rs.all (·.1)=true:=by
 induction rs with
 |nil=>rfl
 |cons r rs ih=>simp only[frObs,Bool.and_eq_true]at h;simp only[List.all_cons,h.1,ih h.2,Bool.and_self]
theorem frCallsV_spec{h:List Blk}{rs:List FR}{cs:List (Nat × FuncId × List V × V)}:∀(is:List Nat) (cs':List (Nat × FuncId × List V × V)),frCallsV h rs cs is=some (true,cs')->(∀c∈cs',PCalls P c.2.1 c.2.2.1 (·=c.2.2.2))->
  ∀i∈is,∀g args,(rs.getD i fr0).2.2.2=some (g,args)->∃us,args.length=us.length/\(∀j,j<us.length->Snap h (args.getD j .undef) (us.getD j .undef))/\PCalls P g us (·=crOf cs i)/\(us=args/\underL 0 us=true\/(crOf cs i).plain=true):=by
 intro is
 induction is with
 |nil=>intro cs' _ _ i hi;cases hi
 |cons i0 is ih=>
  intro cs' hc hp i hi g args hga;simp only[frCallsV]at hc;split at hc
  ·rename_i hn;rcases List.mem_cons.1 hi with rfl|hi'
   ·rw[hn]at hga;cases hga
   ·exact ih _ hc hp i hi' g args hga
  ·rename_i f0 args0 hn;split at hc
   ·rename_i ob us o2 l hs hl;simp only[sJ,Prod.mk.injEq,Bool.and_eq_true]at hc;obtain⟨⟨rfl,rfl⟩,rfl⟩:=hc;rcases List.mem_cons.1 hi with rfl|hi'
    ·rw[hn]at hga;cases hga;obtain⟨h1,h2,h3⟩:=snapArgs_ok hs;exact⟨us,h1,h2,hp _ (List.mem_cons_self ..),h3⟩
    ·exact ih _ hl (fun c hc=>hp c (List.mem_cons_of_mem _ hc)) i hi' g args hga
   ·cases hc
theorem frontGm_ok{id m:Nat}{S:St}{g:DT}{k:KT}(hmx:P.follows .mixedOrders=true)(h:frontGm P ro.m m ops S g k=some g)(hg:g.holds P ro Q L)(hk:∀S g,k S g=some g->g.holds P ro Q L->Q1 .normal S):AWP P ro (.region id ops true) S Q1:=by
 unfold frontGm at h;split at h
 case h_2=>cases h
 rename_i cs ov ob0 g';split at h
 case isFalse=>cases h
 rename_i hc;obtain⟨hd,hback,hf,hm,ht⟩:=hc;split at h
 case h_2=>cases h
 rename_i rs hr;split at h
 case h_2=>cases h
 rename_i obc cs' hcv;obtain⟨r,hr2,e⟩:=map_some_eq h;cases e;obtain⟨hob,hcalls,hg'⟩:=hg;simp only[Bool.and_eq_true]at hob;obtain⟨ho1,rfl⟩:=hob;refine AWP.region_front (m) rs (crOf cs) ov hmx hback hm ht hf (dOK_spec hd) hr (frObs_all ho1) (fun i g args hga=> ?_) (runOpsG_ok hk _ _ _ _ hr2 hg')
 have hlen:rs.length<=m:=by
  have key:∀(is:List Nat) (nb:Nat) (S:St) (rs:List FR),frRun P ops S.h (crOf cs) ov is nb S=some rs->True:=fun _ _ _ _ _=>trivial
  have:∀(is:List Nat) (h0:List Blk) (nb:Nat) (S:St) (rs:List FR),frRun P ops h0 (crOf cs) ov is nb S=some rs->rs.length=is.length:=by
   intro is
   induction is with
   |nil=>intro h0 nb S rs hh;simp only[frRun,sJ]at hh;subst hh;rfl
   |cons i is ih=>
    intro h0 nb S rs hh;simp only[frRun]at hh;split at hh
    ·cases hh
    ·split at hh
     ·split at hh
      ·rename_i rs2 h2;cases hh;simp[ih _ _ _ _ h2]
      ·cases hh
     ·split at hh
      ·split at hh
       ·rename_i rs2 h2;cases hh;simp[ih _ _ _ _ h2]
       ·cases hh
      ·cases hh
     ·cases hh
  rw[this _ _ _ _ _ hr];simp
 have hi:i<m:=by
  rcases Nat.lt_or_ge i rs.length with q|q
  ·omega
  ·rw[gE,List.getElem?_eq_none q]at hga;cases hga
 exact frCallsV_spec (P:=P) _ _ hcv hcalls i (List.mem_range.2 hi) g args hga
theorem frontG_ok{id:Nat}{S:St}{g:DT}{k:KT}(hmx:P.follows .mixedOrders=true)(h:frontG P ro.m ops S g k=some g)(hg:g.holds P ro Q L)(hk:∀S g,k S g=some g->g.holds P ro Q L->Q1 .normal S):AWP P ro (.region id ops true) S Q1:=by
 unfold frontG at h;split at h
 ·rename_i r hr;cases h;exact frontGm_ok hmx hr hg hk
 ·exact frontGm_ok hmx h hg hk
theorem splitG_ok{id:Nat}{S:St}{k:KT}(hmx:P.follows .mixedOrders=true)(hk:∀S g,k S g=some g->g.holds P ro Q L->Q1 .normal S):∀(g:DT),splitG P ro.m ops S k g=some g->g.holds P ro Q L->AWP P ro (.region id ops true) S Q1:=by
 intro g
 induction g with
 |br b gt gf iht ihf=>
  intro h hg;simp only[splitG]at h;split at h
  ·rename_i r1 r2 h1 h2;simp only[sJ,DT.br.injEq,true_and]at h;obtain⟨rfl,rfl⟩:=h
   cases b with
   |true=>exact iht h1 (hg.1 rfl)
   |false=>exact ihf h2 (hg.2 rfl)
  ·cases h
 |_=>intro h hg;exact frontG_ok hmx h hg hk
theorem finG_ok{e:Exit}{S:St}{g:DT}{K:List Item}(h:finG ro.m e S g=some g)(hg:g.holds P ro Q L)(fin:∀T,Q e T->IWP P ro K T Q L):IWP P ro K S Q L:=by
 unfold finG at h;split at h
 ·split at h
  ·rename_i e0 T hm;simp only[sJ,DT.done.injEq]at h;obtain⟨rfl,hT⟩:=h;have hq:Q e (mask T S):=by rw[hT];exact hg
   exact IWP.less (fun β G Kp a w r=>r.masked hm) (fin _ hq)
  ·cases h
 ·cases h
theorem finG_post{e:Exit}{S:St}{g:DT}{β:Homes}{G Kp:Kept}{a:Act}{w:World}(h:finG ro.m e S g=some g)(hg:g.holds P ro Q L)(r:RS β G Kp S a w):∃U β',Homes.low ro.m β β'/\RS β' G Kp U a w/\Q e U:=by
 unfold finG at h;split at h
 ·split at h
  ·rename_i e0 T hm;simp only[sJ,DT.done.injEq]at h;obtain⟨rfl,hT⟩:=h;obtain⟨β',h0,r'⟩:=r.masked hm;exact⟨_,β',h0,r',by rw[hT];exact hg⟩
  ·cases h
 ·cases h
theorem AWP.weak{c:Code}{S:St}{Q':Exit->St->Prop}(h:AWP P ro c S Q)(hq:∀e S' β G K a w,Q e S'->RS β G K S' a w->∃S'' β',Homes.low ro.m β β'/\RS β' G K S'' a w/\Q' e S''):AWP P ro c S Q':=
 fun β G K a w r=>wpIn_mono (h β G K a w r) fun e a' w' ⟨S',β',G',K',h0,h1,h2,r',q⟩=>by
  obtain⟨S2,β2,h3,r2,q2⟩:=hq e S' β' G' K' a' w' q r';exact⟨S2,β2,G',K',h0.trans h3,h1,h2,r2,q2⟩
theorem atG_ok{S:St}{g:DT}{K:List Item}(h:atG ro.m K S g=some g)(hg:g.holds P ro Q L):IWP P ro (startOf K) S Q L:=by
 unfold atG at h;split at h
 ·split at h
  ·rename_i e0 T hm;simp only[sJ,DT.at.injEq]at h;obtain⟨rfl,hT⟩:=h;have hl:L (startOf K) (mask T S):=by rw[hT];exact hg
   exact IWP.less (fun β G Kp a w r=>r.masked hm) (IWP.leaf hl)
  ·cases h
 ·cases h
theorem itemG_ok(hmx:P.follows .mixedOrders=true){rec:List Item->St->DT->Option DT}(ih:∀(K:List Item) (S:St) (g:DT),rec K S g=some g->g.holds P ro Q L->IWP P ro K S Q L)
  {K:List Item} {S:St} {g:DT} (hstep:itemG P ro.m rec K S g=some g) (hg:g.holds P ro Q L):IWP P ro K S Q L:=by
 have kok:∀(K':List Item) (S':St) (g':DT),rec K' S' g'=some g'->g'.holds P ro Q L->IX P ro K' Q L .normal S':=fun K' S' g' h' hg'=>ih K' S' g' h' hg';unfold itemG at hstep;split at hstep
 ·exact finG_ok hstep hg fun T hT=>IWP.nil hT
 ·exact IWP.inBlock (ih _ _ _ hstep hg)
 ·exact IWP.inScope (ih _ _ _ hstep hg)
 ·exact IWP.inLoop (atG_ok hstep hg)
 ·rename_i c K';split at hstep
  ·exact IWP.skip (ih _ _ _ hstep hg)
  ·exact IWP.label (ih _ _ _ hstep hg)
  ·exact IWP.seq (ih _ _ _ hstep hg)
  ·exact IWP.block (ih _ _ _ hstep hg)
  ·exact IWP.scope (ih _ _ _ hstep hg)
  ·exact IWP.loop (atG_ok hstep hg)
  ·rename_i id;split at hstep
   ·rename_i K2 hk;exact IWP.exit hk (ih _ _ _ hstep hg)
   ·rename_i hk;exact finG_ok hstep hg fun T hT=>IWP.exit_out hk hT
  ·exact finG_ok hstep hg fun T hT=>IWP.ret hT
  ·rename_i c x y;split at hstep
   ·rename_i b hb;split at hstep
    ·rename_i b0 gt gf;split at hstep
     ·rename_i r1 r2 h1 h2;cases hstep;exact IWP.cond hb (fun hb'=>ih _ _ _ h1 (hg.1 hb')) (fun hb'=>ih _ _ _ h2 (hg.2 hb'))
     ·cases hstep
    ·rename_i c0 g';obtain⟨r,hr,e⟩:=map_some_eq hstep;cases e;refine IWP.cond hb (fun hb'=> ?_) (fun hb'=> ?_)
     ·subst hb';exact ih _ _ _ hr hg
     ·subst hb';exact ih _ _ _ hr hg
    ·cases hstep
   ·cases hstep
  ·rename_i id ops;split at hstep
   ·rename_i c0 S0 x S' g';obtain⟨r,hr,e⟩:=map_some_eq hstep;simp only[DT.over.injEq,true_and]at e;obtain⟨rfl,rfl,rfl,rfl⟩:=e;obtain⟨hw,hg'⟩:=hg;refine IWP.code (hw.weak ?_);rintro e T β G Kp a w ⟨rfl,rfl⟩ rs
    exact⟨T,β,Homes.low_refl _ _,rs,ih _ _ _ hr hg'⟩
   ·exact IWP.code (AWP.region (runOpsG_ok (Q1:=IX P ro K' Q L) (kok K') _ _ _ _ hstep hg))
  ·rename_i id ops;split at hstep
   ·rename_i c0 S0 x S' g';obtain⟨r,hr,e⟩:=map_some_eq hstep;simp only[DT.over.injEq,true_and]at e;obtain⟨rfl,rfl,rfl,rfl⟩:=e;obtain⟨hw,hg'⟩:=hg;refine IWP.code (hw.weak ?_);rintro e T β G Kp a w ⟨rfl,rfl⟩ rs
    exact⟨T,β,Homes.low_refl _ _,rs,ih _ _ _ hr hg'⟩
   ·exact IWP.code (splitG_ok (Q1:=IX P ro K' Q L) hmx (kok K') _ hstep hg)
  ·rename_i f ps az body;split at hstep
   ·rename_i c0 S0 x S' g';obtain⟨r,hr,e⟩:=map_some_eq hstep;simp only[DT.over.injEq,true_and]at e;obtain⟨rfl,rfl,rfl⟩:=e;obtain⟨hw,hg'⟩:=hg;refine IWP.code (hw.weak ?_);rintro e T β G Kp a w ⟨rfl,rfl⟩ rs
    split at hr
    ·exact⟨T,β,Homes.low_refl _ _,rs,ih _ _ _ hr hg'⟩
    ·obtain⟨U,β',h0,rs',hq⟩:=finG_post hr hg' rs;exact⟨U,β',h0,rs',hq⟩
    ·rename_i id;split at hr
     ·rename_i K2 hk;exact⟨T,β,Homes.low_refl _ _,rs,by simp only[IX,hk];exact ih _ _ _ hr hg'⟩
     ·rename_i hk;obtain⟨U,β',h0,rs',hq⟩:=finG_post hr hg' rs;exact⟨U,β',h0,rs',by simp only[IX,hk];exact hq⟩
    ·cases hr
   ·cases hstep
  ·cases hstep
 ·cases hstep
theorem runG_ok(hmx:P.follows .mixedOrders=true):∀(n:Nat) (K:List Item) (S:St) (g:DT),runG P ro.m n K S g=some g->g.holds P ro Q L->IWP P ro K S Q L:=by
 intro n
 induction n with
 |zero=>intro K S g h;simp[runG]at h
 |succ n ih=>
  intro K S g h hg;by_cases hown:∃j e w g',g=.own j e w g'
  ·obtain⟨j,e,w,g',rfl⟩:=hown;simp only[runG]at h;split at h
   ·rename_i S' ho;obtain⟨r,hr,e⟩:=map_some_eq h;cases e;exact IWP.less (fun β G Kp a w r=>⟨_,(Homes.le_append _ _).low _,r.own ho⟩) (ih K S' g' hr hg)
   ·cases h
  by_cases hfrz:∃i b g',g=.frz i b g'
  ·obtain⟨i,b,g',rfl⟩:=hfrz;simp only[runG]at h;split at h
   ·rename_i b' S' ho;obtain⟨r,hr,e⟩:=map_some_eq h;cases e;obtain⟨hb,hg'⟩:=hg;subst hb;have:=ih K S' g' hr hg'
    exact fun β G Kp a w r b k cs hro hb hrm=>by
     obtain⟨G',hG,K',hK,r'⟩:=r.frz ho;rcases this _ G' K' a w r' b k cs hro hb hrm with⟨e,a',w',hp,harr⟩|⟨K2,a',w',hp,hs⟩
     ·exact .inl ⟨e,a',w',hp.up (Homes.low_refl _ _) hG hK,harr⟩
     ·exact .inr ⟨K2,a',w',hp.up (Homes.low_refl _ _) hG hK,hs⟩
   ·cases h
  by_cases hvle:∃j v v' g',g=.vle j v v' g'
  ·obtain⟨j,v,v',g',rfl⟩:=hvle;simp only[runG]at h;obtain⟨r,hr,e⟩:=map_some_eq h;simp only[DT.vle.injEq,true_and]at e;obtain⟨hv,rfl⟩:=e;obtain⟨hle,hg'⟩:=hg;refine IWP.less (fun β G Kp a w r=>⟨β,Homes.low_refl _ _,r.retell ?_⟩) (ih K _ _ hr hg');have:=r.tmp j;rw[hv]at this;exact hle _ _ _ this
  by_cases htel:∃i w k c c' g',g=.telb i w k c c' g'
  ·obtain⟨i,w,k,c,c',g',rfl⟩:=htel;simp only[runG]at h;split at h
   ·rename_i e0 w0 k0 c0 hi;obtain⟨r,hr,e⟩:=map_some_eq h;simp only[DT.telb.injEq,true_and]at e;obtain⟨rfl,rfl,rfl,rfl⟩:=e;obtain⟨hle,hg'⟩:=hg;exact IWP.less (fun β G Kp a w r=>⟨β,Homes.low_refl _ _,r.retellB hi hle⟩) (ih K _ _ hr hg')
   ·rename_i e0 w0 k0 c0 r0 j0 v0 hi;split at h
    ·rename_i hv;obtain⟨r,hr,e⟩:=map_some_eq h;simp only[DT.telb.injEq,true_and]at e;obtain⟨rfl,rfl,rfl,rfl⟩:=e;obtain⟨hle,hg'⟩:=hg;exact IWP.less (fun β G Kp a w r=>⟨β,Homes.low_refl _ _,r.retellL hi hv hle⟩) (ih K _ _ hr hg')
    ·cases h
   ·cases h
  by_cases hcas:∃b g1 g2,g=.cas b g1 g2
  ·obtain⟨b,g1,g2,rfl⟩:=hcas;simp only[runG]at h;split at h
   ·rename_i r1 r2 h1 h2;cases h
    cases b with
    |true=>exact ih K S _ h1 (hg.1 rfl)
    |false=>exact ih K S _ h2 (hg.2 rfl)
   ·cases h
  by_cases hdr:∃T g',g=.drop T g'
  ·obtain⟨T,g',rfl⟩:=hdr;simp only[runG]at h;split at h
   ·rename_i hm;obtain⟨r,hr,e⟩:=map_some_eq h;cases e;exact IWP.less (fun β G Kp a w r=>r.masked hm) (ih K _ _ hr hg)
   ·cases h
  by_cases htc:∃i cs cs' g',g=.telc i cs cs' g'
  ·obtain⟨i,cs,cs',g',rfl⟩:=htc;simp only[runG]at h;split at h
   ·rename_i cs0 hi;obtain⟨r,hr,e⟩:=map_some_eq h;simp only[DT.telc.injEq,true_and]at e;obtain⟨rfl,rfl⟩:=e;obtain⟨hl,hle,hg'⟩:=hg;exact IWP.less (fun β G Kp a w r=>⟨β,Homes.low_refl _ _,r.retellC hi hl hle⟩) (ih K _ _ hr hg')
   ·cases h
  by_cases hnv:g=.never
  ·subst hnv;exact hg.elim
  by_cases hwt:∃k g',g=.wait k g'
  ·obtain⟨k,g',rfl⟩:=hwt
   cases k with
   |zero=>
    simp only[runG]at h;obtain⟨r,hr,e⟩:=map_some_eq h;cases e;exact ih K S g' hr hg
   |succ k=>
    simp only[runG]at h;obtain⟨r,hr,e⟩:=map_some_eq h
    have:r=.wait k g':=by
     cases r<;>simp only[bump]at e<;>first|(cases e;rfl)|cases e
    subst this;exact itemG_ok hmx ih hr hg
  have hstep:itemG P ro.m (runG P ro.m n) K S g=some g:=by
   rw[<-h];cases g<;>first|rfl|exact absurd ⟨_,_,_,_,rfl⟩ hown|exact absurd ⟨_,_,_,rfl⟩ hfrz|exact absurd ⟨_,_,_,_,rfl⟩ hvle|exact absurd ⟨_,_,_,_,_,_,rfl⟩ htel|exact absurd ⟨_,_,rfl⟩ hwt|exact absurd ⟨_,_,_,rfl⟩ hcas|exact absurd ⟨_,_,rfl⟩ hdr|exact absurd ⟨_,_,_,_,rfl⟩ htc|exact absurd rfl hnv
  exact itemG_ok hmx ih hstep hg
end
inductive Tr(α ρ:Type) where
 |go (a:α)
 |out (r:ρ)
 |need (b:Bool) (t:Tr α ρ)
 |scal (p:Nat->Bool) (t:Tr α ρ)
 |br (b:Bool) (t f:Tr α ρ)
 |lit (b:Bool) (t:Tr α ρ)
 |call (f:FuncId) (us:List V) (v:V) (ob ok:Bool) (t:Tr α ρ)
 |own (j:Nat) (e:TypeId) (w:Nat) (t:Tr α ρ)
 |frz (i:Nat) (b:Bool) (t:Tr α ρ)
 |front (cs:List (Nat × FuncId × List V × V)) (ov:List (Nat × Bool)) (ob ok:Bool) (t:Tr α ρ)
 |vle (j:Nat) (v v':V) (t:Tr α ρ)
 |telb (i w n:Nat) (c c':Nat->Nat->V) (t:Tr α ρ)
 |wait (k:Nat) (t:Tr α ρ)
 |cas (b:Bool) (t f:Tr α ρ)
 |hcall (f:FuncId) (us:List V) (v:V) (h h':List Blk) (ok:Bool) (t:Tr α ρ)
 |yld (X:Ext) (tr us us':List V) (ok:Bool) (t:Tr α ρ)
 |over (c:Code) (S:St) (x:Exit) (S':St) (ok:Bool) (t:Tr α ρ)
 |sem (o:Op) (us:List (Operand × V)) (h:List Blk) (v:V) (h':List Blk) (ok:Bool) (t:Tr α ρ)
 |semn (o:Op) (us:List (Operand × V)) (h:List Blk) (n:Nat) (vs:Nat->V) (hs:Nat->List Blk) (ok:Bool) (f:Nat->Tr α ρ)
 |drop (T:St) (t:Tr α ρ)
 |telc (i:Nat) (cs cs':List V) (t:Tr α ρ)
 |never
section
variable {α ρ:Type}
def Tr.toD(cfg:α->List Item × St)(fin:ρ->Exit × St):Tr α ρ->DT
 |.go a=>.at (cfg a).1 (cfg a).2
 |.out r=>.done (fin r).1 (fin r).2
 |.need b t=>.need b (t.toD cfg fin)
 |.scal p t=>.scal p (t.toD cfg fin)
 |.br b t f=>.br b (t.toD cfg fin) (f.toD cfg fin)
 |.lit b t=>.lit b (t.toD cfg fin)
 |.call f us v ob _ t=>.call f us v ob (t.toD cfg fin)
 |.own j e w t=>.own j e w (t.toD cfg fin)
 |.frz i b t=>.frz i b (t.toD cfg fin)
 |.front cs ov ob _ t=>.front cs ov ob (t.toD cfg fin)
 |.vle j v v' t=>.vle j v v' (t.toD cfg fin)
 |.telb i w n c c' t=>.telb i w n c c' (t.toD cfg fin)
 |.wait k t=>.wait k (t.toD cfg fin)
 |.cas b t f=>.cas b (t.toD cfg fin) (f.toD cfg fin)
 |.hcall f us v h h' _ t=>.hcall f us v h h' (t.toD cfg fin)
 |.yld X tr us us' _ t=>.yld X tr us us' (t.toD cfg fin)
 |.over c S x S' _ t=>.over c S x S' (t.toD cfg fin)
 |.sem o us h v h' _ t=>.sem o us h v h' (t.toD cfg fin)
 |.semn o us h n vs hs _ f=>.semn o us h n vs hs fun j=>(f j).toD cfg fin
 |.drop T t=>.drop T (t.toD cfg fin)
 |.telc i cs cs' t=>.telc i cs cs' (t.toD cfg fin)
 |.never=>.never
def cuts(K:List Item):Code->List (List Item)
 |.seq a b=>cuts (.code b::K) a++cuts K b
 |.cond _ x y=>cuts K x++cuts K y
 |.block id a=>cuts (.inBlock id::K) a
 |.scope a=>cuts (.inScope a::K) a
 |.loop a=>(.inLoop a::K)::cuts (.inLoop a::K) a
 |_=>[]
def cutOf(fn:Func)(j:Nat):List Item:=(cuts [] (fn.body.getD .skip)).getD j []
def mk(n:Nat)(l:List (Nat × V)):List V:=(List.range n).map fun i=>(l.lookup i).getD .undef
theorem HCalls.of_body{P:Program}{f:FuncId}{fn:Func}{c:Code}{args:List V}{v:V}{h h':List Blk}(hf:P.funcs[f]? =some fn)(hb:fn.body=some c)(hn:(fn.name== "runtime.NumGoroutine")=false)
  (hw:AWP P ⟨none,h.length⟩ c {t:=args++List.replicate (fn.ntmps-args.length) .undef,h:=h,d:=[]} fun e S=>(e=.normal\/e=.ret)/\S.d=[]/\S.h=h'/\resultV P fn S=some v):HCalls P f args v h h':=by
 have hn':¬fn.name= "runtime.NumGoroutine" :=by simpa using hn
 refine⟨fun xs w=>by simp[callFunc,hf,hn',hb],fun β G K w xs rh hl hr=> ?_⟩;refine callsIn_wide.1 (callsIn_of_wp_marks (F:=wide ⟨none,0⟩) (n:=0) hf hb trivial ?_)
 have r:RS β G K {t:=args++List.replicate (fn.ntmps-args.length) .undef,h:=h,d:=[]} {tmps:=xs++Array.replicate (fn.ntmps-xs.size) Go.undef,defers:=[]} w:=by
  refine⟨rh,by simp[hl],fun j=> ?_,rfl,by simp⟩;rcases Nat.lt_or_ge j args.length with h1|h1
  ·rw[getD_append_left h1,agetD_append_left (by omega)];exact hr j h1
  ·rw[getD_append_right h1,agetD_append_right (by omega)]
   have:(List.replicate (fn.ntmps-args.length) V.undef).getD (j-args.length) .undef=.undef:=by
    rw[gE,List.getElem?_replicate];split<;>rfl
   rw[this];exact .undef _
 refine wpIn_mono (hw β G K _ w r) fun e a' w' hp=> ?_;obtain⟨S,β',G',K',h0,hG,hK,r',he,hd,hh,hv⟩:=hp
 have hle:β.le β':=by
  unfold Homes.low at h0;rwa[List.take_of_length_le (by simp only;rw[rh.len];exact Nat.le_refl _)]at h0
 have hdef:a'.defers=[]:=List.eq_nil_of_length_eq_zero (by rw[r'.marks,hd];rfl);obtain⟨x,hx,hrx⟩:=resultV_ok r'.h r'.tmp hv
 have leaves:LeavesInM (wide ⟨none,0⟩) 0 P fn a'.tmps (fun e w'=>∃x β' G' K',e=.returned x/\β.le β'/\G.ext K G'/\K.le K'/\RH β' G' K' h' w'/\Rel G' β' v x) a'.defers .returning w':=by
  rw[hdef];exact⟨x,hx,x,β',G',K',rfl,hle,hG,hK,by rw[<-hh];exact r'.h,hrx⟩
 rcases he with rfl|rfl
 ·exact leaves
 ·exact leaves
end
structure Ty(τ:Type) where
 w:Nat
 cells:τ->List V
 zero:τ
def rowsOf{τ:Type}(E:Ty τ)(l:List τ):Nat->Nat->V:=fun i j=>(E.cells (l.getD i E.zero)).getD j .undef
def rowsRev{τ:Type}(E:Ty τ):List τ->Nat->Nat->V
 |[]=>fun _ _=>.undef
 |x::acc=>appC acc.length (rowsRev E acc) (fun _ j=>(E.cells x).getD j .undef)
abbrev Ty.lst{τ:Type}(E:Ty τ)(l:List τ):V:=.list E.w l.length (rowsOf E l)
theorem VLe.list{w n:Nat}{c c':Nat->Nat->V}(h:∀i j,i<n->j<w->c i j=c' i j):VLe (.list w n c) (.list w n c'):=fun G β x hx=>by
 cases hx with
 |list0=>exact .list0
 |list hG hsz hcap hn hc=>exact .list hG hsz hcap hn fun i j hi hj=>by rw[<-h i j hi hj];exact hc i j hi hj
theorem VLe.nils{w:Nat}{c:Nat->Nat->V}:VLe .nils (.list w 0 c):=fun G β x hx=>by cases hx;exact .list0
theorem rowsRev_get{τ:Type}(E:Ty τ):∀(acc:List τ) (i j:Nat),i<acc.length->rowsRev E acc i j=rowsOf E acc.reverse i j
 |[],i,j,h=>by simp at h
 |x::acc,i,j,h=>by
  simp only[rowsRev,appC];split
  ·rename_i hlt;rw[rowsRev_get E acc i j hlt];simp[rowsOf,gE,aL (show i<acc.reverse.length by simpa using hlt)]
  ·rename_i hge;have:i=acc.length:=by simp at h;omega
   subst this;simp[rowsOf,gE]
theorem VLe.rev{τ:Type}(E:Ty τ)(acc:List τ):VLe (.list E.w acc.length (rowsRev E acc)) (E.lst acc.reverse):=by
 have:=VLe.list (w:=E.w) (n:=acc.length) (c:=rowsRev E acc) (c':=rowsOf E acc.reverse) fun i j hi _=>rowsRev_get E acc i j hi;simpa[Ty.lst]using this
theorem PCalls.vle{P:Program}{f:FuncId}{args args':List V}{post:V->Prop}(h:PCalls P f args post)(hl:args'.length=args.length)(hv:∀j,j<args.length->VLe (args'.getD j .undef) (args.getD j .undef)):PCalls P f args' post:=
 ⟨h.1,fun G w xs hk hlen hr=>h.2 G w xs hk (by omega) fun j hj=>hv j hj _ _ _ (hr j (by omega))⟩
def tint:Ty Int:=⟨1,fun n=>[.int .i64 n],0⟩
def entOf(p:(Int × Int) × Nat):MapEntry:={key:=.int .i64 p.1.1,val:=.int .i64 p.1.2,born:=p.2}
def entsOf(m:List (Int × Int)):Array MapEntry:=(m.zipIdx.map entOf).toArray
def mobj(m:List (Int × Int)):Obj:=.map (entsOf m) m.length
def getM:List (Int × Int)->Int->Int
 |[],_=>0
 |p::m,k=>bif p.1==k then p.2 else getM m k
def setM:List (Int × Int)->Int->Int->List (Int × Int)
 |[],k,v=>[(k,v)]
 |p::m,k,v=>bif p.1==k then(k,v)::m else p::setM m k v
theorem setM_cases(k:Int):∀(m:List (Int × Int)),((∀p,p∈m->p.1≠k)/\getM m k=0/\∀v,setM m k v=m++ [(k,v)])\/∃m1 x m2,m=m1++(k,x)::m2/\(∀p,p∈m1->p.1≠k)/\getM m k=x/\∀v,setM m k v=m1++(k,v)::m2
 |[]=>.inl ⟨by simp,rfl,fun v=>rfl⟩
 |(a,b)::m=>by
  by_cases h:a=k
  ·subst h;exact .inr ⟨[],b,m,rfl,by simp,by simp[getM],fun v=>by simp[setM]⟩
  ·have hk:(a==k)=false:=by simpa using h
   rcases setM_cases k m with⟨h1,h2,h3⟩|⟨m1,x,m2,rfl,h2,h3,h4⟩
   ·exact .inl ⟨by simpa[h]using h1,by simp[getM,hk,h2],fun v=>by simp[setM,hk,h3]⟩
   ·exact .inr ⟨(a,b)::m1,x,m2,rfl,by simpa[h]using h2,by simp[getM,hk,h3],fun v=>by simp[setM,hk,h4]⟩
theorem findNow_none(k:Int):∀(m:List (Int × Int)) (j i:Nat),(∀p,p∈m->p.1≠k)->Instr.findNow (.int .i64) (.int .i64 k) ((m.zipIdx j).map entOf) i=some none
 |[],_,_,_=>rfl
 |(a,b)::m,j,i,h=>by
  have hk:(k==a)=false:=by have:=h (a,b) (by simp);simp;exact fun e=>this e.symm
  simp only[List.zipIdx_cons,List.map_cons,Instr.findNow,entOf,Instr.sameNow,if_true,hk];exact findNow_none k m (j+1) (i+1) fun p hp=>h p (by simp[hp])
theorem findNow_some(k x:Int)(m2:List (Int × Int)):∀(m1:List (Int × Int)) (j i:Nat),(∀p,p∈m1->p.1≠k)->Instr.findNow (.int .i64) (.int .i64 k) (((m1++(k,x)::m2).zipIdx j).map entOf) i=some (some (i+m1.length,.int .i64 x))
 |[],j,i,_=>by simp[Instr.findNow,entOf,Instr.sameNow]
 |(a,b)::m1,j,i,h=>by
  have hk:(k==a)=false:=by have:=h (a,b) (by simp);simp;exact fun e=>this e.symm
  simp only[List.cons_append,List.zipIdx_cons,List.map_cons,Instr.findNow,entOf,Instr.sameNow,if_true,hk];have:=findNow_some k x m2 m1 (j+1) (i+1) fun p hp=>h p (by simp[hp]);rw[this];simp;omega
theorem ents_push(m:List (Int × Int))(k v:Int):(entsOf m).push {key:=.int .i64 k,val:=.int .i64 v,born:=m.length}=entsOf (m++ [(k,v)]):=by
 simp[entsOf,List.zipIdx_append,entOf]
theorem ents_modify(m1 m2:List (Int × Int))(k x v:Int):(entsOf (m1++(k,x)::m2)).modify m1.length (fun e=>{e with key:=.int .i64 k,val:=.int .i64 v})=entsOf (m1++(k,v)::m2):=by
 apply Array.ext
 ·simp[entsOf]
 ·intro i h1 h2;simp only[Array.getElem_modify];simp only[entsOf,List.getElem_toArray,List.getElem_map,List.getElem_zipIdx,Nat.zero_add];split
  ·rename_i e;subst e;simp[entOf]
  ·rename_i e;rcases Nat.lt_or_ge i m1.length with q|q
   ·simp[List.getElem_append_left q]
   ·have:i-m1.length≠0:=by omega
    obtain⟨d,hd⟩:=Nat.exists_eq_succ_of_ne_zero this;rw[List.getElem_append_right q,List.getElem_append_right q];simp[hd]
section
variable {P:Program} {w:World}
theorem run_findKey_int{kt:TypeId}(hk:P.underlying kt=some (.int .i64)){k:Int}{es:List MapEntry}{r:Option (Nat × Value)}(h:Instr.findNow (.int .i64) (.int .i64 k) es 0=some r):(Instr.findKey kt (.int .i64 k) es).run P w=.ok r w:=by
 simp[Instr.findKey,run_underlying' hk,h]
theorem run_checkKey_int{kt:TypeId}(hk:P.underlying kt=some (.int .i64))(b:Bool)(k:Int):(Instr.checkKey b 10000 kt (.int .i64 k)).run P w=.ok () w:=by
 have:∀n,(Instr.checkKey b (n+1) kt (.int .i64 k)).run P w=.ok () w:=fun n=>by
  simp only[Instr.checkKey,Sem.run_bind,run_underlying' hk,Result.andThen_ok];rfl
 exact this 9999
theorem run_lookup_int{t kt et:TypeId}{m:List (Int × Int)}{b:Nat}(k:Int)(ht:P.underlying t=some (.map kt et))(hk:P.underlying kt=some (.int .i64))(hz:(zeroValue et).run P w=.ok (.int .i64 0) w)(hb:w.heap[b]? =some (mobj m)):
  (Instr.lookup t (.map (some b)) (.int .i64 k) false).run P w=.ok (.int .i64 (getM m k)) w:=by
 have hg:(getObj b).run P w=.ok (.map (entsOf m) m.length) w:=MapKept.run_getObj_map hb;simp only[Instr.lookup,Sem.run_bind,run_underlying' ht,Result.andThen_ok,hg,Sem.run_pure,run_checkKey_int hk];rcases setM_cases k m with⟨h1,h2,h3⟩|⟨m1,x,m2,rfl,h2,h3,h4⟩
 ·rw[run_findKey_int hk (r:=none) (by simpa[entsOf]using findNow_none k m 0 0 h1)];simp[hz,h2]
 ·rw[run_findKey_int hk (r:=some (0+m1.length,.int .i64 x)) (by simpa[entsOf]using findNow_some k x m2 m1 0 0 h2)];simp[h3]
theorem run_update_int{t kt et:TypeId}{m:List (Int × Int)}{b:Nat}(k v:Int)(ht:P.underlying t=some (.map kt et))(hk:P.underlying kt=some (.int .i64))(hb:w.heap[b]? =some (mobj m)):
  (Instr.mapUpdate t (.map (some b)) (.int .i64 k) (.int .i64 v)).run P w=.ok () (w.putObj b (mobj (setM m k v))):=by
 have hg:(getObj b).run P w=.ok (.map (entsOf m) m.length) w:=MapKept.run_getObj_map hb;have hs:∀o,(setObj b o).run P w=.ok () (w.putObj b o):=fun o=>MapKept.run_setObj_map o hb;simp only[Instr.mapUpdate,Sem.run_bind,run_underlying' ht,Result.andThen_ok,hg,run_checkKey_int hk];rcases setM_cases k m with⟨h1,h2,h3⟩|⟨m1,x,m2,rfl,h2,h3,h4⟩
 ·rw[run_findKey_int hk (r:=none) (by simpa[entsOf]using findNow_none k m 0 0 h1)];simp[hs,ents_push,h3,mobj]
 ·rw[run_findKey_int hk (r:=some (0+m1.length,.int .i64 x)) (by simpa[entsOf]using findNow_some k x m2 m1 0 0 h2)];have hkey:(entsOf (m1++(k,x)::m2))[0+m1.length]? =some ⟨.int .i64 k,.int .i64 x,m1.length⟩:=by simp[entsOf,entOf,List.zipIdx_append]
  simp only[Result.andThen_ok,hkey,Option.map_some,Option.getD_some,Sem.run_bind]
  have hst:(Instr.keyThatStays (.int .i64 k) (.int .i64 k)).run P w=.ok (.int .i64 k) w:=by
   have:∀n,Instr.sameBits n (.int .i64 k) (.int .i64 k)=true:=fun n=>by cases n<;>simp[Instr.sameBits]
   simp only[Instr.keyThatStays,this,if_true,Sem.run_pure]
  rw[hst];simp only[Result.andThen_ok,hs,Nat.zero_add,ents_modify,h4,mobj];simp
end
section
variable {P:Program} {h:List Blk}
theorem home_obj{β:Homes}{G K:Kept}{w:World}(r:RH β G K h w){q:Nat}{o:Obj}{b:Nat}(hq:h[q]? =some (.obj o))(hm:Rel G β (.map q) (.map (some b))):∃x:Home,β[q]? =some (.lie x)/\x.b=b/\w.heap[b]? =some o:=by
 cases hm with
 |map hi=>
  rename_i x;have:=r.blk q _ hq;rw[hi]at this;exact⟨x,hi,rfl,this⟩
theorem rel_map_inv{G:Kept}{β:Homes}{q:Nat}{x:Value}(h:Rel G β (.map q) x):∃b,x=.map (some b):=by
 cases h with
 |map hi=>exact⟨_,rfl⟩
theorem rel_int_inv{G:Kept}{β:Homes}{k:IntKind}{n:Int}{x:Value}(h:Rel G β (.int k n) x):x=.int k n:=by cases h;rfl
theorem sem_makeMap(t:TypeId):SemOK P (.makeMap t none) [] h (.map h.length) (h++ [.obj (mobj [])]):=fun β G K w ρ' oper ho _ r _=>by
 refine⟨.value (.map (some w.heap.size)),w.alloc (.map #[] 0),β++ [Hm.lie ⟨w.heap.size,0,0⟩],?_,Homes.le_append _ _,r.push rfl (heap_alloc_new w _),.map (ref_new r _ _ _)⟩;simp only[execOp,ho,Sem.run_bind];simp only[Instr.makeMap,newObj];rfl
theorem sem_lookup{t kt et:TypeId}{m:List (Int × Int)}{q:Nat}{x y:Operand}{k:Int}(ht:P.underlying t=some (.map kt et))(hk:P.underlying kt=some (.int .i64))(hz:(P.info? et).bind (·.zero)=some (.int .i64 0))(hq:h[q]? =some (.obj (mobj m))):
  SemOK P (.lookup t x y false) [(x,.map q),(y,.int .i64 k)] h (.int .i64 (getM m k)) h:=fun β G K w ρ' oper ho _ r hr=>by
 obtain⟨b,hb⟩:=rel_map_inv (hr (x,.map q) (by simp));have hy:=rel_int_inv (hr (y,.int .i64 k) (by simp));simp only at hb hy;have h1:=hr (x,.map q) (by simp);rw[hb]at h1;obtain⟨xx,_,_,hh⟩:=home_obj r hq h1
 have hzv:(zeroValue et).run P w=.ok (.int .i64 0) w:=by
  cases hi:P.info? et with
  |none=>simp[hi]at hz
  |some i=>
   cases hz':i.zero with
   |none=>simp[hi,hz']at hz
   |some z=>
    simp[hi,hz']at hz;subst hz;simp only[zeroValue,Sem.run_bind,run_typeInfo' hi,Result.andThen_ok,hz',Sem.run_pure]
 refine opOK_value r ?_ (.int _ _);simp only[execOp,ho,hb,hy,Sem.run_bind,run_lookup_int k ht hk hzv hh,Result.andThen_ok,Sem.run_pure]
theorem sem_update{t kt et:TypeId}{m:List (Int × Int)}{q:Nat}{x y z:Operand}{k v:Int}(ht:P.underlying t=some (.map kt et))(hk:P.underlying kt=some (.int .i64))(hq:h[q]? =some (.obj (mobj m))):
  SemOK P (.mapUpdate t x y z) [(x,.map q),(y,.int .i64 k),(z,.int .i64 v)] h .undef (h.set q (.obj (mobj (setM m k v)))):=fun β G K w ρ' oper ho _ r hr=>by
 obtain⟨b,hb⟩:=rel_map_inv (hr (x,.map q) (by simp));have hy:=rel_int_inv (hr (y,.int .i64 k) (by simp));have hv:=rel_int_inv (hr (z,.int .i64 v) (by simp));simp only at hb hy hv;have h1:=hr (x,.map q) (by simp);rw[hb]at h1;obtain⟨xx,hx,rfl,hh⟩:=home_obj r hq h1;have hlt:=(Array.getElem?_eq_some_iff.1 hh).1;refine⟨.skip,w.putObj xx.b (mobj (setM m k v)),β,?_,Homes.le_refl _,r.write hq (by simp) hx (fun b hb=>World.putObj_heap_other hb) (by simp) (World.putObj_heap_same hlt),rfl⟩
 simp only[execOp,ho,hb,hy,hv,Sem.run_bind,run_update_int k v ht hk hh,Result.andThen_ok,Sem.run_pure]
theorem sem_range{t kt et:TypeId}{m:List (Int × Int)}{q:Nat}{x:Operand}(ht:P.underlying t=some (.map kt et))(hq:h[q]? =some (.obj (mobj m))):
  SemOK P (.range t x) [(x,.map q)] h (.ref h.length 0 0) (h++ [.iter (.map q) m.length #[]]):=fun β G K w ρ' oper ho _ r hr=>by
 obtain⟨b,hb⟩:=rel_map_inv (hr (x,.map q) (by simp));simp only at hb;have h1:=hr (x,.map q) (by simp);rw[hb]at h1;obtain⟨xx,hx,rfl,hh⟩:=home_obj r hq h1;have hg:(getObj xx.b).run P w=.ok (.map (entsOf m) m.length) w:=MapKept.run_getObj_map hh;refine⟨.value (.pointer (some ⟨w.heap.size,0,none⟩)),w.alloc (.mapIter (some xx.b) m.length #[] m.length),β++ [Hm.lie ⟨w.heap.size,0,0⟩],?_,Homes.le_append _ _,r.push rfl ⟨xx.b,h1.mono G.le_refl (Homes.le_append _ _),heap_alloc_new w _⟩,?_⟩
 ·simp only[execOp,ho,hb,Instr.range,Sem.run_bind,run_underlying' ht,Result.andThen_ok,hg,Sem.run_pure,run_newObj,World.alloc_eq]
 ·have:=Rel.ref (G:=G) (r:=0) (off:=0) (ref_new r w.heap.size 0 0);simp only[Nat.zero_mul,Nat.add_zero]at this;exact this
def leftM(n:Nat)(seen:Array Nat):List Nat:=(List.range n).filter fun i=> !seen.contains i
theorem born_lt{m:List (Int × Int)}{x:MapEntry}(hx:x∈(entsOf m).toList):x.born<m.length:=by
 simp only[entsOf]at hx;obtain⟨p,hp,rfl⟩:=List.mem_map.1 hx;have:=List.mem_zipIdx hp;simp[entOf];omega
theorem ent_at{m:List (Int × Int)}{x:MapEntry}(hx:x∈(entsOf m).toList):∃(_:x.born<m.length),x.key=.int .i64 (m.getD x.born (0,0)).1/\x.val=.int .i64 (m.getD x.born (0,0)).2:=by
 simp only[entsOf]at hx;obtain⟨p,hp,rfl⟩:=List.mem_map.1 hx;obtain⟨h1,h2,h3⟩:=List.mem_zipIdx hp;have h2':p.2<m.length:=by omega
 refine⟨h2',?_⟩;have:m.getD p.2 (0,0)=p.1:=by rw[h3];simp[gE,h2']
 simp only[entOf,this,and_self]
theorem left_mem{m:List (Int × Int)}{seen:Array Nat}{e:MapEntry}(h:e∈(leftOf (entsOf m) seen).toList):e∈(entsOf m).toList/\e.born∈leftM m.length seen:=by
 unfold leftOf at h;simp only[Array.toList_filter,List.mem_filter]at h;refine⟨h.1,?_⟩;simp only[leftM,List.mem_filter,List.mem_range];exact⟨born_lt h.1,h.2⟩
theorem left_of_mem{m:List (Int × Int)}{seen:Array Nat}{j:Nat}(h:j∈leftM m.length seen):(leftOf (entsOf m) seen).size≠0:=fun h0=>by
 unfold leftOf at h0;rw[Array.size_eq_zero_iff,Array.filter_eq_empty_iff]at h0;simp only[leftM,List.mem_filter,List.mem_range]at h
 have:entOf (m[j],j)∈entsOf m:=by
  simp only[entsOf,List.mem_toArray,List.mem_map];exact⟨(m[j],j),by rw[List.mem_zipIdx_iff_getElem?];simp,rfl⟩
 exact h0 _ this h.2
theorem homes_iter{β:Homes}{G K:Kept}{w:World}(r:RH β G K h w){m:List (Int × Int)}{q i:Nat}{seen:Array Nat}{p:Value}(hq:h[q]? =some (.obj (mobj m)))(hi:h[i]? =some (.iter (.map q) m.length seen))(hp:Rel G β (.ref i 0 0) p):
  ∃(x:Home) (b:Nat),β[i]? =some (.lie x)/\p=.pointer (some ⟨x.b,0,none⟩)/\w.heap[x.b]? =some (.mapIter (some b) m.length seen m.length)/\w.heap[b]? =some (mobj m)/\Rel G β (.map q) (.map (some b)):=by
 cases hp with
 |ref hb=>
  rename_i x;have hB:=r.blk i _ hi;rw[hb]at hB;obtain⟨b,h1,h2⟩:=hB;obtain⟨y,_,_,h3⟩:=home_obj r hq h1;exact⟨x,b,hb,by simp,h2,h3,h1⟩
theorem sem_next0{m:List (Int × Int)}{q i:Nat}{x:Operand}{seen:Array Nat}(hq:h[q]? =some (.obj (mobj m)))(hi:h[i]? =some (.iter (.map q) m.length seen))(h0:leftM m.length seen=[]):
  SemOK P (.next x false) [(x,.ref i 0 0)] h (.tuple [.bool false]) h:=fun β G K w ρ' oper ho _ r hr=>by
 have hp:=hr (x,.ref i 0 0) (by simp);obtain⟨y,b,hb,he,h1,h2,h3⟩:=homes_iter r hq hi hp;simp only at he;rcases run_next_at (P:=P) w oper.type y.b b m.length m.length seen (entsOf m) m.length h1 h2 (fun x hx=>born_lt hx) (Nat.le_refl _)with⟨_,hrun⟩|⟨e,hem,_⟩
 ·refine opOK_value (y:=.tuple #[.bool false]) r ?_ (.tuple rfl fun j hj=> ?_)
  ·simp only[execOp,ho,he,Sem.run_bind,hrun,Result.andThen_ok,Sem.run_pure]
  ·have:j=0:=by simp at hj;omega
   subst this;exact .bool _
 ·obtain⟨_,hl⟩:=left_mem hem;rw[h0]at hl;cases hl
theorem sem_next1{m:List (Int × Int)}{q i:Nat}{x:Operand}{seen:Array Nat}(hq:h[q]? =some (.obj (mobj m)))(hi:h[i]? =some (.iter (.map q) m.length seen))(h0:leftM m.length seen≠ []):
  SemAny P (.next x false) [(x,.ref i 0 0)] h (leftM m.length seen).length (fun j=>.tuple [.bool true,.int .i64 (m.getD ((leftM m.length seen).getD j 0) (0,0)).1,.int .i64 (m.getD ((leftM m.length seen).getD j 0) (0,0)).2])
   (fun j=>h.set i (.iter (.map q) m.length (seen.push ((leftM m.length seen).getD j 0)))):=fun β G K w ρ' oper ho _ r hr=>by
 have hp:=hr (x,.ref i 0 0) (by simp);obtain⟨y,b,hb,he,h1,h2,h3⟩:=homes_iter r hq hi hp;simp only at he;rcases run_next_at (P:=P) w oper.type y.b b m.length m.length seen (entsOf m) m.length h1 h2 (fun x hx=>born_lt hx) (Nat.le_refl _)with⟨hs,_⟩|⟨e,hem,w1,hw1,hrun⟩
 ·obtain⟨j,hj⟩:=List.exists_mem_of_ne_nil _ h0;exact absurd hs (left_of_mem hj)
 ·obtain⟨hm,hl⟩:=left_mem hem;obtain⟨j,hj,hje⟩:=List.getElem_of_mem hl;obtain⟨hlt,e1,e2⟩:=ent_at hm;have hgd:(leftM m.length seen).getD j 0=e.born:=by rw[gE,List.getElem?_eq_getElem hj];exact hje
  refine⟨j,hj,?_⟩
  have r1:RH β G K h w1:=by
   rcases hw1 with rfl|rfl
   ·exact r
   ·exact r.drew
  have hh1:w1.heap[y.b]? =some (.mapIter (some b) m.length seen m.length):=by
   rcases hw1 with rfl|rfl
   ·exact h1
   ·exact h1
  have hlt1:=(Array.getElem?_eq_some_iff.1 hh1).1;refine⟨.value (.tuple #[.bool true,e.key,e.val]),w1.putObj y.b (.mapIter (some b) m.length (seen.push e.born) m.length),β,?_,Homes.le_refl _,?_,?_⟩
  ·simp only[execOp,ho,he,Sem.run_bind,hrun,Result.andThen_ok,Sem.run_pure];rfl
  ·simp only[hgd];exact r1.write hi (by simp) hb (fun b hb=>World.putObj_heap_other hb) (by simp) ⟨b,h3,World.putObj_heap_same hlt1⟩
  ·simp only[hgd];refine Rel.tuple rfl fun j hj=> ?_
   match j,hj with
   |0,_=>exact .bool _
   |1,_=>show Rel _ _ _ e.key;rw[e1];exact .int _ _
   |2,_=>show Rel _ _ _ e.val;rw[e2];exact .int _ _
theorem sem_entry{m:List (Int × Int)}{q i:Nat}{x:Operand}{seen:Array Nat}{j:Nat}(hq:h[q]? =some (.obj (mobj m)))(hi:h[i]? =some (.iter (.map q) m.length seen))(hj:seen.back? =some j)(hjm:j<m.length):
  SemOK P (.entry x) [(x,.ref i 0 0)] h (.tuple [.int .i64 (m.getD j (0,0)).1,.int .i64 (m.getD j (0,0)).2]) h:=fun β G K w ρ' oper ho _ r hr=>by
 have hp:=hr (x,.ref i 0 0) (by simp);obtain⟨y,b,hb,he,h1,h2,h3⟩:=homes_iter r hq hi hp;simp only at he;have hg1:(getObj y.b).run P w=.ok (.mapIter (some b) m.length seen m.length) w:=by simp[getObj,Sem.run,h1]
 have hg2:(getObj b).run P w=.ok (.map (entsOf m) m.length) w:=MapKept.run_getObj_map h2
 have hfind:(entsOf m).find? (fun e=>e.born==j)=some ⟨.int .i64 (m.getD j (0,0)).1,.int .i64 (m.getD j (0,0)).2,j⟩:=by
  have key:∀(l:List (Int × Int)) (k:Nat),k<=j->(hh:j-k<l.length)->((l.zipIdx k).map entOf).find? (fun e=>e.born==j)=some ⟨.int .i64 (l[j-k]).1,.int .i64 (l[j-k]).2,j⟩:=by
   intro l
   induction l with
   |nil=>intro k _ hh;simp at hh
   |cons a l ih=>
    intro k hk hh;simp only[List.zipIdx_cons,List.map_cons,List.find?_cons];by_cases e:k=j
    ·subst e;simp[entOf]
    ·have hne:((entOf (a,k)).born==j)=false:=by simpa[entOf]using e
     rw[hne];have e2:j-k=(j-(k+1))+1:=by omega
     have:=ih (k+1) (by omega) (by simp at hh;omega);simp only[e2,List.getElem_cons_succ];exact this
  have:=key m 0 (Nat.zero_le _) (by simpa using hjm);rw[<-Array.find?_toList];simp only[entsOf];rw[this];simp[gE,hjm]
 refine opOK_value (y:=.tuple #[.int .i64 (m.getD j (0,0)).1,.int .i64 (m.getD j (0,0)).2]) r ?_ (.tuple rfl fun k hk=> ?_)
 ·simp only[execOp,ho,he,Instr.entry,Sem.run_bind,hg1,Result.andThen_ok,hj,hg2,hfind,Sem.run_pure];simp
 ·match k,hk with
  |0,_=>exact .int _ _
  |1,_=>exact .int _ _
end
def ρw(ws:List (Nat × V)):Operand->V
 |.tmp t=>(ws.lookup t).getD .undef
 |.const v=>ofValue v
 |.global _=>.undef
 |.func f=>.func (.func f) [] []
theorem lookup_mem{ws:List (Nat × V)}{t:Nat}{u:V}(h:ws.lookup t=some u):(t,u)∈ws:=by
 induction ws with
 |nil=>cases h
 |cons p ws ih=>
  obtain⟨a,b⟩:=p;simp only[List.lookup_cons]at h;split at h
  ·rename_i e;have:t=a:=by simpa using e
   subst this;cases h;exact List.mem_cons_self ..
  ·exact List.mem_cons_of_mem _ (ih h)
section
variable {P:Program} {h:List Blk}
theorem sem_weak{o:Op}{us:List (Operand × V)}{v:V}{h':List Blk}(ws:List (Nat × V))(hw:∀p,p∈ws->∃u,(.tmp p.1,u)∈us/\VLe u p.2)(he:evalOp P (ρw ws) h o=some (true,v,h')):SemOK P o us h v h':=fun β G K w ρ' oper ho hc r hr=>by
 subst ho;refine evalOp_ok r (fun x=> ?_) oper he
 cases x with
 |tmp t=>
  show Rel G β ((ws.lookup t).getD .undef) _
  cases hl:ws.lookup t with
  |none=>exact .undef _
  |some u=>
   obtain⟨u0,h1,h2⟩:=hw _ (lookup_mem hl);exact h2 _ _ _ (hr _ h1)
 |const v=>rw[hc.1];exact rel_ofValue v
 |global g=>exact .undef _
 |func f=>rw[hc.2];exact .func (by simp) (by simp) (by simp) (by simp)
theorem rel_str_inv{G:Kept}{β:Homes}{s:ByteArray}{x:Value}(h:Rel G β (.str s) x):x=.string s:=by cases h;rfl
theorem sem_rangeStr{t:TypeId}{x:Operand}{s:ByteArray}(ht:P.underlying t=some .string):SemOK P (.range t x) [(x,.str s)] h (.ref h.length 0 0) (h++ [.obj (.stringIter s 0)]):=fun β G K w ρ' oper ho _ r hr=>by
 have hx:=rel_str_inv (hr (x,.str s) (by simp));simp only at hx;refine⟨.value (.pointer (some ⟨w.heap.size,0,none⟩)),w.alloc (.stringIter s 0),β++ [Hm.lie ⟨w.heap.size,0,0⟩],?_,Homes.le_append _ _,r.push rfl (heap_alloc_new w _),?_⟩
 ·simp only[execOp,ho,hx,Instr.range,Sem.run_bind,run_underlying' ht,Result.andThen_ok,Sem.run_pure,run_newObj,World.alloc_eq]
 ·have:=Rel.ref (G:=G) (r:=0) (off:=0) (ref_new r w.heap.size 0 0);simp only[Nat.zero_mul,Nat.add_zero]at this;exact this
theorem home_ref{β:Homes}{G K:Kept}{w:World}(r:RH β G K h w){i:Nat}{o:Obj}{p:Value}(hi:h[i]? =some (.obj o))(hp:Rel G β (.ref i 0 0) p):∃x:Home,β[i]? =some (.lie x)/\p=.pointer (some ⟨x.b,0,none⟩)/\w.heap[x.b]? =some o:=by
 cases hp with
 |ref hb=>
  rename_i x;have:=r.blk i _ hi;rw[hb]at this;exact⟨x,hb,by simp,this⟩
theorem sem_nextStr{x:Operand}{s:ByteArray}{i pos:Nat}(hi:h[i]? =some (.obj (.stringIter s pos)))(hp:pos<s.size):
  SemOK P (.next x true) [(x,.ref i 0 0)] h (.tuple [.bool true,.int .i64 pos,.int .i32 (Utf8.decode s pos).1]) (h.set i (.obj (.stringIter s (pos+(Utf8.decode s pos).2)))):=fun β G K w ρ' oper ho _ r hr=>by
 obtain⟨y,hb,he,hh⟩:=home_ref r hi (hr (x,.ref i 0 0) (by simp));simp only at he;have hlt:=(Array.getElem?_eq_some_iff.1 hh).1;refine⟨.value (.tuple #[.bool true,.int .i64 pos,.int .i32 (Utf8.decode s pos).1]),w.putObj y.b (.stringIter s (pos+(Utf8.decode s pos).2)),β,?_,Homes.le_refl _,r.write hi (by simp) hb (fun b hb=>World.putObj_heap_other hb) (by simp) (World.putObj_heap_same hlt),?_⟩
 ·simp only[execOp,ho,he,Sem.run_bind,Lib.run_next_any_at w y.b s pos oper.type hh hp,Result.andThen_ok,Sem.run_pure];rfl
 ·refine Rel.tuple rfl fun j hj=> ?_
  match j,hj with
  |0,_=>exact .bool _
  |1,_=>exact .int _ _
  |2,_=>exact .int _ _
theorem sem_nextStr0{x:Operand}{s:ByteArray}{i pos:Nat}(hi:h[i]? =some (.obj (.stringIter s pos)))(hp:¬pos<s.size):SemOK P (.next x true) [(x,.ref i 0 0)] h (.tuple [.bool false]) h:=fun β G K w ρ' oper ho _ r hr=>by
 obtain⟨y,hb,he,hh⟩:=home_ref r hi (hr (x,.ref i 0 0) (by simp));simp only at he;refine opOK_value (y:=.tuple #[.bool false]) r ?_ (.tuple rfl fun j hj=> ?_)
 ·simp only[execOp,ho,he,Sem.run_bind,Lib.run_next_end_at w y.b s pos oper.type hh hp,Result.andThen_ok,Sem.run_pure]
 ·have:j=0:=by simp at hj;omega
  subst this;exact .bool _
theorem sem_lenMap{x:Operand}{t kt et:TypeId}{m:List (Int × Int)}{q:Nat}(ht:P.underlying t=some (.map kt et))(hq:h[q]? =some (.obj (mobj m))):
  SemOK P (.call {callee:=.builtin .len,args:= #[x],argTypes:= #[t]}) [(x,.map q)] h (.int .i64 m.length) h:=fun β G K w ρ' oper ho _ r hr=>by
 obtain⟨b,hb⟩:=rel_map_inv (hr (x,.map q) (by simp));simp only at hb;have h1:=hr (x,.map q) (by simp);rw[hb]at h1;obtain⟨xx,hx,rfl,hh⟩:=home_obj r hq h1;have hg:(getObj xx.b).run P w=.ok (.map (entsOf m) m.length) w:=MapKept.run_getObj_map hh;have hsz:(entsOf m).size=m.length:=by simp[entsOf]
 refine opOK_value (y:=.int .i64 m.length) r ?_ (.int _ _);simp only[execOp,ho,resolve,Sem.run_bind,Sem.run_pure,Result.andThen_ok,invoke,builtin,List.map_toArray,List.map_cons,List.map_nil,hb]
 have:(Builtin.len_ #[t] oper.type #[.map (some xx.b)]).run P w=.ok (.int .i64 m.length) w:=by
  simp[Builtin.len_,run_underlying' ht,hg,hsz,goInt]
 rw[this];rfl
theorem sem_eqNil{x:Operand}{t e:TypeId}{w n:Nat}{c:Nat->Nat->V}{b:TypeId}(ht:P.underlying t=some (.slice e)):SemAny P (.binOp .eql t x (.const (.slice none 0 0)) b) [(x,.list w n c)] h (if n=0 then 2 else 1) (fun j=>.bool (decide (j=1))) (fun _=>h):=fun β G K wd ρ' oper ho hc r hr=>by
 have hx:=hr (x,.list w n c) (by simp)
 have fin:∀(q:Bool),(execOp ρ' oper).run P wd=.ok (.value (.bool q)) wd->((q=true->n=0)->∃j,j<(if n=0 then 2 else 1)/\OpOK P β G K wd ρ' oper (.bool (decide (j=1))) h):=fun q hq hn=>by
  cases q with
  |true=>exact⟨1,by rw[if_pos (hn rfl)];omega,opOK_value r hq (.bool _)⟩
  |false=>exact⟨0,by split<;>omega,opOK_value r hq (.bool _)⟩
 have hz:=hc.1 (.slice none 0 0)
 have run:∀a k cap,ρ' x=.slice a k cap->(execOp ρ' oper).run P wd=.ok (.value (.bool (a.isNone))) wd:=fun a k cap hxa=>by
  have heq:∀d,(Op.equalIn (d+1) t (.slice a k cap) (.slice none 0 0)).run P wd=.ok a.isNone wd:=fun d=>by
   cases a with
   |none=>simp[Op.equalIn,run_underlying' ht]
   |some a=>simp[Op.equalIn,run_underlying' ht]
  have hg:(eqGuard .eql t x (.const (.slice none 0 0)) (.slice a k cap) (.slice none 0 0)).run P wd=.ok () wd:=rfl
  have hb:(binOp .eql t (.slice a k cap) (.slice none 0 0)).run P wd=.ok (.bool a.isNone) wd:=by
   simp only[binOp,Sem.run_bind,Op.equal,Op.maxDepth,heq 9999,Result.andThen_ok,Sem.run_pure]
  simp only[execOp,ho,hxa,hz,Sem.run_bind,hg,Result.andThen_ok,hb,Sem.run_pure]
 simp only at hx;generalize hxv:ρ' x=xv at hx
 cases hx with
 |list0=>exact fin _ (run _ _ _ hxv) fun _=>rfl
 |list _ _ _ _ _=>exact fin _ (run _ _ _ hxv) fun hh=>by cases hh
theorem sem_copy{x y:Operand}{dT sT e:TypeId}{i n:Nat}{et:TypeId}{c c0:Nat->Nat->V}(hu:P.underlying dT=some (.slice e))(hs:(P.info? e).map (·.size)=some 1)(hi:h[i]? =some (.rows et 1 n c0))(hc1:∀r,r<n->(c r 0).scalar=true):
  SemOK P (.call {callee:=.builtin .copy,args:= #[x,y],argTypes:= #[dT,sT]}) [(x,.row i n),(y,.list 1 n c)] h (.int .i64 n) (h.set i (.rows et 1 n c)):=fun β G K w ρ' oper ho _ r hr=>by
 have hx:=hr (x,.row i n) (by simp);have hy:=hr (y,.list 1 n c) (by simp);simp only at hx hy;have hB:=r.blk i _ hi
 have fin:∀w',(Builtin.copy_ #[dT,sT] oper.type #[ρ' x,ρ' y]).run P w=.ok (.int .i64 n) w'->RH β G K (h.set i (.rows et 1 n c)) w'->OpOK P β G K w ρ' oper (.int .i64 n) (h.set i (.rows et 1 n c)):=fun w' hrun hrh=>
  ⟨.value (.int .i64 n),w',β,by
   simp only[execOp,ho,resolve,Sem.run_bind,Sem.run_pure,Result.andThen_ok,invoke,builtin,List.map_toArray,List.map_cons,List.map_nil,hrun],Homes.le_refl _,hrh,.int _ _⟩
 rcases Nat.eq_zero_or_pos n with h0|h0
 ·subst h0;refine fin w ?_ (r.swap hi (by simp) rfl ?_)
  ·have:∃a cp,ρ' x=.slice a 0 cp:=by generalize ρ' x=xv at hx;cases hx<;>exact⟨_,_,rfl⟩
   obtain⟨a1,c1,e1⟩:=this;have:∃a cp,ρ' y=.slice a 0 cp:=by generalize ρ' y=yv at hy;cases hy<;>exact⟨_,_,rfl⟩
   obtain⟨a2,c2,e2⟩:=this;rw[e1,e2];exact run_copy_none w dT sT oper.type e a1 a2 0 c1 0 c2 hu hs rfl
  ·revert hB
   cases β[i]?.getD .void with
   |void=>exact id
   |nil=>exact id
   |ext l=>exact id
   |lie z=>
    rintro⟨h0,hn,hcm,ca,h1,h2,h3,h4,h5⟩
    exact⟨h0,hn,hcm,ca,h1,h2,h3,h4,fun r j hr=>by omega⟩
 ·generalize hxv:ρ' x=xv at hx
  generalize hyv:ρ' y=yv at hy
  cases hx with
  |row0 _=>omega
  |row hb hcp hcc hm=>
   rename_i cap z
   cases hy with
   |list0=>omega
   |list hG hsz hcap hn hc=>
    rename_i b2 off cap2 cs ct fz;rw[hb]at hB;obtain⟨hw1,_,hcm,cur,hh,hs2,hmc,hmx,hrr⟩:=hB;have hsrc0:=r.keep _ _ (r.gk _ _ hG);have hcsz:off+n<=cs.size:=by simpa using hsz
    have hrow:=run_copy_row (P:=P) w dT sT oper.type e z.b 0 n cap ⟨b2,off,none⟩ n cap2 cur et ((List.range n).map fun j=>cs.getD (off+j) Go.undef) hu hs hh (by simp) (fun j v hv=>by
     simp only[List.getElem?_map]at hv;rcases Nat.lt_or_ge j n with q|q
     ·rw[List.getElem?_range q]at hv;simp only[Option.map_some,sJ]at hv;subst hv;rw[addr_add];simp only[World.cell?,hsrc0];rw[Array.getElem?_eq_getElem (by omega)];simp[aG,Array.getElem?_eq_getElem (show off+j<cs.size by omega)]
     ·rw[List.getElem?_eq_none (by simpa using q)]at hv;cases hv) (by simp;omega) (fun v hv=>by
     simp only[List.mem_map,List.mem_range]at hv;obtain⟨j,hj,rfl⟩:=hv;have:=hc j 0 hj (by omega);rw[Nat.mul_one,Nat.add_zero]at this
     exact(this.scalar (hc1 j hj)).2)
    refine fin _ (by rw[hxv,hyv];simp only[List.length_map,List.length_range]at hrow;simpa[goInt]using hrow) (r.write hi (by simp) hb (fun b hb'=>setRow_other w _ _ _ hb') (by simp) ⟨hw1,by omega,hcm,_,setRow_heap w _ cur _ et _ hh,?_,hmc,hmx,fun q j hq hj=> ?_⟩)
    ·simp only[List.take_zero,List.nil_append,List.size_toArray,List.length_append,List.length_map,List.length_range,List.length_drop,Array.length_toList];rw[hs2]at*;omega
    ·have hj0:j=0:=by omega
     subst hj0;rw[Nat.mul_one,Nat.add_zero];have:=hc q 0 hq (by omega);rw[Nat.mul_one,Nat.add_zero]at this;simpa[aG,aL,hq]using this
end
end Ab
set_option maxRecDepth 100000
namespace Ab
def firstE{τ:Type}(of:Nat->τ->Int):Nat->List τ->Option (Nat × Int)
 |_,[]=>none
 |i,x::xs=>if of i x=0 then firstE of (i+1) xs else some (i,of i x)
theorem firstE_ne{τ:Type}{of:Nat->τ->Int}:∀ {l:List τ} {i j:Nat} {e:Int},firstE of i l=some (j,e)->e≠0
 |x::xs,i,j,e,h=>by
  simp only[firstE]at h;split at h
  ·exact firstE_ne h
  ·simp only[sJ,Prod.mk.injEq]at h;rename_i h1;rw[<-h.2];exact h1
theorem firstE_none{τ:Type}{of:Nat->τ->Int}:∀ {l:List τ} {i:Nat},firstE of i l=none->∀x∈l,∃j,of j x=0
 |x::xs,i,h,y,hy=>by
  simp only[firstE]at h;split at h
  ·rename_i h1;rcases List.mem_cons.1 hy with rfl|hy
   ·exact⟨i,h1⟩
   ·exact firstE_none h y hy
  ·cases h
theorem drop_cons{τ:Type}(d:τ)(l:List τ)(i:Nat)(hi:i<l.length):l.drop i=l.getD i d::l.drop (i+1):=by
 rw[List.drop_eq_getElem_cons hi];simp[gE,hi]
theorem rev_take{τ υ:Type}(f:τ->υ)(d:τ)(l:List τ)(i:Nat)(hi:i<l.length):((l.take (i+1)).map f).reverse=f (l.getD i d)::((l.take i).map f).reverse:=by
 rw[List.take_succ_eq_append_getElem hi,List.map_append,List.reverse_append,List.map_singleton,List.reverse_singleton,List.singleton_append];simp only[gE,List.getElem?_eq_getElem hi,Option.getD_some]
theorem rev_take'{τ υ:Type}(f:τ->υ)(d:τ)(l:List τ)(i:Nat)(hi:i<l.length):((l.map f).take (i+1)).reverse=f (l.getD i d)::((l.map f).take i).reverse:=by
 rw[<-List.map_take,<-List.map_take];exact rev_take f d l i hi
def firstI{τ:Type}(p:τ->Bool):Nat->List τ->Option Nat
 |_,[]=>none
 |i,x::xs=>if p x=true then some i else firstI p (i+1) xs
theorem firstI_any{τ:Type}(p:τ->Bool):∀(l:List τ) (i:Nat),(firstI p i l).isSome=l.any p
 |[],_=>rfl
 |x::xs,i=>by
  simp only[firstI,List.any_cons]
  cases p x with
  |true=>simp
  |false=>simpa using firstI_any p xs (i+1)
theorem any_of_firstI{τ:Type}{p:τ->Bool}{l:List τ}{i:Nat}:firstI p 0 l=some i->l.any p=true:=fun h=>by
 rw[<-firstI_any p l 0,h];rfl
theorem any_of_none{τ:Type}{p:τ->Bool}{l:List τ}:firstI p 0 l=none->l.any p=false:=fun h=>by
 rw[<-firstI_any p l 0,h];rfl
def natF{σ:Type}(f:Nat->σ->σ)(s:σ):Nat->σ
 |0=>s
 |n+1=>f n (natF f s n)
theorem natF_congr{σ:Type}{f g:Nat->σ->σ}{s:σ}:∀ {n:Nat},(∀i,i<n->∀x,f i x=g i x)->natF f s n=natF g s n
 |0,_=>rfl
 |n+1,h=>by simp only[natF];rw[natF_congr fun i hi=>h i (by omega),h n (by omega)]
theorem flat_le{τ υ:Type}{f:τ->List υ}{b:Nat}:∀ {l:List τ},(∀x∈l,(f x).length<=b)->(l.flatMap f).length<=l.length*b
 |[],_=>by simp
 |x::xs,h=>by
  simp only[List.flatMap_cons,List.length_append,List.length_cons,Nat.succ_mul];have:=h x (by simp);have:=flat_le (f:=f) (b:=b) fun y hy=>h y (List.mem_cons_of_mem _ hy);omega
theorem flat_take{τ υ:Type}(f:τ->List υ)(d:τ)(l:List τ)(i:Nat)(hi:i<l.length):((l.take (i+1)).flatMap f).reverse=(f (l.getD i d)).reverse++((l.take i).flatMap f).reverse:=by
 rw[List.take_succ_eq_append_getElem hi,List.flatMap_append,List.reverse_append];simp[gE,hi]
theorem take_snoc{τ:Type}(d:τ)(l:List τ)(i:Nat)(hi:i<l.length):l.take (i+1)=l.take i++ [l.getD i d]:=by
 rw[List.take_succ_eq_append_getElem hi];simp[gE,hi]
theorem getD_mem{τ:Type}(d:τ)(l:List τ)(i:Nat)(hi:i<l.length):l.getD i d∈l:=by
 rw[gE,List.getElem?_eq_getElem hi];exact List.getElem_mem hi
end Ab
namespace Ab
open Go
section
variable {α ρ:Type}
def Tr.sure(P:Program)(ro:Env)(φ:α⊕ρ->Prop):Tr α ρ->Prop
 |.go a=>φ (.inl a)
 |.out r=>φ (.inr r)
 |.need b t=>b=true/\(b=true->t.sure P ro φ)
 |.scal p t=>(∀r,p r=true)/\t.sure P ro φ
 |.br b t f=>(b=true->t.sure P ro φ)/\(b=false->f.sure P ro φ)
 |.lit _ t=>t.sure P ro φ
 |.call f us v ob _ t=>ob=true/\PCalls P f us (·=v)/\t.sure P ro φ
 |.own _ _ _ t=>t.sure P ro φ
 |.frz _ b t=>b=true/\t.sure P ro φ
 |.front cs _ ob _ t=>ob=true/\(∀c∈cs,PCalls P c.2.1 c.2.2.1 (·=c.2.2.2))/\t.sure P ro φ
 |.vle _ v v' t=>VLe v v'/\t.sure P ro φ
 |.telb _ w n c c' t=>(∀r j,r<n->j<w->VLe (c r j) (c' r j))/\t.sure P ro φ
 |.wait _ t=>t.sure P ro φ
 |.cas b t f=>(b=true->t.sure P ro φ)/\(b=false->f.sure P ro φ)
 |.hcall f us v h h' _ t=>HCalls P f us v h h'/\t.sure P ro φ
 |.yld X tr us us' _ t=>X.go tr=true/\YSpec P X/\tr++ [.tuple us']<+:X.ys/\(∀j,j<us'.length->VLe (us.getD j .undef) (us'.getD j .undef))/\t.sure P ro φ
 |.over c S x S' _ t=>AWP P ro c S (fun e T=>e=x/\T=S')/\t.sure P ro φ
 |.sem o us h v h' _ t=>SemOK P o us h v h'/\t.sure P ro φ
 |.semn o us h n vs hs _ f=>SemAny P o us h n vs hs/\∀j,j<n->(f j).sure P ro φ
 |.drop _ t=>t.sure P ro φ
 |.telc _ cs cs' t=>cs'.length=cs.length/\(∀j,j<cs.length->VLe (cs.getD j .undef) (cs'.getD j .undef))/\t.sure P ro φ
 |.never=>False
theorem Tr.sure_mono{P:Program}{ro:Env}{φ ψ:α⊕ρ->Prop}(h:∀x,φ x->ψ x):∀ {t:Tr α ρ},t.sure P ro φ->t.sure P ro ψ:=by
 intro t
 induction t with
 |go a=>exact h _
 |out r=>exact h _
 |need b t ih=>exact fun g=>⟨g.1,fun e=>ih (g.2 e)⟩
 |scal p t ih=>exact fun g=>⟨g.1,ih g.2⟩
 |br b t f iht ihf=>exact fun g=>⟨fun e=>iht (g.1 e),fun e=>ihf (g.2 e)⟩
 |lit b t ih=>exact ih
 |call f us v ob ok t ih=>exact fun g=>⟨g.1,g.2.1,ih g.2.2⟩
 |own j e w t ih=>exact ih
 |frz i b t ih=>exact fun g=>⟨g.1,ih g.2⟩
 |front cs ov ob ok t ih=>exact fun g=>⟨g.1,g.2.1,ih g.2.2⟩
 |vle j v v' t ih=>exact fun g=>⟨g.1,ih g.2⟩
 |telb i w n c c' t ih=>exact fun g=>⟨g.1,ih g.2⟩
 |wait k t ih=>exact ih
 |cas b t f iht ihf=>exact fun g=>⟨fun e=>iht (g.1 e),fun e=>ihf (g.2 e)⟩
 |hcall f us v h h' ok t ih=>exact fun g=>⟨g.1,ih g.2⟩
 |yld X tr us us' ok t ih=>exact fun g=>⟨g.1,g.2.1,g.2.2.1,g.2.2.2.1,ih g.2.2.2.2⟩
 |over c S x S' ok t ih=>exact fun g=>⟨g.1,ih g.2⟩
 |sem o us h v h' ok t ih=>exact fun g=>⟨g.1,ih g.2⟩
 |semn o us h n vs hs ok f ih=>exact fun g=>⟨g.1,fun j hj=>ih j (g.2 j hj)⟩
 |drop T t ih=>exact ih
 |telc i cs cs' t ih=>exact fun g=>⟨g.1,g.2.1,ih g.2.2⟩
 |never=>exact fun g=>g
theorem Tr.sure_holds{P:Program}{ro:Env}{cfg:α->List Item × St}{fin:ρ->Exit × St}{Q:Exit->St->Prop}{L:List Item->St->Prop}{φ:α⊕ρ->Prop}(h1:∀a,φ (.inl a)->L (startOf (cfg a).1) (cfg a).2)
  (h2:∀r,φ (.inr r)->Q (fin r).1 (fin r).2):∀ {t:Tr α ρ},t.sure P ro φ->(t.toD cfg fin).holds P ro Q L:=by
 intro t
 induction t with
 |go a=>exact h1 a
 |out r=>exact h2 r
 |need b t ih=>exact fun g=>⟨g.1,ih (g.2 g.1)⟩
 |scal p t ih=>exact fun g=>⟨g.1,ih g.2⟩
 |br b t f iht ihf=>exact fun g=>⟨fun e=>iht (g.1 e),fun e=>ihf (g.2 e)⟩
 |lit b t ih=>exact ih
 |call f us v ob ok t ih=>exact fun g=>⟨g.1,g.2.1,ih g.2.2⟩
 |own j e w t ih=>exact ih
 |frz i b t ih=>exact fun g=>⟨g.1,ih g.2⟩
 |front cs ov ob ok t ih=>exact fun g=>⟨g.1,g.2.1,ih g.2.2⟩
 |vle j v v' t ih=>exact fun g=>⟨g.1,ih g.2⟩
 |telb i w n c c' t ih=>exact fun g=>⟨g.1,ih g.2⟩
 |wait k t ih=>exact ih
 |cas b t f iht ihf=>exact fun g=>⟨fun e=>iht (g.1 e),fun e=>ihf (g.2 e)⟩
 |hcall f us v h h' ok t ih=>exact fun g=>⟨g.1,ih g.2⟩
 |yld X tr us us' ok t ih=>exact fun g=>⟨g.1,g.2.1,g.2.2.1,g.2.2.2.1,ih g.2.2.2.2⟩
 |over c S x S' ok t ih=>exact fun g=>⟨g.1,ih g.2⟩
 |sem o us h v h' ok t ih=>exact fun g=>⟨g.1,ih g.2⟩
 |semn o us h n vs hs ok f ih=>exact fun g=>⟨g.1,fun j hj=>ih j (g.2 j hj)⟩
 |drop T t ih=>exact ih
 |telc i cs cs' t ih=>exact fun g=>⟨g.1,g.2.1,ih g.2.2⟩
 |never=>exact fun g=>g.elim
def WP(P:Program)(ro:Env)(T:α->Tr α ρ)(φ:α⊕ρ->Prop)(a:α):Prop:=
 ∀X:α->Prop,(∀b,φ (.inl b)->X b)->(∀b,(T b).sure P ro (fun x=>match x with|.inl c=>X c|.inr r=>φ (.inr r))->X b)->X a
def Go(P:Program)(ro:Env)(T:α->Tr α ρ)(φ:α⊕ρ->Prop):α⊕ρ->Prop
 |.inl b=>WP P ro T φ b
 |.inr r=>φ (.inr r)
variable {P:Program} {ro:Env} {T:α->Tr α ρ} {φ ψ:α⊕ρ->Prop} {a:α}
theorem WP.stop(h:φ (.inl a)):WP P ro T φ a:=fun _ h1 _=>h1 a h
theorem WP.step(h:(T a).sure P ro (Go P ro T φ)):WP P ro T φ a:=fun X h1 h2=>
 h2 a (Tr.sure_mono (fun x hx=>match x,hx with|.inl b,hx=>hx X h1 h2|.inr r,hx=>hx) h)
theorem WP.bind(h:WP P ro T φ a)(h1:∀x,φ x->Go P ro T ψ x):WP P ro T ψ a:=
 h (WP P ro T ψ) (fun b hb=>h1 (.inl b) hb) fun b hb=>WP.step (Tr.sure_mono (fun x hx=>match x,hx with|.inl c,hx=>hx|.inr r,hx=>h1 (.inr r) hx) hb)
theorem WP.mono(h:WP P ro T φ a)(h1:∀x,φ x->ψ x):WP P ro T ψ a:=
 h.bind fun x hx=>match x,h1 x hx with|.inl _,hx=>WP.stop hx|.inr _,hx=>hx
def Ends'(post:ρ->Prop):α⊕ρ->Prop
 |.inl _=>False
 |.inr r=>post r
theorem WP.iwp(hmx:P.follows .mixedOrders=true){cfg:α->List Item × St}{fin:ρ->Exit × St}(hsim:∀a,∃n,runG P ro.m n (startOf (cfg a).1) (cfg a).2 ((T a).toD cfg fin)=some ((T a).toD cfg fin))
  {post:ρ->Prop} (h:WP P ro T (Ends' post) a):IWP P ro (startOf (cfg a).1) (cfg a).2 (fun e S=>∃r,post r/\e=(fin r).1/\S=(fin r).2) (fun _ _=>False):=by
 refine h (fun a=>IWP P ro (startOf (cfg a).1) (cfg a).2 (fun e S=>∃r,post r/\e=(fin r).1/\S=(fin r).2) (fun _ _=>False)) (fun b hb=>hb.elim) fun b hb=> ?_;obtain⟨k,hk⟩:=hsim b
 refine(runG_ok hmx (Q:=fun e S=>∃r,post r/\e=(fin r).1/\S=(fin r).2)
  (L:=fun K S=>IWP P ro K S (fun e S=>∃r,post r/\e=(fin r).1/\S=(fin r).2) (fun _ _=>False)) k _ _ _ hk
  (Tr.sure_holds (fun a' ha'=>ha') (fun r hr=>⟨r,hr,rfl,rfl⟩) hb)).bind ?_
 exact fun K S h=>h
theorem AWP.wp(hmx:P.follows .mixedOrders=true){c:Code}{S:St}(T:α->Tr α ρ)(cfg:α->List Item × St)(fin:ρ->Exit × St)(e:α)(he:cfg e=([.code c],S))
  (hsim:∀a,∃n,runG P ro.m n (startOf (cfg a).1) (cfg a).2 ((T a).toD cfg fin)=some ((T a).toD cfg fin)) {post:ρ->Prop} (h:WP P ro T (Ends' post) e) {Q:Exit->St->Prop} (hfin:∀r,post r->Q (fin r).1 (fin r).2):AWP P ro c S Q:=by
 refine AWP.of_iwp ?_;have:=h.iwp hmx hsim;rw[he]at this;exact this.mono fun e S ⟨r,hp,h1,h2⟩=>by subst h1;subst h2;exact hfin r hp
theorem PCalls.wp(hmx:P.follows .mixedOrders=true){f:FuncId}{fn:Func}{c:Code}{args:List V}{post:V->Prop}(hf:P.funcs[f]? =some fn)(hb:fn.body=some c)(hn:(fn.name== "runtime.NumGoroutine")=false)
  (T:α->Tr α ρ) (cfg:α->List Item × St) (fin:ρ->Exit × St) (e:α) (he:cfg e=([.code c],{t:=args++List.replicate (fn.ntmps-args.length) .undef,h:=[],d:=[]}))
  (hsim:∀a,∃n,runG P 0 n (startOf (cfg a).1) (cfg a).2 ((T a).toD cfg fin)=some ((T a).toD cfg fin)) {pr:ρ->Prop} (h:WP P ⟨none,0⟩ T (Ends' pr) e) (hfin:∀r,pr r->bodyQ P fn post (fin r).1 (fin r).2):PCalls P f args post:=
 PCalls.of_body hf hb hn (AWP.wp hmx T cfg fin e he hsim h hfin)
theorem HCalls.wp(hmx:P.follows .mixedOrders=true){f:FuncId}{fn:Func}{c:Code}{args:List V}{v:V}{h h':List Blk}(hf:P.funcs[f]? =some fn)(hb:fn.body=some c)(hn:(fn.name== "runtime.NumGoroutine")=false)
  (T:α->Tr α ρ) (cfg:α->List Item × St) (fin:ρ->Exit × St) (e:α) (he:cfg e=([.code c],{t:=args++List.replicate (fn.ntmps-args.length) .undef,h:=h,d:=[]}))
  (hsim:∀a,∃n,runG P h.length n (startOf (cfg a).1) (cfg a).2 ((T a).toD cfg fin)=some ((T a).toD cfg fin)) {pr:ρ->Prop} (hw:WP P ⟨none,h.length⟩ T (Ends' pr) e)
  (hfin:∀r,pr r->((fin r).1=.normal\/(fin r).1=.ret)/\(fin r).2.d=[]/\(fin r).2.h=h'/\resultV P fn (fin r).2=some v):HCalls P f args v h h':=
 HCalls.of_body hf hb hn (AWP.wp hmx T cfg fin e he hsim hw hfin)
theorem WP.while{σ:Type}(pt:σ->α)(I:σ->Prop)(μ:σ->Nat)(hs:∀s,I s->WP P ro T (fun x=>(∃s',x=.inl (pt s')/\I s'/\μ s'<μ s)\/Go P ro T φ x) (pt s)){s:σ}(h0:I s):WP P ro T φ (pt s):=by
 have key:∀m s,μ s<m->I s->WP P ro T φ (pt s):=by
  intro m
  induction m with
  |zero=>intro s h;omega
  |succ m ih=>
   intro s hm hi;refine(hs s hi).bind fun x hx=> ?_;rcases hx with⟨s',rfl,hi',hlt⟩|hx
   ·exact ih s' (by omega) hi'
   ·exact hx
 exact key _ s (Nat.lt_succ_self _) h0
theorem WP.once(h:(T a).sure P ro φ):WP P ro T φ a:=
 WP.step (Tr.sure_mono (fun x hx=>match x,hx with|.inl _,hx=>WP.stop hx|.inr _,hx=>hx) h)
theorem WP.count(pt:Nat->α)(ha:pt 0=a)(n:Nat)(I:Nat->Prop)(h0:I 0)(hs:∀i,i<n->I i->WP P ro T (fun x=>(x=.inl (pt (i+1))/\I (i+1))\/Go P ro T φ x) (pt i))(he:I n->WP P ro T φ (pt n)):WP P ro T φ a:=by
 subst ha
 have key:∀m k:Nat,k+m=n->I k->WP P ro T φ (pt k):=by
  intro m
  induction m with
  |zero=>
   intro k hk hi;have hkn:k=n:=by omega
   subst hkn;exact he hi
  |succ m ih=>
   intro k hk hi;refine(hs k (by omega) hi).bind fun x hx=> ?_;rcases hx with⟨rfl,hi'⟩|hx
   ·exact ih (k+1) (by omega) hi'
   ·exact hx
 exact key n 0 (by omega) h0
theorem WP.findE{τ:Type}(pt:Nat->α)(ha:pt 0=a)(l:List τ)(d:τ)(of:Nat->τ->Int)
  (hs:∀i,i<l.length->WP P ro T (fun x=>(of i (l.getD i d)=0/\x=.inl (pt (i+1)))\/(of i (l.getD i d)≠0/\(firstE of 0 l=some (i,of i (l.getD i d))->Go P ro T φ x))) (pt i))
  (he:firstE of 0 l=none->WP P ro T φ (pt l.length)):WP P ro T φ a:=by
 subst ha;refine WP.count pt rfl l.length (fun i=>firstE of 0 l=firstE of i (l.drop i)) rfl (fun i hi hI=> ?_) (fun hI=>he (by rw[hI];simp[firstE]));refine(hs i hi).mono fun x hx=> ?_;rcases hx with⟨h1,h2⟩|⟨h1,h2⟩
 ·refine .inl ⟨h2,?_⟩;rw[hI,drop_cons d l i hi];simp only[firstE,h1,if_true]
 ·refine .inr (h2 ?_);rw[hI,drop_cons d l i hi];simp only[firstE,h1,if_false]
theorem WP.findI{τ:Type}(pt:Nat->α)(ha:pt 0=a)(l:List τ)(d:τ)(p:τ->Bool)
  (hs:∀i,i<l.length->WP P ro T (fun x=>(p (l.getD i d)=false/\x=.inl (pt (i+1)))\/(p (l.getD i d)=true/\(firstI p 0 l=some i->Go P ro T φ x))) (pt i))
  (he:firstI p 0 l=none->WP P ro T φ (pt l.length)):WP P ro T φ a:=by
 subst ha;refine WP.count pt rfl l.length (fun i=>firstI p 0 l=firstI p i (l.drop i)) rfl (fun i hi hI=> ?_) (fun hI=>he (by rw[hI];simp[firstI]));refine(hs i hi).mono fun x hx=> ?_;rcases hx with⟨h1,h2⟩|⟨h1,h2⟩
 ·refine .inl ⟨h2,?_⟩;rw[hI,drop_cons d l i hi];simp only[firstI,h1,Bool.false_eq_true,if_false]
 ·refine .inr (h2 ?_);rw[hI,drop_cons d l i hi];simp only[firstI,h1,if_true]
theorem WP.anyR(pt:Nat->α)(ha:pt 0=a)(n:Nat)(p:Nat->Bool)
  (hs:∀i,i<n->WP P ro T (fun x=>(p i=false/\x=.inl (pt (i+1)))\/(p i=true/\((List.range n).any p=true->Go P ro T φ x))) (pt i))
  (he:(List.range n).any p=false->WP P ro T φ (pt n)):WP P ro T φ a:=by
 refine WP.count pt ha n (fun i=>∀j,j<i->p j=false) (fun j hj=>absurd hj (by omega)) (fun i hi hI=> ?_) (fun hI=>he (by
  rw[Bool.eq_false_iff];intro h;rw[List.any_eq_true]at h;obtain⟨j,h1,h2⟩:=h
  rw[hI j (List.mem_range.1 h1)]at h2;cases h2))
 refine(hs i hi).mono fun x hx=> ?_;rcases hx with⟨h1,h2⟩|⟨h1,h2⟩
 ·refine .inl ⟨h2,fun j hj=> ?_⟩;by_cases e:j=i
  ·rw[e];exact h1
  ·exact hI j (by omega)
 ·exact .inr (h2 (List.any_eq_true.2 ⟨i,List.mem_range.2 hi,h1⟩))
theorem WP.run(pt:Nat->α)(ha:pt 0=a)(n:Nat)(hs:∀i,i<n->WP P ro T (fun x=>x=.inl (pt (i+1))) (pt i))(he:WP P ro T φ (pt n)):WP P ro T φ a:=
 WP.count pt ha n (fun _=>True) trivial (fun i hi _=>(hs i hi).mono fun _ hx=>.inl ⟨hx,trivial⟩) fun _=>he
end
section
variable {P:Program} {h:List Blk}
theorem sem_storeL{t:TypeId}{x y:Operand}{i r j:Nat}{v:V}{e:TypeId}{wd m:Nat}{c:Nat->Nat->V}(ht:hasT P t=true)(hc:cellsOf P t v=some [v])(hi:h[i]? =some (.rows e wd m c))(hr:r<m)(hj:j<wd):
  SemOK P (.store t x y) [(x,.ref i r j),(y,v)] h .undef (h.set i (.rowsL e wd m c r j v)):=fun β G K w ρ' oper ho _ rh hρ=>by
 have hx:=hρ (x,.ref i r j) (by simp);have hy:=hρ (y,v) (by simp);simp only at hx hy;generalize hxv:ρ' x=xv at hx
 cases hx with
 |ref hb=>
  rename_i hm;obtain⟨c1,c2,c3,c4⟩:=rel_cellsOf hy hc;have hB:=rh.blk i _ hi;rw[hb]at hB;obtain⟨hw,hn,hcm,ca,hh,hs,hcap,hmx,hcc⟩:=hB;subst hw
  have room:r*hm.w+hm.w<=hm.cap*hm.w:=by
   have:(r+1)*hm.w<=hm.cap*hm.w:=Nat.mul_le_mul_right _ (by omega);rw[Nat.succ_mul]at this;exact this
  simp only[List.length_singleton]at c1 c2;obtain⟨c',s1,s2,s3⟩:=run_storeVar' (P:=P) (off:=r*hm.w+j) ht hh (c1.trans c2) c4 (by omega);refine⟨.skip,w.setRow hm.b c',β,?_,Homes.le_refl _,?_,rfl⟩
  ·simp only[execOp,ho,hxv,Instr.storeAt,Instr.sureAddr,Sem.run_bind,Sem.run_pure,Result.andThen_ok,s1]
  ·refine rh.write hi (by simp) hb (fun b hb'=>setRow_other w _ _ _ hb') (by simp) ⟨rfl,hn,hcm,c',setRow_heap w _ ca c' e _ hh,by rw[s2,hs],hcap,hmx,fun r' j' hr' hj' hne=> ?_,hr,hj,?_⟩
   ·rw[s3,c1,if_neg]
    ·exact hcc r' j' hr' hj'
    ·rintro⟨q1,q2⟩
     have e1:r'*hm.w+j'=r*hm.w+j:=by omega
     by_cases hrr:r'=r
     ·subst hrr;rcases hne with hne|hne
      ·exact hne rfl
      ·exact hne (by omega)
     ·rcases Nat.lt_or_gt_of_ne hrr with hlt|hgt
      ·have:(r'+1)*hm.w<=r*hm.w:=Nat.mul_le_mul_right _ hlt;rw[Nat.succ_mul]at this;omega
      ·have:(r+1)*hm.w<=r'*hm.w:=Nat.mul_le_mul_right _ hgt;rw[Nat.succ_mul]at this;omega
   ·rw[s3,c1,if_pos (by omega)];have:=c3 0 (by simp);rw[Nat.sub_self];simpa using this
theorem sem_loadL{t:TypeId}{x:Operand}{i r j:Nat}{v:V}{e:TypeId}{wd m:Nat}{c:Nat->Nat->V}(ht:hasT P t=true)(ha:aggT P t=false)(hi:h[i]? =some (.rowsL e wd m c r j v)):
  SemOK P (.load t x) [(x,.ref i r j)] h v h:=fun β G K w ρ' oper ho _ rh hρ=>by
 have hx:=hρ (x,.ref i r j) (by simp);simp only at hx;generalize hxv:ρ' x=xv at hx
 cases hx with
 |ref hb=>
  rename_i hm;have hB:=rh.blk i _ hi;rw[hb]at hB;obtain⟨hw,hn,hcm,ca,hh,hs,hcap,hmx,hcc,hr,hj,hv⟩:=hB;subst hw
  have room:r*hm.w+hm.w<=hm.cap*hm.w:=by
   have:(r+1)*hm.w<=hm.cap*hm.w:=Nat.mul_le_mul_right _ (by omega);rw[Nat.succ_mul]at this;exact this
  obtain⟨_,l2⟩:=run_loadVar' (off:=r*hm.w+j) ht hh;refine opOK_value rh ?_ hv;simp only[execOp,ho,hxv,Instr.loadAt,Instr.sureAddr,Sem.run_bind,Sem.run_pure,Result.andThen_ok,l2 ha (by omega)]
end
theorem RH.withAmb{β:Homes}{G K:Kept}{h:List Blk}{w:World}(r:RH β G K h w)(hx:noExt h=true){a:Amb}(ha:a.ok w):RH β ⟨G.f,a⟩ ⟨K.f,a⟩ h w:=
 ⟨r.len,fun i k hi=>BlkOK.monoF (G:=G) (G':=⟨G.f,a⟩) (r.blk i k hi) (fun _ _ q=>q) (Homes.le_refl _) (fun _ _=>rfl),r.inj,r.sep,r.keep,⟨r.gk.sub,rfl⟩,ha,fun i X tr hi=>absurd hi (noExt_not hx)⟩
theorem HCalls.tight{P:Program}{f:FuncId}{args:List V}{v:V}{h h':List Blk}(hc:HCalls P f args v h h')(hx:noExt h=true)(hx':noExt h'=true)(β:Homes)(G K:Kept)(w:World)(xs:Array Value)(r:RH β G K h w)
  (hl:args.length=xs.size) (hr:∀j,j<args.length->Rel G β (args.getD j .undef) (xs.getD j Go.undef)):
  Calls P f xs w fun e w'=>(∃x β' G' K',e=.returned x/\β.le β'/\G.ext K G'/\K.le K'/\RH β' G' K' h' w'/\Rel G' β' v x)/\Mild w w':=by
 refine(hc.2 β ⟨G.f,ambOf w⟩ ⟨K.f,ambOf w⟩ w xs (r.withAmb hx (ambOf_ok w)) hl (fun j hj=>Rel.monoF (G:=G) (G':=⟨G.f,ambOf w⟩) (fun _ _ q=>q) (hr j hj) (Homes.le_refl _))).mono ?_;rintro e w' ⟨x,β',G',K',h1,h2,h3,h4,h5,h6⟩
 have hm:Mild w w':=Mild.of_amb (by have:=h5.amb;rwa[<-h4.same]at this);have hg:G.amb=K.amb:=r.gk.same;exact⟨⟨x,β',⟨G'.f,K.amb⟩,⟨K'.f,K.amb⟩,h1,h2,⟨⟨h3.1.sub,hg⟩,h3.2⟩,⟨h4.sub,rfl⟩,h5.withAmb hx' (r.amb.mild hm),Rel.monoF (G:=G') (G':=⟨G'.f,K.amb⟩) (fun _ _ q=>q) h6 (Homes.le_refl _)⟩,hm⟩
mutual
def V.sh(k:Nat):V->V
 |.ref i r off=>.ref (i+k) r off
 |.row i n=>.row (i+k) n
 |.map i=>.map (i+k)
 |.yld i=>.yld (i+k)
 |.sub i r off w n=>.sub (i+k) r off w n
 |.agg vs=>.agg (shL k vs)
 |.tuple vs=>.tuple (shL k vs)
 |.func fn f c=>.func fn (shL k f) (shL k c)
 |.iface t v=>.iface t (v.sh k)
 |v=>v
def shL(k:Nat):List V->List V
 |[]=>[]
 |v::vs=>v.sh k::shL k vs
end
theorem shL_length(k:Nat):∀vs,(shL k vs).length=vs.length
 |[]=>rfl
 |v::vs=>by simp[shL,shL_length k vs]
theorem shL_getD(k:Nat):∀(vs:List V) (j:Nat),(shL k vs).getD j .undef=(vs.getD j .undef).sh k
 |[],j=>by simp[shL,V.sh]
 |v::vs,0=>by simp[shL]
 |v::vs,j+1=>by simpa[shL]using shL_getD k vs j
theorem Rel.sh{G:Kept}{γ:Homes}{v:V}{x:Value}(h:Rel G γ v x):∀ {β:Homes},Rel G (β++γ) (v.sh β.length) x:=by
 have look:∀ {β γ:Homes} {j:Nat} {z:Hm},γ[j]? =some z->(β++γ)[j+β.length]? =some z:=fun {β γ j z} hj=>by
  rw[List.getElem?_append_right (by omega),Nat.add_sub_cancel];exact hj
 induction h with
 |undef x=>intros;exact .undef x
 |bool b=>intros;exact .bool b
 |int k n=>intros;exact .int k n
 |str s=>intros;exact .str s
 |nil=>intros;exact .nil
 |nils=>intros;exact .nils
 |nilfunc=>intros;exact .nilfunc
 |nilmap=>intros;exact .nilmap
 |niliface=>intros;exact .niliface
 |cref g hsz h ih=>intros;exact .cref g hsz h
 |list0=>intros;exact .list0
 |list g hsz hcap hn h ih=>intros;exact .list g hsz hcap hn h
 |ref hi=>intros;exact .ref (look hi)
 |row hi hn hc hx=>intros;exact .row (look hi) hn hc hx
 |row0 hi=>intros;exact .row0 (look hi)
 |map hi=>intros;exact .map (look hi)
 |yld hi=>intros;exact .yld (look hi)
 |sub hi hc hx=>intros;exact .sub (look hi) hc hx
 |sub0=>intros;exact .sub0
 |arr hs h ih=>intros;exact .arr hs h
 |agg hs h ih=>intro β;exact .agg (by rw[shL_length];exact hs) fun j hj=>by rw[shL_getD];exact ih j (by rw[shL_length]at hj;exact hj)
 |tuple hs h ih=>intro β;exact .tuple (by rw[shL_length];exact hs) fun j hj=>by rw[shL_getD];exact ih j (by rw[shL_length]at hj;exact hj)
 |func hf hc h h' ih ih'=>
  intro β;exact .func (by rw[shL_length];exact hf) (by rw[shL_length];exact hc) (fun j hj=>by rw[shL_getD];exact ih j (by rw[shL_length]at hj;exact hj)) fun j hj=>by rw[shL_getD];exact ih' j (by rw[shL_length]at hj;exact hj)
 |iface h ih=>intros;exact .iface ih
def shOK:Blk->Bool
 |.gone|.cells _|.rows _ _ _ _|.rowsL _ _ _ _ _ _ _=>true
 |_=>false
def shB(k:Nat):Blk->Blk
 |.cells cs=>.cells (shL k cs)
 |.rowsL e w n c r j v=>.rowsL e w n c r j (v.sh k)
 |b=>b
theorem shB_gone{k:Nat}{b:Blk}(h:b=.gone):shB k b=.gone:=by subst h;rfl
theorem shB_ne{k:Nat}{b:Blk}(h:shB k b≠ .gone):b≠ .gone:=fun e=>h (shB_gone e)
theorem BlkOK.sh{G:Kept}{γ:Homes}{w:World}{k:Blk}{x:Hm}(h:BlkOK G γ w k x)(hk:shOK k=true)(β:Homes):BlkOK G (β++γ) w (shB β.length k) x:=by
 cases k with
 |gone=>exact h
 |cells cs=>
  cases x with
  |lie y=>
   obtain⟨c,t,h1,h2,h3⟩:=h;exact⟨c,t,h1,by rw[shL_length];exact h2,fun j hj=>by rw[shL_getD];exact(h3 j (by rw[shL_length]at hj;exact hj)).sh⟩
  |_=>exact h.elim
 |rows e n m rs=>cases x<;>first|exact h|exact h.elim
 |rowsL e n m rs r0 j0 v=>
  cases x with
  |lie y=>
   obtain⟨h0,hn,hc,c,h1,h2,h3,h4,h5,h6,h7,h8⟩:=h;exact⟨h0,hn,hc,c,h1,h2,h3,h4,h5,h6,h7,h8.sh⟩
  |_=>exact h.elim
 |_=>simp[shOK]at hk
theorem shOK_noExt{h:List Blk}(hok:h.all shOK=true):noExt h=true:=by
 rw[noExt,List.all_eq_true];intro k hk;have:=List.all_eq_true.1 hok k hk;cases k<;>first|rfl|simp[shOK]at this
theorem HCalls.frame{P:Program}{f:FuncId}{args:List V}{v:V}{h1:List Blk}(hc:HCalls P f args v [] h1)(ha:underL 0 args=true)(hok:h1.all shOK=true)(h:List Blk):HCalls P f args (v.sh h.length) h (h++h1.map (shB h.length)):=
 ⟨hc.1,fun β G K w xs r hl hr=>by
  have r0:RH [] G ⟨fun b=>w.heap[b]?,G.amb⟩ [] w:=⟨rfl,fun i k hi=>by simp at hi,fun i j x y k k' hi=>by simp at hi,fun i x k hi=>by simp at hi,fun b o hb=>hb,⟨fun b o hb=>r.keep b o (r.gk b o hb),rfl⟩,r.gamb,fun i X tr hi=>by simp at hi⟩
  refine(hc.tight rfl (shOK_noExt hok) [] G _ w xs r0 hl fun j hj=> ?_).mono ?_
  ·have:=(hr j hj).take (m:=0) (underL_getD ha j);simpa using this
  rintro e w' ⟨⟨x,γ,G',K',rfl,-,hG,hK,r',hx⟩,hmild⟩
  have hold:∀b,b<w.heap.size->w'.heap[b]? =w.heap[b]? :=fun b hb=>by
   have e1:w.heap[b]? =some w.heap[b]:=Array.getElem?_eq_getElem hb;rw[e1];exact r'.keep b _ (hK b _ e1)
  have hsize:w.heap.size<=w'.heap.size:=by
   rcases Nat.eq_zero_or_pos w.heap.size with h0|h0
   ·omega
   ·have e1:=hold (w.heap.size-1) (by omega);rw[Array.getElem?_eq_getElem (show w.heap.size-1<w.heap.size by omega)]at e1;have:=(Array.getElem?_eq_some_iff.1 e1).1;omega
  have hnew:∀ {b:Nat},K' b=none->w.heap.size<=b:=fun {b} hb=>by
   rcases Nat.lt_or_ge b w.heap.size with q|q
   ·have:=hK b _ (Array.getElem?_eq_getElem q);rw[hb]at this;cases this
   ·exact q
  have hblen:=r.len;have hglen:=r'.len
  let K2:Kept:=⟨fun b=>if b<w.heap.size then K b else K' b,K.amb⟩
  have K2lt:∀ {b:Nat},b<w.heap.size->K2 b=K b:=fun {b} hb=>by simp only[K2,hb,if_true]
  have K2ge:∀ {b:Nat},w.heap.size<=b->K2 b=K' b:=fun {b} hb=>by simp only[K2,show¬b<w.heap.size by omega,if_false]
  have Klt:∀ {b:Nat} {o:Obj},K b=some o->b<w.heap.size:=fun {b o} hb=>(Array.getElem?_eq_some_iff.1 (r.keep _ _ hb)).1
  have look:∀ {i:Nat} {k:Blk},(h++h1.map (shB h.length))[i]? =some k->(i<h.length/\h[i]? =some k/\(β++γ)[i]? =β[i]?)\/(h.length<=i/\(∃k1,h1[i-h.length]? =some k1/\k=shB h.length k1)/\(β++γ)[i]? =γ[i-h.length]?):=fun {i k} hi=>by
   rcases Nat.lt_or_ge i h.length with q|q
   ·rw[aL q]at hi;exact .inl ⟨q,hi,aL (by omega)⟩
   ·rw[List.getElem?_append_right q,List.getElem?_map]at hi;refine .inr ⟨q,?_,by rw[List.getElem?_append_right (by omega),hblen]⟩
    cases hh:h1[i-h.length]? with
    |none=>rw[hh]at hi;cases hi
    |some k1=>rw[hh]at hi;cases hi;exact⟨k1,rfl,rfl⟩
  refine⟨x,β++γ,G',K2,rfl,Homes.le_append _ _,⟨hG.1,fun b o hb=> ?_⟩,⟨fun b o hb=> ?_,rfl⟩,⟨by simp[hblen,hglen],fun i k hi=> ?_,fun i j x1 y1 k k' hi hj g g' hbi hbj hxy=> ?_,fun i x1 k hi g hbi=> ?_,fun b o hb=> ?_,⟨fun b o hb=> ?_,hG.1.same.symm.trans r.gk.same⟩,r.amb.mild hmild,fun i X tr hi=> ?_⟩,by rw[<-hblen];exact hx.sh⟩
  ·rcases hG.2 b o hb with q|q
   ·exact .inl q
   ·right
    cases hk:K b with
    |none=>rfl
    |some o'=>have q':w.heap[b]? =none:=q;rw[r.keep _ _ hk]at q';cases q'
  ·rw[K2lt (Klt hb)];exact hb
  ·rcases look hi with⟨_,hi',e⟩|⟨_,⟨k1,hi',rfl⟩,e⟩
   ·rw[e];by_cases hg:k=.gone
    ·subst hg;cases(β[i]?.getD .void)<;>trivial
    exact(r.blk i k hi').mono hG.1 (Homes.le_append _ _) fun y hy=>hold _ (by
     cases hb:β[i]? with
     |none=>simp[hb]at hy
     |some z=>simp[hb]at hy;subst hy;exact(r.sep i y k hi' hg hb).2)
   ·rw[e];have:=(r'.blk _ k1 hi').sh ((List.all_eq_true.1 hok) _ (List.mem_of_getElem? hi')) β;rw[hblen]at this;exact this
  ·rcases look hi with⟨l1,i1,e1⟩|⟨l1,⟨k1,i1,rfl⟩,e1⟩<;>rcases look hj with⟨l2,i2,e2⟩|⟨l2,⟨k2,i2,rfl⟩,e2⟩<;>rw[e1]at hbi<;>rw[e2]at hbj
   ·exact r.inj i j x1 y1 k k' i1 i2 g g' hbi hbj hxy
   ·have a1:=(r.sep i x1 k i1 g hbi).2;have a2:=hnew (r'.sep _ y1 k2 i2 (shB_ne g') hbj).1;omega
   ·have a1:=(r.sep j y1 k' i2 g' hbj).2;have a2:=hnew (r'.sep _ x1 k1 i1 (shB_ne g) hbi).1;omega
   ·have:=r'.inj _ _ x1 y1 k1 k2 i1 i2 (shB_ne g) (shB_ne g') hbi hbj hxy;omega
  ·rcases look hi with⟨l1,i1,e1⟩|⟨l1,⟨k1,i1,rfl⟩,e1⟩<;>rw[e1]at hbi
   ·have:=r.sep i x1 k i1 g hbi;exact⟨by rw[K2lt this.2];exact this.1,by omega⟩
   ·have:=r'.sep _ x1 k1 i1 (shB_ne g) hbi;exact⟨by rw[K2ge (hnew this.1)];exact this.1,this.2⟩
  ·rcases Nat.lt_or_ge b w.heap.size with q|q
   ·rw[K2lt q]at hb;rw[hold b q];exact r.keep b o hb
   ·rw[K2ge q]at hb;exact r'.keep b o hb
  ·rcases Nat.lt_or_ge b w.heap.size with q|q
   ·rw[K2lt q];rcases hG.2 b o hb with q1|q1
    ·exact r.gk b o q1
    ·have q2:w.heap[b]? =none:=q1;rw[Array.getElem?_eq_getElem q]at q2;cases q2
   ·rw[K2ge q];exact r'.gk b o hb
  ·rcases look hi with⟨l1,i1,e1⟩|⟨l1,⟨k1,i1,e3⟩,e1⟩
   ·obtain⟨l,E,q1,q2,q3,q4⟩:=r.ext i X tr i1;refine⟨l,E,by rw[e1];exact q1,X.stable q2 (fun b o hb=> ?_) (fun b o hb=> ?_) hsize hmild,⟨fun b o hb=> ?_,q3.same⟩,fun b hE=>⟨?_,fun j y k hj g hbj=> ?_⟩⟩
    ·have q:=X.keeps q2 b o hb;rw[hold b (Array.getElem?_eq_some_iff.1 q).1];exact q
    ·have q:=r.keep b o (q3 b o hb);rw[hold b (Array.getElem?_eq_some_iff.1 q).1];exact q
    ·have:=q3 b o hb;rw[K2lt (Klt this)];exact this
    ·rw[K2lt (Ext.lt q2 hE)];exact(q4 b hE).1
    ·rcases look hj with⟨l2,i2,e2⟩|⟨l2,⟨k2,i2,rfl⟩,e2⟩<;>rw[e2]at hbj
     ·exact(q4 b hE).2 j y k i2 g hbj
     ·have a1:=hnew (r'.sep _ y k2 i2 (shB_ne g) hbj).1;have a2:=Ext.lt q2 hE;omega
   ·have:=(List.all_eq_true.1 hok) _ (List.mem_of_getElem? i1)
    cases k1<;>simp[shB]at e3<;>simp[shOK]at this⟩
end Ab
