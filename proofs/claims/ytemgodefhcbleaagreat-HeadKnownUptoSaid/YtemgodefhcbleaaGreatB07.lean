/-
  Part of the proof of the Head laws. Conditions: those that stand in each theorem.
-/
import Derived.Shelf.Small.Bits
import Derived.Shelf.Small.Wraps
import Derived.Shelf.Strconv.Itoa0
import Derived.Shelf.Sort.Plain
import Derived.Shelf.Slices.Turned
import Derived.Shelf.Slices.CompactS
import Derived.Ground.Names2Prog
import Derived.Shelf.Slices.SearchI
import Derived.Shelf.Slices.Cells
import Derived.Shelf.Slices.In.SortNone
import Derived.Test.YtemgodefhcbleaaGreatProg
import Derived.Sort.Grow
import Derived.Lib.SlicesCompact
import Derived.Test.YtemgodefhcbleaaGreatB06
set_option linter.unusedSimpArgs false
set_option linter.unusedVariables false
namespace Ab
open Go
theorem HCalls.more{P:Program}{f:FuncId}{args:List V}{v:V}{h h':List Blk}(hc:HCalls P f args v h h')(hl:h'.length=h.length)(ha:underL h.length args=true)(hu:h.all (Blk.under h.length)=true)(hxa:extAs h h')(e:List Blk)(he:noExt e=true):HCalls P f args v (h++e) (h'++e):=
 ⟨hc.1,fun β G K w xs r hlen hr=>by
  have htk:(h++e).take h.length=h:=by simp
  have r1:RH (β.take h.length) G K h w:=by
   have:=r.take (n:=h.length) (by rw[htk];exact hu)
   rwa[htk]at this
  have hβ:β.length=h.length+e.length:=by rw[r.len,List.length_append]
  let EH:Nat→Prop:=fun b=>∃(i:Nat) (x:Home) (k:Blk),e[i]? =some k∧k≠ .gone∧β[h.length+i]? =some (.lie x)∧x.b=b
  have hget:∀ {i:Nat} {k:Blk},e[i]? =some k→(h++e)[h.length+i]? =some k:=fun {i k} hi=>by
   rw[List.getElem?_append_right (by omega),Nat.add_sub_cancel_left];exact hi
  have hEK:∀b,EH b→K b=none∧b<w.heap.size:=fun b ⟨i,x,k,h1,h2,h3,h4⟩=>by rw[←h4];exact r.sep _ x k (hget h1) h2 h3
  obtain⟨K1,hK1⟩:∃K1:Kept,K1=⟨fun b=>open Classical in if EH b then w.heap[b]? else K b,K.amb⟩:=⟨_,rfl⟩
  have k1s:K1.amb=K.amb:=by rw[hK1]
  have k1y:∀b,EH b→K1 b=w.heap[b]? :=fun b hb=>by rw[hK1];simp only[if_pos hb]
  have k1n:∀b,¬EH b→K1 b=K b:=fun b hb=>by rw[hK1];simp only[if_neg hb]
  have hKK1:K.le K1:=⟨fun b o hb=>by rw[k1n b (fun q=>by rw[(hEK b q).1]at hb;cases hb)];exact hb,k1s.symm⟩
  have hkeep1:∀b o,K1 b=some o→w.heap[b]? =some o:=fun b o hb=>by
   by_cases q:EH b
   ·rw[k1y b q]at hb;exact hb
   ·rw[k1n b q]at hb;exact r.keep b o hb
  have hold:∀ {i:Nat} {k:Blk},h[i]? =some k→i<h.length∧(h++e)[i]? =some k:=fun {i k} hi=>by
   have:=(List.getElem?_eq_some_iff.1 hi).1
   exact⟨this,by rw[List.getElem?_append_left this];exact hi⟩
  have hbt:∀ {i:Nat},i<h.length→(β.take h.length)[i]? =β[i]? :=fun hi=>List.getElem?_take_of_lt hi
  have hdis:∀(i:Nat) (x:Home) (k:Blk),h[i]? =some k→k≠ .gone→(β.take h.length)[i]? =some (.lie x)→¬EH x.b:=fun i x k hi hg hb ⟨j,y,k2,h1,h2,h3,h4⟩=>by
   obtain⟨q1,q2⟩:=hold hi
   rw[hbt q1]at hb
   have:=r.inj i (h.length+j) x y k k2 q2 (hget h1) hg h2 hb h3 h4.symm
   omega
  obtain⟨E0,hE0⟩:=r1.extOK
  have hxe:∀(i:Nat) (X:Ext) (tr:List V),h[i]? =some (.ext X tr)→∃l E,(β.take h.length)[i]? =some (.ext l)∧X.I l tr E w∧X.base.le K1∧∀b,E b≠none→K1 b=none∧¬EH b∧∀(j:Nat) (x:Home) (k:Blk),h[j]? =some k→k≠ .gone→(β.take h.length)[j]? =some (.lie x)→x.b≠b:=fun i X tr hi=>by
   obtain⟨q1,q2⟩:=hold hi
   obtain⟨l,E,p1,p2,p3,p4⟩:=r.ext i X tr q2
   have hne:∀b,E b≠none→¬EH b:=fun b hb ⟨j,y,k2,h1,h2,h3,h4⟩=>(p4 b hb).2 (h.length+j) y k2 (hget h1) h2 h3 h4
   refine⟨l,E,by rw[hbt q1];exact p1,p2,p3.trans hKK1,fun b hb=>⟨by rw[k1n b (hne b hb)];exact(p4 b hb).1,hne b hb,fun j x k hj hg hbj=> ?_⟩⟩
   obtain⟨q3,q4⟩:=hold hj
   rw[hbt q3]at hbj
   exact(p4 b hb).2 j x k q4 hg hbj
  have r2:RH (β.take h.length) G K1 h w:=by
   refine⟨r1.len,r1.blk,r1.inj,fun i x k hi hg hb=>⟨by rw[k1n _ (hdis i x k hi hg hb)];exact(r1.sep i x k hi hg hb).1,(r1.sep i x k hi hg hb).2⟩,hkeep1,r1.gk.trans hKK1,by rw[k1s];exact r1.amb,fun i X tr hi=> ?_⟩
   obtain⟨l,E,p1,p2,p3,p4⟩:=hxe i X tr hi
   exact⟨l,E,p1,p2,p3,fun b hb=>⟨(p4 b hb).1,(p4 b hb).2.2⟩⟩
  refine(hc.2 (β.take h.length) G K1 w xs r2 hlen fun j hj=>(hr j hj).take (underL_getD ha j)).mono ?_
  rintro e0 w' ⟨x,β',G',K',rfl,h1,h2,h3,h4,h5⟩
  have hβ':β'.length=h.length:=by rw[h4.len,hl]
  have hle:β.le (β'++β.drop h.length):=fun i z hv hz=>by
   rcases Nat.lt_or_ge i h.length with q|q
   ·rw[List.getElem?_append_left (by omega)]
    exact h1 i z hv (by rw[hbt q];exact hz)
   ·rw[List.getElem?_append_right (by omega),hβ',List.getElem?_drop,show h.length+(i-h.length)=i by omega];exact hz
  have hb2:∀i,(β'++β.drop h.length)[h.length+i]? =β[h.length+i]? :=fun i=>by
   rw[List.getElem?_append_right (by omega),hβ',List.getElem?_drop,Nat.add_sub_cancel_left]
  obtain⟨K2,hK2⟩:∃K2:Kept,K2=⟨fun b=>open Classical in if EH b then none else K' b,K'.amb⟩:=⟨_,rfl⟩
  have k2s:K2.amb=K'.amb:=by rw[hK2]
  have k2y:∀b,EH b→K2 b=none:=fun b hb=>by rw[hK2];simp only[if_pos hb]
  have k2n:∀b,¬EH b→K2 b=K' b:=fun b hb=>by rw[hK2];simp only[if_neg hb]
  have k2o:∀b o,K2 b=some o→K' b=some o:=fun b o hb=>by
   by_cases q:EH b
   ·rw[k2y b q]at hb;cases hb
   ·rw[k2n b q]at hb;exact hb
  have hKE:∀b,EH b→K' b=w.heap[b]?∧w'.heap[b]? =w.heap[b]? :=fun b hb=>by
   have e1:w.heap[b]? =some (w.heap[b]'(hEK b hb).2):=Array.getElem?_eq_getElem _
   have e2:=h3 b _ (by rw[k1y b hb];exact e1)
   exact⟨e2.trans e1.symm,(h4.keep b _ e2).trans e1.symm⟩
  have hGE:∀b o,G' b=some o→¬EH b:=fun b o hb q=>by
   rcases h2.2 b o hb with z|z
   ·have:=r.gk b o z;rw[(hEK b q).1]at this;cases this
   ·rw[k1y b q,Array.getElem?_eq_getElem (hEK b q).2]at z;cases z
  have hG'K2:G'.le K2:=⟨fun b o hb=>by rw[k2n b (hGE b o hb)];exact h4.gk b o hb,h4.gk.same.trans k2s.symm⟩
  have hKK2:K.le K2:=⟨fun b o hb=>by rw[k2n b (fun q=>by rw[(hEK b q).1]at hb;cases hb)];exact h3 b o (hKK1 b o hb),k1s.symm.trans (h3.same.trans k2s.symm)⟩
  have hh':∀ {i:Nat} {k:Blk},(h'++e)[i]? =some k→(i<h.length∧h'[i]? =some k∧(β'++β.drop h.length)[i]? =β'[i]?)∨(∃j,i=h.length+j∧e[j]? =some k):=fun {i k} hi=>by
   rcases Nat.lt_or_ge i h.length with q|q
   ·rw[List.getElem?_append_left (by omega)]at hi
    exact .inl ⟨q,hi,List.getElem?_append_left (by omega)⟩
   ·rw[List.getElem?_append_right (by omega),hl]at hi
    exact .inr ⟨i-h.length,by omega,hi⟩
  have hsep':∀(i:Nat) (y:Home) (k:Blk),h'[i]? =some k→k≠ .gone→β'[i]? =some (.lie y)→¬EH y.b:=fun i y k hi hg hb q=>by
   have:=(h4.sep i y k hi hg hb).1
   rw[(hKE _ q).1,Array.getElem?_eq_getElem (hEK _ q).2]at this;cases this
  refine⟨x,β'++β.drop h.length,G',K2,rfl,hle,⟨h2.1,fun b o hb=> ?_⟩,hKK2,⟨by simp[hβ',hl,hβ],fun i k hi=> ?_,fun i j y z k k2 hi hj g g2 hbi hbj he2=> ?_,fun i y k hi hg hb=> ?_,fun b o hb=>h4.keep b o (k2o b o hb),hG'K2,by rw[k2s];exact h4.amb,fun i X tr hi=> ?_⟩,h5.mono G'.le_refl (Homes.le_append _ _)⟩
  ·rcases h2.2 b o hb with z|z
   ·exact .inl z
   ·right
    by_cases q:EH b
    ·exact(hEK b q).1
    ·rw[k1n b q]at z;exact z
  ·by_cases hg:k=.gone
   ·subst hg;cases((β'++β.drop h.length)[i]?.getD .void)<;>trivial
   rcases hh' hi with⟨_,q2,q3⟩|⟨j,rfl,q2⟩
   ·rw[q3]
    exact(h4.blk i k q2).mono G'.le_refl (Homes.le_append _ _) fun _ _=>rfl
   ·rw[hb2]
    refine(r.blk _ k (hget q2)).mono h2.1 hle fun y hy=> ?_
    have hb:β[h.length+j]? =some (.lie y):=by
     cases hb:β[h.length+j]? with
     |none=>simp[hb]at hy
     |some z=>simp[hb]at hy;rw[hy]
    exact(hKE y.b ⟨j,y,k,q2,hg,hb,rfl⟩).2
  ·rcases hh' hi with⟨a1,a2,a3⟩|⟨p,rfl,a2⟩<;>rcases hh' hj with⟨c1,c2,c3⟩|⟨q,rfl,c2⟩
   ·rw[a3]at hbi;rw[c3]at hbj
    exact h4.inj i j y z k k2 a2 c2 g g2 hbi hbj he2
   ·rw[a3]at hbi;rw[hb2]at hbj
    exact absurd ⟨q,z,k2,c2,g2,hbj,he2.symm⟩ (hsep' i y k a2 g hbi)
   ·rw[c3]at hbj;rw[hb2]at hbi
    exact absurd ⟨p,y,k,a2,g,hbi,he2⟩ (hsep' j z k2 c2 g2 hbj)
   ·rw[hb2]at hbi hbj
    exact r.inj _ _ y z k k2 (hget a2) (hget c2) g g2 hbi hbj he2
  ·rcases hh' hi with⟨_,a2,a3⟩|⟨p,rfl,a2⟩
   ·rw[a3]at hb
    exact⟨by rw[k2n _ (hsep' i y k a2 hg hb)];exact(h4.sep i y k a2 hg hb).1,(h4.sep i y k a2 hg hb).2⟩
   ·rw[hb2]at hb
    have hq:EH y.b:=⟨p,y,k,a2,hg,hb,rfl⟩
    refine⟨k2y _ hq,?_⟩
    have:=(hKE _ hq).2
    rw[Array.getElem?_eq_getElem (hEK _ hq).2]at this
    exact(Array.getElem?_eq_some_iff.1 this).1
  ·rcases hh' hi with⟨_,a2,a3⟩|⟨p,rfl,a2⟩
   ·obtain⟨l,E,p1,p2,p3,p4⟩:=h4.ext i X tr a2
    have hne:∀b,E b≠none→¬EH b:=fun b hb q=>by
     have:=(p4 b hb).1
     rw[(hKE _ q).1,Array.getElem?_eq_getElem (hEK _ q).2]at this;cases this
    have hbase:X.base.le K2:=by
     obtain⟨tr',ht⟩:=hxa i X tr a2
     obtain⟨l2,E2,z1,z2,z3,z4⟩:=r.ext i X tr' (hold ht).2
     exact z3.trans hKK2
    refine⟨l,E,by rw[a3];exact p1,p2,hbase,fun b hb=>⟨by rw[k2n b (hne b hb)];exact(p4 b hb).1,fun j y k hj hg hbj=> ?_⟩⟩
    rcases hh' hj with⟨_,c2,c3⟩|⟨q,rfl,c2⟩
    ·rw[c3]at hbj;exact(p4 b hb).2 j y k c2 hg hbj
    ·rw[hb2]at hbj
     exact fun e2=>hne b hb ⟨q,y,k,c2,hg,hbj,e2⟩
   ·exact absurd a2 (noExt_not he)⟩
section
variable {P:Program} {ro:Env} {ops:Array Oper} {S:St} {i:Nat} {o:Oper}
theorem AStep.mk0(hi:ops[i]? =some o)(hw:wantedV ops S o=some true){t e:TypeId}{l c:Operand}{k k':IntKind}{n:Int}{q wd:Nat}{zs:List V}(hop:o.op=.makeSlice t l c)(hl:S.eval l=.int k n)(hc:S.eval c=.int k' n)
  (hu:P.underlying t=some (.slice e)) (hz:zeroCs P e=some zs) (hd:decide (hasT P e=true∧szOf P e=wd∧0<wd∧zs.length=wd∧P.bytesOf e≤65536)=true) (hvd:S.h[q]? =some .void) (h1:0≤n) (h3:n≤4294967296):
  AStep P ro ops i S ({S with h:=S.h.set q (.rows e wd n.toNat fun _ j=>zs.getD j .undef)}.put o.dst (.row q n.toNat)):=by
 obtain⟨he,hsz0,h0,hzl,hby⟩:=of_decide_eq_true hd
 subst hsz0
 refine AStep.of_val hi hw (fun c hcc=>by rw[hop]at hcc;cases hcc) fun β G K a w r=> ?_
 have hl':=r.eval l
 have hc':=r.eval c
 rw[hl]at hl';rw[hc]at hc'
 generalize hx:a.eval l=lx at hl'
 generalize hy:a.eval c=cx at hc'
 cases hl';cases hc'
 obtain⟨z,z1,z2,z3⟩:=zeroCs_ok hz w
 have hinfo:∃i,P.info? e=some i:=by
  unfold hasT at he
  cases hi:P.info? e with
  |none=>simp[hi]at he
  |some i=>exact⟨i,rfl⟩
 obtain⟨i,hi⟩:=hinfo
 have hiz:i.zero=some z:=by
  cases hiz:i.zero with
  |none=>simp[zeroCs,hi,hiz]at hz
  |some z'=>
   have:(zeroValue e).run P w=.ok z' w:=by simp only[zeroValue,Sem.run_bind,run_typeInfo' hi,Result.andThen_ok,hiz,Sem.run_pure]
   rw[this]at z1;cases z1;rfl
 have hsz:i.size=szOf P e:=by simp[szOf,Program.cellsOf,hi]
 have hb':i.bytes≤65536:=by simpa[Program.bytesOf,hi]using hby
 have hbytes:(i.bytes:Int)*n≤281474976710656:=by
  obtain⟨n,rfl⟩:=Int.eq_ofNat_of_zero_le h1
  have:i.bytes*n≤65536*4294967296:=Nat.mul_le_mul hb' (by omega)
  have:((i.bytes*n:Nat):Int)≤281474976710656:=by omega
  rwa[Int.natCast_mul]at this
 have hr:=run_make (P:=P) w t e i z hu hi hiz k k' n n h1 (Int.le_refl _) hbytes (by omega)
 have hzs:z.cells.size=szOf P e:=by rw[z2,hzl]
 have hlt:q<β.length:=by rw[r.h.len];exact(List.getElem?_eq_some_iff.1 hvd).1
 have hle:=le_set_void (x:=.lie ⟨w.heap.size,szOf P e,n.toNat⟩) (r.h.void_home hvd)
 have hrun:(execOp a.eval o).run P w=.ok (.value (.slice (some ⟨w.heap.size,0,none⟩) n.toNat n.toNat)) (w.alloc (.cells (madeCells z.cells (n.toNat*i.size)) e)):=by
  simp only[execOp,hop,hx,hy,Sem.run_bind,hr,Result.andThen_ok,Sem.run_pure]
 refine⟨_,_,β.set q (.lie ⟨w.heap.size,szOf P e,n.toNat⟩),G,K,hrun,hle.low _,G.ext_refl K,K.le_refl,r.refill hvd hle (r.h.fillG (fun b hb=>heap_alloc_lt w _ hb) (by simp) hvd (x:=⟨w.heap.size,szOf P e,n.toNat⟩) (Nat.le_refl _) (by simp) ?_ (Mild.alloc w _)),?_⟩
 ·refine⟨rfl,h0,by unfold maxLen;show n.toNat≤_;omega,_,heap_alloc_new w _,by rw[size_madeCells,hsz],Nat.le_refl _,by unfold maxn;omega,fun q j hq hj=> ?_⟩
  have hlt:q*szOf P e+j<n.toNat*szOf P e:=by
   have:(q+1)*szOf P e≤n.toNat*szOf P e:=Nat.mul_le_mul_right _ hq
   rw[Nat.succ_mul]at this;omega
  have hmod:(q*szOf P e+j)%szOf P e=j:=by rw[Nat.mul_comm,Nat.mul_add_mod,Nat.mod_eq_of_lt hj]
  have:=z3 G [] j
  have hj':j<z.cells.size:=by rw[hzs];exact hj
  simp only[madeCells,Array.getD_eq_getD_getElem?,Array.getElem?_map,Array.getElem?_range,hsz,hlt,if_true,Option.map_some,Option.getD_some,hzs,hmod]
  rw[getElem!_pos z.cells j hj']
  simpa[Array.getD_eq_getD_getElem?,hj']using this
 ·exact .row (List.getElem?_set_self hlt) (Nat.le_refl _) (Nat.le_refl _) (by unfold maxn;omega)
theorem AStep.alloc0(hi:ops[i]? =some o)(hw:wantedV ops S o=some true){t:TypeId}{q:Nat}{zs:List V}(hop:o.op=.alloc t)(hz:zeroCs P t=some zs)(hvd:S.h[q]? =some .void):
  AStep P ro ops i S ({S with h:=S.h.set q (zeroBlk P t zs).1}.put o.dst (.ref q 0 0)):=by
 refine AStep.of_val hi hw (fun c hcc=>by rw[hop]at hcc;cases hcc) fun β G K a w r=> ?_
 obtain⟨z,z1,z2,z3⟩:=zeroCs_ok hz w
 have hlt:q<β.length:=by rw[r.h.len];exact(List.getElem?_eq_some_iff.1 hvd).1
 have hle:=le_set_void (x:=.lie ⟨w.heap.size,(zeroBlk P t zs).2.1,(zeroBlk P t zs).2.2⟩) (r.h.void_home hvd)
 have hrun:(execOp a.eval o).run P w=.ok (.value (.pointer (some ⟨w.heap.size,0,none⟩))) (w.alloc (.cells z.cells t)):=by
  simp only[execOp,hop,Instr.alloc,Sem.run_bind,z1,Result.andThen_ok,newVar,newRow,run_newObj,Sem.run_pure,World.alloc_eq]
 refine⟨_,_,β.set q (.lie ⟨w.heap.size,(zeroBlk P t zs).2.1,(zeroBlk P t zs).2.2⟩),G,K,hrun,hle.low _,G.ext_refl K,K.le_refl,r.refill hvd hle (r.h.fillG (fun b hb=>heap_alloc_lt w _ hb) (by simp) hvd (x:=⟨w.heap.size,(zeroBlk P t zs).2.1,(zeroBlk P t zs).2.2⟩) (Nat.le_refl _) (by simp) (zeroBlk_ok w z2 z3) (Mild.alloc w _)),?_⟩
 have:=Rel.ref (G:=G) (β:=β.set q (.lie ⟨w.heap.size,(zeroBlk P t zs).2.1,(zeroBlk P t zs).2.2⟩)) (i:=q) (r:=0) (off:=0) (List.getElem?_set_self hlt)
 simp only[Nat.zero_mul,Nat.add_zero]at this
 exact this
end
theorem AWP.rangeFV{P:Program}{m:Nat}{S:St}{g:Operand}{ps:Array Tmp}{assign body:Code}{f:FuncId}{caps ys:List V}{go:Nat→Bool}{fs:List Bool}{T:List V}{H:Nat→List Blk}{jx:Exit}{jc:Code}{Q:Exit→St→Prop}
  (hd:S.d=[]) (hnS:noExt S.h=true) (hnv:∀i,fs.getD i false=true→S.h[i]? =some .void→False) (hTl:T.length=S.t.length) (hT:∀j,T.getD j .undef=S.t.getD j .undef∨Snap (stillB fs S.h) (S.t.getD j .undef) (T.getD j .undef)) (hg:St.eval ⟨T,H 0,[]⟩ g=.func (.func f) [] caps) (hcaps:underL 0 caps=true) (hcf:∀xs w,(callFunc f xs).run P w=.ok (.enter f xs) w)
  (hit:IterL P f caps ys) (hH0:H 0=otherB fs S.h) (hlen:∀k,(H k).length=S.h.length) (hne:∀k,noExt (H k)=true) (hgo:go 0=true) (hj:exitCode jx=some jc)
  (hround:∀(l:Nat) (k:Nat) (us:List V),ys[k]? =some (.tuple us)→go k=true→us.length=ps.size∧
   AWP P ⟨some l,S.h.length⟩ assign ⟨setPs ps.toList us T,H k,[]⟩ fun e S1=>e=.normal∧noExt S1.h=true∧
    AWP P ⟨some l,S.h.length⟩ body S1 fun e S2=>e=(bif go (k+1)then .normal else jx)∧S2.h=H (k+1))
  (hfree:∀(q i:Nat) (k:Blk),(H q)[i]? =some k→BlkFree k)
  (hQ:Q (bif go (stopK go 0 ys.length)then .normal else jx) {t:=S.t,h:=mergeB fs S.h (H (stopK go 0 ys.length))++ [.obj (.deferred (some []))],d:=[S.h.length]}):
  AWP P ⟨none,m⟩ (.rangeFunc g ps assign body) S Q:=fun β G K a w r=>by
 have hstill:∀ {i:Nat} {k:Blk},(stillB fs S.h)[i]? =some k→k≠ .gone→fs.getD i false=true∧S.h[i]? =some k:=fun {i k} hi hk=>by
  rw[stillB_get]at hi
  split at hi
  ·rename_i hf;exact⟨hf,hi⟩
  ·cases hh:S.h[i]? with
   |none=>rw[hh]at hi;cases hi
   |some k'=>rw[hh]at hi;cases hi;exact absurd rfl hk
 have hother:∀ {i:Nat} {k:Blk},(otherB fs S.h)[i]? =some k→k≠ .gone→fs.getD i false=false∧S.h[i]? =some k:=fun {i k} hi hk=>by
  rw[otherB_get]at hi
  split at hi
  ·cases hh:S.h[i]? with
   |none=>rw[hh]at hi;cases hi
   |some k'=>rw[hh]at hi;cases hi;exact absurd rfl hk
  ·rename_i hf;exact⟨by simpa using hf,hi⟩
 have rF:RH β G K (stillB fs S.h) w:=r.h.part hnS (stillB_length _ _) fun i k hi hk=>(hstill hi hk).2
 obtain⟨G1,hG1⟩:∃G1,allOf β G (stillB fs S.h) w=G1:=⟨_,rfl⟩
 have hGG:G.le G1:=by rw[←hG1];exact allOf_le _ _ _ _
 have hGk:KeepsIn G1 w:=by rw[←hG1];exact allOf_keeps rF
 have hGn:∀b o,G1 b=some o→G b=some o∨∃(i:Nat) (x:Home) (k:Blk),(stillB fs S.h)[i]? =some k∧k≠ .gone∧β[i]? =some (.lie x)∧x.b=b:=fun b o hb=>by
  rw[←hG1]at hb
  change allF β G (stillB fs S.h) w b=some o at hb
  unfold allF at hb
  split at hb
  ·rename_i o' hG;exact .inl (hG.trans hb)
  ·split at hb
   ·rename_i hex;exact .inr hex
   ·cases hb
 have hGh:∀(i:Nat) (x:Home) (k:Blk),(stillB fs S.h)[i]? =some k→k≠ .gone→β[i]? =some (.lie x)→G1 x.b=w.heap[x.b]? :=fun i x k h1 h2 h3=>by
  have hlt:=(rF.sep i x k h1 h2 h3).2
  rw[Array.getElem?_eq_getElem hlt,←hG1]
  exact allOf_home rF h1 h2 h3 (Array.getElem?_eq_getElem hlt)
 obtain⟨K1,hK1⟩:∃K1:Kept,K1=⟨fun b=>match K b with|some o=>some o|none=>G1 b,K.amb⟩:=⟨_,rfl⟩
 have k1s:K1.amb=K.amb:=by rw[hK1]
 have hKK:K.le K1:=⟨fun b o hb=>by rw[hK1];simp[hb],k1s.symm⟩
 have hG1K1:G1.le K1:=by
  refine⟨fun b o hb=> ?_,hGG.same.symm.trans (r.h.gk.same.trans k1s.symm)⟩
  rw[hK1]
  cases hKb:K b with
  |none=>simp[hKb,hb]
  |some o'=>
   have h1:=r.h.keep _ _ hKb
   rw[hGk _ _ hb]at h1
   simp[hKb,h1]
 have hK1n:∀b,K1 b=none→K b=none:=fun b hb=>by
  cases hKb:K b with
  |none=>rfl
  |some o=>rw[hKK _ _ hKb]at hb;cases hb
 have r1:RS β G1 K1 ⟨T,H 0,[]⟩ {a with defers:=[]} w:=by
  refine⟨?_,by rw[hTl];exact r.size,fun j=> ?_,rfl,fun j hj=>by simp at hj⟩
  ·rw[hH0]
   have r0:RH β G K (otherB fs S.h) w:=r.h.part hnS (otherB_length _ _) fun i k hi hk=>(hother hi hk).2
   refine⟨r0.len,fun i k hk=> ?_,r0.inj,fun i x k hi hk hb=>⟨?_,(r0.sep i x k hi hk hb).2⟩,fun b o hb=> ?_,hG1K1,by rw[k1s];exact r.h.amb,fun i X tr hi=>absurd hi (noExt_not (by rw[←hH0];exact hne 0))⟩
   ·by_cases hg:k=.gone
    ·subst hg;cases(β[i]?.getD .void)<;>trivial
    ·exact(r0.blk i k hk).mono hGG (Homes.le_refl _) fun _ _=>rfl
   ·cases h1:K1 x.b with
    |none=>rfl
    |some o=>
     exfalso
     have hs:=(r0.sep i x k hi hk hb).1
     rw[hK1]at h1
     simp only[hs]at h1
     rcases hGn _ _ h1 with h2|⟨i2,x2,k2,p1,p2,p3,p4⟩
     ·have:=r.h.gk _ _ h2;rw[hs]at this;cases this
     ·obtain⟨f1,s1⟩:=hstill p1 p2
      obtain⟨f2,s2⟩:=hother hi hk
      have:=r.h.inj i i2 x x2 k k2 s2 s1 hk p2 hb p3 p4.symm
      subst this
      rw[f1]at f2;cases f2
   ·rw[hK1]at hb
    simp only at hb
    split at hb
    ·rename_i o' hKb;cases hb;exact r.h.keep _ _ hKb
    ·exact hGk _ _ hb
  ·rcases hT j with h|h
   ·show Rel G1 β (T.getD j .undef) _
    rw[h];exact(r.tmp j).mono hGG (Homes.le_refl _)
   ·have:=snap_rel rF h (r.tmp j)
    rw[hG1]at this
    exact this.up _
 have hl0:(H 0).length=S.h.length:=hlen 0
 have hdef:a.defers=[]:=List.eq_nil_of_length_eq_zero (by rw[r.marks,hd];rfl)
 have ha:({a with defers:=[]}:Act)=a:=by cases a;simp at hdef;subst hdef;rfl
 rw[ha]at r1
 refine range_wpL (m:=m) r1 hg hcaps hcf hit rfl (fun k=>by rw[hlen k];exact hl0.symm) (fun k=>.of_no (hne k)) (fun k=>hfree (k+1)) hgo hj (fun l k us h1 h2=>by
  obtain⟨p1,p2⟩:=hround l k us h1 h2
  refine⟨p1,?_⟩
  simp only[hl0]
  exact p2.mono fun e S1 ⟨q1,q2,q3⟩=>⟨q1,.of_no q2,q3⟩) fun β2 G2 K3 D w4 q1 hlb q2 q3 hr5=> ?_
 rw[show(St.mk T (H 0) []).h.length=S.h.length from hl0]at hlb
 generalize stopK go 0 ys.length=kk at hr5 hQ
 let FH:Nat→Prop:=fun b=>∃(i:Nat) (x:Home) (k:Blk),(stillB fs S.h)[i]? =some k∧k≠ .gone∧β[i]? =some (.lie x)∧x.b=b
 have hFK:∀b,FH b→K b=none:=fun b ⟨i,x,k,h1,h2,h3,h4⟩=>by rw[←h4];exact(rF.sep i x k h1 h2 h3).1
 have hF4:∀b,FH b→w4.heap[b]? =w.heap[b]?∧K3 b≠none:=fun b ⟨i,x,k,h1,h2,h3,h4⟩=>by
  have h5:=hGh i x k h1 h2 h3
  have hlt:=(rF.sep i x k h1 h2 h3).2
  rw[Array.getElem?_eq_getElem hlt]at h5
  have h6:=q3 _ _ (hG1K1 _ _ h5)
  rw[←h4,hr5.keep _ _ h6,Array.getElem?_eq_getElem hlt]
  exact⟨rfl,by rw[h6];simp⟩
 obtain⟨G5,hG5⟩:∃G5:Kept,G5=⟨fun b=>open Classical in if FH b then none else G2 b,G2.amb⟩:=⟨_,rfl⟩
 obtain⟨K5,hK5⟩:∃K5:Kept,K5=⟨fun b=>open Classical in if FH b then none else K3 b,K3.amb⟩:=⟨_,rfl⟩
 have g5m:G5.amb=G2.amb:=by rw[hG5]
 have k5m:K5.amb=K3.amb:=by rw[hK5]
 have g5n:∀b,¬FH b→G5 b=G2 b:=fun b hb=>by rw[hG5];simp only[if_neg hb]
 have k5n:∀b,¬FH b→K5 b=K3 b:=fun b hb=>by rw[hK5];simp only[if_neg hb]
 have g5s:∀b o,G5 b=some o→¬FH b∧G2 b=some o:=fun b o hb=>by
  rw[hG5]at hb;simp only at hb
  split at hb
  ·cases hb
  ·rename_i hf;exact⟨hf,hb⟩
 have k5s:∀b o,K5 b=some o→¬FH b∧K3 b=some o:=fun b o hb=>by
  rw[hK5]at hb;simp only at hb
  split at hb
  ·cases hb
  ·rename_i hf;exact⟨hf,hb⟩
 have hGG5:G.le G5:=by
  refine⟨fun b o hb=> ?_,hGG.same.trans (q2.1.same.trans g5m.symm)⟩
  have hKb:=r.h.gk _ _ hb
  rw[g5n b (fun hf=>by rw[hFK b hf]at hKb;cases hKb)]
  exact q2.1 _ _ (hGG _ _ hb)
 have hKK5:K.le K5:=by
  refine⟨fun b o hb=> ?_,hKK.same.trans (q3.same.trans k5m.symm)⟩
  rw[k5n b (fun hf=>by rw[hFK b hf]at hb;cases hb)]
  exact q3 _ _ (hKK _ _ hb)
 have hext5:G.ext K G5:=⟨hGG5,fun b o hb=>by
  obtain⟨hf,h2⟩:=g5s b o hb
  rcases q2.2 _ _ h2 with h3|h3
  ·rcases hGn _ _ h3 with h4|h4
   ·exact .inl h4
   ·exact absurd h4 hf
  ·exact .inr (hK1n _ h3)⟩
 have hβ:β.le (β2++ [Hm.lie ⟨D,0,0⟩]):=q1.trans (Homes.le_append _ _)
 have hml:=mergeB_length fs S.h (H kk) (hlen kk)
 have look:∀ {i:Nat} {k:Blk},(mergeB fs S.h (H kk)++ [Blk.obj (.deferred (some []))])[i]? =some k→(fs.getD i false=true∧i<S.h.length∧S.h[i]? =some k)∨((H kk++ [Blk.obj (.deferred (some []))])[i]? =some k∧(fs.getD i false=false∨S.h.length≤i)):=fun {i k} hi=>by
  rcases Nat.lt_or_ge i S.h.length with h1|h1
  ·rw[List.getElem?_append_left (by omega),mergeB_get fs S.h (H kk) i (hlen kk)]at hi
   split at hi
   ·rename_i hf;exact .inl ⟨hf,h1,hi⟩
   ·rename_i hf
    right
    rw[List.getElem?_append_left (by rw[hlen kk];exact h1)]
    exact⟨hi,.inl (by simpa using hf)⟩
  ·rw[List.getElem?_append_right (by omega)]at hi
   right
   rw[List.getElem?_append_right (by rw[hlen kk];exact h1),hlen kk,←hml]
   exact⟨hi,.inr (by omega)⟩
 have fhome:∀ {i:Nat} {k:Blk} {x:Home},fs.getD i false=true→S.h[i]? =some k→k≠ .gone→(β2++ [Hm.lie ⟨D,0,0⟩])[i]? =some (.lie x)→i<S.h.length→k≠ .void→β[i]? =some (.lie x)∧FH x.b:=fun {i k x} hf hi hk hb hil hkv=>by
  have hil':i<β.length:=by rw[r.h.len];exact hil
  have hne0:β[i]?≠some .void:=fun e=>by
   have:=r.h.blk i k hi
   rw[e]at this
   cases k<;>first|exact absurd rfl hk|exact absurd rfl hkv|exact this.elim
  have h1:β[i]? =some β[i]:=List.getElem?_eq_getElem hil'
  have h2:=hβ i _ (fun e=>hne0 (by rw[h1,e])) h1
  rw[hb]at h2
  have h3:β[i]? =some (.lie x):=by rw[h1];exact h2.symm
  exact⟨h3,i,x,k,by rw[stillB_get,if_pos hf];exact hi,hk,h3,rfl⟩
 have hrh:RH (β2++ [Hm.lie ⟨D,0,0⟩]) G5 K5 (mergeB fs S.h (H kk)++ [.obj (.deferred (some []))]) w4:=by
  refine⟨by simp[hlb,hml],fun i k hk=> ?_,fun i j x y k k' hi hj g g' hbi hbj e=> ?_,fun i x k hi g hb=> ?_,fun b o hb=>hr5.keep _ _ (k5s b o hb).2,⟨fun b o hb=> ?_,g5m.trans (hr5.gk.same.trans k5m.symm)⟩,by rw[k5m];exact hr5.amb,fun i X tr hi=> ?_⟩
  ·by_cases hg:k=.gone
   ·subst hg;cases((β2++ [Hm.lie ⟨D,0,0⟩])[i]?.getD .void)<;>trivial
   rcases look hk with⟨hf,hil,hi⟩|⟨hi,_⟩
   ·have hB:=r.h.blk i k hi
    have hil':i<β.length:=by rw[r.h.len];exact hil
    have h1:β[i]? =some β[i]:=List.getElem?_eq_getElem hil'
    rw[h1]at hB
    by_cases hv:β[i]=.void
    ·exfalso
     have hB':BlkOK G β w k .void:=by have:(some β[i]).getD .void=.void:=hv;rw[this]at hB;exact hB
     cases k<;>first|exact absurd rfl hg|exact hB'.elim|skip
     exact hnv i hf hi
    ·have h2:=hβ i _ hv h1
     rw[h2]
     refine BlkOK.mono hB hGG5 hβ fun y hy=> ?_
     have h3:β[i]? =some (.lie y):=by rw[h1];exact congrArg some hy
     exact(hF4 y.b ⟨i,y,k,by rw[stillB_get,if_pos hf];exact hi,hg,h3,rfl⟩).1
   ·refine(hr5.blk i k hi).free ?_
    rcases Nat.lt_or_ge i (H kk).length with h1|h1
    ·rw[List.getElem?_append_left h1]at hi;exact hfree _ i k hi
    ·rw[List.getElem?_append_right h1]at hi
     have:k=.obj (.deferred (some [])):=by
      rcases Nat.lt_or_ge (i-(H kk).length) 1 with h2|h2
      ·have:i-(H kk).length=0:=by omega
       rw[this]at hi;simpa using hi.symm
      ·rw[List.getElem?_eq_none (by simpa using h2)]at hi;cases hi
     subst this;trivial
  ·have kv:∀ {i:Nat} {x:Home} {k:Blk},fs.getD i false=true→S.h[i]? =some k→(β2++ [Hm.lie ⟨D,0,0⟩])[i]? =some (.lie x)→k≠ .void:=fun hf hi _ e=>hnv _ hf (by rw[hi,e])
   rcases look hi with⟨hf,hil,h1⟩|⟨h1,_⟩<;>rcases look hj with⟨hf2,hjl,h2⟩|⟨h2,_⟩
   ·exact r.h.inj i j x y k k' h1 h2 g g' (fhome hf h1 g hbi hil (kv hf h1 hbi)).1 (fhome hf2 h2 g' hbj hjl (kv hf2 h2 hbj)).1 e
   ·exfalso
    have h3:=(hF4 _ (fhome hf h1 g hbi hil (kv hf h1 hbi)).2).2
    have h4:=(hr5.sep j y k' h2 g' hbj).1
    rw[e]at h3;exact h3 h4
   ·exfalso
    have h3:=(hF4 _ (fhome hf2 h2 g' hbj hjl (kv hf2 h2 hbj)).2).2
    have h4:=(hr5.sep i x k h1 g hbi).1
    rw[←e]at h3;exact h3 h4
   ·exact hr5.inj i j x y k k' h1 h2 g g' hbi hbj e
  ·rcases look hi with⟨hf,hil,h1⟩|⟨h1,_⟩
   ·have kv:k≠ .void:=fun e=>hnv _ hf (by rw[h1,e])
    obtain⟨h2,h3⟩:=fhome hf h1 g hb hil kv
    refine⟨by rw[hK5];simp only[if_pos h3],?_⟩
    have h4:=(hF4 _ h3).1
    have h5:=(r.h.sep i x k h1 g h2).2
    rw[Array.getElem?_eq_getElem h5]at h4
    exact(Array.getElem?_eq_some_iff.1 h4).1
   ·have h2:=hr5.sep i x k h1 g hb
    refine⟨?_,h2.2⟩
    cases h3:K5 x.b with
    |none=>rfl
    |some o=>have:=(k5s _ _ h3).2;rw[h2.1]at this;cases this
  ·obtain⟨h1,h2⟩:=g5s b o hb
   rw[k5n b h1];exact hr5.gk _ _ h2
  ·rcases look hi with⟨_,_,h1⟩|⟨h1,_⟩
   ·exact absurd h1 (noExt_not hnS)
   ·exfalso
    rcases Nat.lt_or_ge i (H kk).length with h2|h2
    ·rw[List.getElem?_append_left h2]at h1;exact absurd h1 (noExt_not (hne kk))
    ·rw[List.getElem?_append_right h2]at h1
     rcases Nat.lt_or_ge (i-(H kk).length) 1 with h3|h3
     ·have:i-(H kk).length=0:=by omega
      rw[this]at h1;simp at h1
     ·rw[List.getElem?_eq_none (by simpa using h3)]at h1;cases h1
 refine⟨{t:=S.t,h:=mergeB fs S.h (H kk)++ [.obj (.deferred (some []))],d:=[S.h.length]},_,G5,K5,hβ.low _,hext5,hKK5,⟨hrh,r.size,fun j=>(r.tmp j).mono hGG5 hβ,by simp[hdef],fun j hj=> ?_⟩,hQ⟩
 have:j=0:=by simp at hj;omega
 subst this
 exact⟨⟨D,0,0⟩,by simp[←hlb],rfl,by simp[←hml]⟩
theorem stopK_all:∀n k,stopK (fun _=>true) k n=k+n
 |0,k=>rfl
 |n+1,k=>by
  show(bif true then stopK (fun _=>true) (k+1) n else k)=_
  rw[cond_true,stopK_all n (k+1)];omega
theorem AWP.rangeVT{P:Program}{m:Nat}{S:St}{g:Operand}{ps:Array Tmp}{assign body:Code}{f:FuncId}{caps ys:List V}{fs:List Bool}{T:List V}{H:Nat→List Blk}
  (hd:S.d=[]) (hnS:noExt S.h=true) (hnv:∀i,fs.getD i false=true→S.h[i]? =some .void→False) (hTl:T.length=S.t.length) (hT:∀j,T.getD j .undef=S.t.getD j .undef∨Snap (stillB fs S.h) (S.t.getD j .undef) (T.getD j .undef)) (hg:St.eval ⟨T,H 0,[]⟩ g=.func (.func f) [] caps) (hcaps:underL 0 caps=true) (hcf:∀xs w,(callFunc f xs).run P w=.ok (.enter f xs) w)
  (hit:IterL P f caps ys) (hH0:H 0=otherB fs S.h) (hlen:∀k,(H k).length=S.h.length) (hne:∀k,noExt (H k)=true)
  (hround:∀(l:Nat) (k:Nat) (us:List V),ys[k]? =some (.tuple us)→us.length=ps.size∧
   AWP P ⟨some l,S.h.length⟩ assign ⟨setPs ps.toList us T,H k,[]⟩ fun e S1=>e=.normal∧noExt S1.h=true∧
    AWP P ⟨some l,S.h.length⟩ body S1 fun e S2=>e=.normal∧S2.h=H (k+1))
  (hfree:∀(q i:Nat) (k:Blk),(H q)[i]? =some k→BlkFree k):
  AWP P ⟨none,m⟩ (.rangeFunc g ps assign body) S fun e T=>e=.normal∧T={t:=S.t,h:=mergeB fs S.h (H ys.length)++ [.obj (.deferred (some []))],d:=[S.h.length]}:=by
 refine AWP.rangeFV (go:=fun _=>true) (jx:=.ret) (jc:=.ret) hd hnS hnv hTl hT hg hcaps hcf hit hH0 hlen hne rfl rfl (fun l k us h1 _=>hround l k us h1) hfree ?_
 refine⟨by cases stopK (fun _=>true) 0 ys.length<;>rfl,?_⟩
 rw[stopK_all,Nat.zero_add]
theorem AWP.rangeV1{P:Program}{m:Nat}{S:St}{g:Operand}{ps:Array Tmp}{assign body:Code}{f:FuncId}{caps ys:List V}{fs:List Bool}{T:List V}{H1:List Blk}{jx:Exit}{jc:Code}
  (hd:S.d=[]) (hnS:noExt S.h=true) (hnv:∀i,fs.getD i false=true→S.h[i]? =some .void→False) (hTl:T.length=S.t.length) (hT:∀j,T.getD j .undef=S.t.getD j .undef∨Snap (stillB fs S.h) (S.t.getD j .undef) (T.getD j .undef)) (hg:St.eval ⟨T,otherB fs S.h,[]⟩ g=.func (.func f) [] caps) (hcaps:underL 0 caps=true) (hcf:∀xs w,(callFunc f xs).run P w=.ok (.enter f xs) w)
  (hit:IterL P f caps ys) (hl1:H1.length=S.h.length) (hn0:noExt (otherB fs S.h)=true) (hn1:noExt H1=true) (hj:exitCode jx=some jc)
  (hround:∀(l:Nat) (us:List V),ys[0]? =some (.tuple us)→us.length=ps.size∧
   AWP P ⟨some l,S.h.length⟩ assign ⟨setPs ps.toList us T,otherB fs S.h,[]⟩ fun e S1=>e=.normal∧noExt S1.h=true∧
    AWP P ⟨some l,S.h.length⟩ body S1 fun e S2=>e=jx∧S2.h=H1)
  (hf0:∀(i:Nat) (k:Blk),(otherB fs S.h)[i]? =some k→BlkFree k) (hf1:∀(i:Nat) (k:Blk),H1[i]? =some k→BlkFree k):
  AWP P ⟨none,m⟩ (.rangeFunc g ps assign body) S fun e T=>(ys=[]→e=.normal∧T={t:=S.t,h:=mergeB fs S.h (otherB fs S.h)++ [.obj (.deferred (some []))],d:=[S.h.length]})∧
   (ys≠ []→e=jx∧T={t:=S.t,h:=mergeB fs S.h H1++ [.obj (.deferred (some []))],d:=[S.h.length]}):=by
 refine AWP.rangeFV (go:=fun k=>k==0) (H:=fun k=>match k with|0=>otherB fs S.h|_+1=>H1) (jx:=jx) (jc:=jc) hd hnS hnv hTl hT hg hcaps hcf hit rfl (fun k=> ?_) (fun k=> ?_) rfl hj (fun l k us h1 h2=> ?_) (fun q i k h=> ?_) ?_
 ·cases k with
  |zero=>exact otherB_length _ _
  |succ k=>exact hl1
 ·cases k with
  |zero=>exact hn0
  |succ k=>exact hn1
 ·have:k=0:=by simpa using h2
  subst this
  exact hround l us h1
 ·cases q with
  |zero=>exact hf0 i k h
  |succ q=>exact hf1 i k h
 ·match ys with
  |[]=>exact⟨fun _=>⟨rfl,rfl⟩,fun h=>absurd rfl h⟩
  |y::ys=>
   have e:stopK (fun k=>k==0) 0 (y::ys).length=1:=by
    show(bif (0:Nat)==0 then stopK (fun k=>k==0) 1 ys.length else 0)=1
    rw[show((0:Nat)==0)=true from rfl,cond_true]
    cases ys<;>rfl
   rw[e]
   exact⟨fun h=>absurd h (List.cons_ne_nil _ _),fun _=>⟨rfl,rfl⟩⟩
section
variable {P:Program} {h:List Blk}
theorem run_copy_rowW(w:World)(dT sT ty elem:TypeId)(g o dLen dCap:Nat)(a:Addr)(sLen sCap:Nat)(cur:Array Value)(t:TypeId)(cs:List Value){sz:Nat}
  (hu:P.underlying dT=some (.slice elem)) (hs:(P.info? elem).map (·.size)=some sz)
  (hg:w.heap[g]? =some (.cells cur t (0,0))) (hn:cs.length=Nat.min sLen dLen*sz)
  (hsrc:∀j v,cs[j]? =some v→w.cell? (a.add j)=some v) (hfit:o+cs.length≤cur.size) (h1:∀v∈cs,v.oneCell'=true):
  (Builtin.copy_ #[dT,sT] ty #[.slice (some ⟨g,o,none⟩) dLen dCap,.slice (some a) sLen sCap]).run P w=
   .ok (goInt (Nat.min sLen dLen)) (w.setRow g (cur.toList.take o++cs++cur.toList.drop (o+cs.length)).toArray):=by
 have hl:=run_loadCells_list (P:=P) w a cs hsrc
 have hst:=run_storeCells_at P g o t cs 0 cur w hg (by simpa using hfit) h1
 cases hq:P.info? elem with
 |none=>simp[hq]at hs
 |some i=>
  have hi:i.size=sz:=by simpa[hq]using hs
  simp[Builtin.copy_,run_underlying hu,Builtin.lenOf,Builtin.firstCells,Go.sizeOf,typeInfo,hq,hi,←hn,hl,hst]
theorem run_copy_noneW(w:World)(dT sT ty elem:TypeId)(d a:Option Addr)(dLen dCap sLen sCap:Nat){sz:Nat}(hu:P.underlying dT=some (.slice elem))(hs:(P.info? elem).map (·.size)=some sz)(hn:Nat.min sLen dLen=0):
  (Builtin.copy_ #[dT,sT] ty #[.slice d dLen dCap,.slice a sLen sCap]).run P w=.ok (goInt 0) w:=by
 cases hq:P.info? elem with
 |none=>simp[hq]at hs
 |some i=>
  have hl:∀(x:Addr),(loadCells x 0).run P w=.ok #[] w:=fun x=>by simpa using run_loadCells_list (P:=P) w x [] (by simp)
  cases d<;>cases a<;>simp[Builtin.copy_,run_underlying hu,Builtin.lenOf,Builtin.firstCells,Go.sizeOf,typeInfo,hq,hn,storeCells,hl]
theorem sem_copyW{x y:Operand}{dT sT e:TypeId}{i n wd:Nat}{et:TypeId}{c c0:Nat→Nat→V}(hu:P.underlying dT=some (.slice e))(hs:(P.info? e).map (·.size)=some wd)(hi:h[i]? =some (.rows et wd n c0))(hc1:∀r,r<n→∀j,j<wd→(c r j).scalar=true):
  SemOK P (.call {callee:=.builtin .copy,args:= #[x,y],argTypes:= #[dT,sT]}) [(x,.row i n),(y,.list wd n c)] h (.int .i64 n) (h.set i (.rows et wd n c)):=fun β G K w ρ' oper ho _ r hr=>by
 have hx:=hr (x,.row i n) (by simp)
 have hy:=hr (y,.list wd n c) (by simp)
 simp only at hx hy
 have hB:=r.blk i _ hi
 have fin:∀w',(Builtin.copy_ #[dT,sT] oper.type #[ρ' x,ρ' y]).run P w=.ok (.int .i64 n) w'→RH β G K (h.set i (.rows et wd n c)) w'→OpOK P β G K w ρ' oper (.int .i64 n) (h.set i (.rows et wd n c)):=fun w' hrun hrh=>
  ⟨.value (.int .i64 n),w',β,by
   simp only[execOp,ho,resolve,Sem.run_bind,Sem.run_pure,Result.andThen_ok,invoke,builtin,List.map_toArray,List.map_cons,List.map_nil,hrun],Homes.le_refl _,hrh,.int _ _⟩
 rcases Nat.eq_zero_or_pos n with h0|h0
 ·subst h0
  refine fin w ?_ (r.swap hi (by simp) rfl ?_)
  ·have:∃a cp,ρ' x=.slice a 0 cp:=by generalize ρ' x=xv at hx;cases hx<;>exact⟨_,_,rfl⟩
   obtain⟨a1,c1,e1⟩:=this
   have:∃a cp,ρ' y=.slice a 0 cp:=by generalize ρ' y=yv at hy;cases hy<;>exact⟨_,_,rfl⟩
   obtain⟨a2,c2,e2⟩:=this
   rw[e1,e2]
   exact run_copy_noneW w dT sT oper.type e a1 a2 0 c1 0 c2 hu hs rfl
  ·revert hB
   cases β[i]?.getD .void with
   |void=>exact id
   |nil=>exact id
   |ext l=>exact id
   |lie z=>
    rintro⟨h0,hn,hcm,ca,h1,h2,h3,h4,h5⟩
    exact⟨h0,hn,hcm,ca,h1,h2,h3,h4,fun r j hr=>by omega⟩
 ·generalize hxv:ρ' x=xv at hx
  generalize hyv:ρ' y=yv at hy
  cases hx with
  |row0 _=>omega
  |row hb hcp hcc hm=>
   rename_i cap z
   cases hy with
   |list0=>omega
   |list hG hsz hcap hn hc=>
    rename_i b2 off cap2 cs ct fz
    rw[hb]at hB
    obtain⟨hw1,hw0,hcm,cur,hh,hs2,hmc,hmx,hrr⟩:=hB
    have hsrc0:=r.keep _ _ (r.gk _ _ hG)
    have hcsz:off+n*wd≤cs.size:=hsz
    have hmul:∀q,q<n*wd→q/wd<n∧q%wd<wd∧(q/wd)*wd+q%wd=q:=fun q hq=>⟨Nat.div_lt_of_lt_mul (by rwa[Nat.mul_comm]),Nat.mod_lt _ hw0,by rw[Nat.mul_comm];exact Nat.div_add_mod q wd⟩
    have hcap':n*wd≤cur.size:=by rw[hs2];exact Nat.mul_le_mul_right _ (by omega)
    have hrow:=run_copy_rowW (P:=P) w dT sT oper.type e z.b 0 n cap ⟨b2,off,none⟩ n cap2 cur et ((List.range (n*wd)).map fun j=>cs.getD (off+j) Go.undef) hu hs hh (by simp) (fun j v hv=>by
     simp only[List.getElem?_map]at hv
     rcases Nat.lt_or_ge j (n*wd)with q|q
     ·rw[List.getElem?_range q]at hv
      simp only[Option.map_some,Option.some.injEq]at hv
      subst hv
      rw[addr_add]
      simp only[World.cell?,hsrc0]
      rw[Array.getElem?_eq_getElem (by omega)]
      simp[Array.getD_eq_getD_getElem?,Array.getElem?_eq_getElem (show off+j<cs.size by omega)]
     ·rw[List.getElem?_eq_none (by simpa using q)]at hv;cases hv) (by simp;omega) (fun v hv=>by
     simp only[List.mem_map,List.mem_range]at hv
     obtain⟨j,hj,rfl⟩:=hv
     obtain⟨m1,m2,m3⟩:=hmul j hj
     have:=hc (j/wd) (j%wd) m1 m2
     rw[m3]at this
     exact(this.scalar (hc1 _ m1 _ m2)).2)
    refine fin _ (by rw[hxv,hyv];simpa[goInt]using hrow) (r.write hi (by simp) hb (fun b hb'=>setRow_other w _ _ _ hb') (by simp) ⟨hw1,by omega,hcm,_,setRow_heap w _ cur _ et _ hh,?_,hmc,hmx,fun q j hq hj=> ?_⟩)
    ·simp only[List.take_zero,List.nil_append,List.size_toArray,List.length_append,List.length_map,List.length_range,List.length_drop,Array.length_toList]
     rw[hs2]at*;omega
    ·have hlt:q*wd+j<n*wd:=by
      have:(q+1)*wd≤n*wd:=Nat.mul_le_mul_right _ hq
      rw[Nat.succ_mul]at this;omega
     have:=hc q j hq hj
     simpa[Array.getD_eq_getD_getElem?,List.getElem?_append_left,hlt]using this
theorem sem_makeAt{t e:TypeId}{l c:Operand}{k k':IntKind}{n:Int}{q wd:Nat}{zs:List V}(hu:P.underlying t=some (.slice e))(hz:zeroCs P e=some zs)(hd:decide (hasT P e=true∧szOf P e=wd∧0<wd∧zs.length=wd∧P.bytesOf e≤65536)=true)(hvd:h[q]? =some .void)(h1:0≤n)(h3:n≤4294967296):
  SemOK P (.makeSlice t l c) [(l,.int k n),(c,.int k' n)] h (.row q n.toNat) (h.set q (.rows e wd n.toNat fun _ j=>zs.getD j .undef)):=fun β G K w ρ' o hop _ r hr=>by
 obtain⟨he,hsz0,h0,hzl,hby⟩:=of_decide_eq_true hd
 subst hsz0
 have hl':=hr (l,.int k n) (by simp)
 have hc':=hr (c,.int k' n) (by simp)
 simp only at hl' hc'
 generalize hx:ρ' l=lx at hl'
 generalize hy:ρ' c=cx at hc'
 cases hl';cases hc'
 obtain⟨z,z1,z2,z3⟩:=zeroCs_ok hz w
 have hinfo:∃i,P.info? e=some i:=by
  unfold hasT at he
  cases hi:P.info? e with
  |none=>simp[hi]at he
  |some i=>exact⟨i,rfl⟩
 obtain⟨i,hi⟩:=hinfo
 have hiz:i.zero=some z:=by
  cases hiz:i.zero with
  |none=>simp[zeroCs,hi,hiz]at hz
  |some z'=>
   have:(zeroValue e).run P w=.ok z' w:=by simp only[zeroValue,Sem.run_bind,run_typeInfo' hi,Result.andThen_ok,hiz,Sem.run_pure]
   rw[this]at z1;cases z1;rfl
 have hsz:i.size=szOf P e:=by simp[szOf,Program.cellsOf,hi]
 have hb':i.bytes≤65536:=by simpa[Program.bytesOf,hi]using hby
 have hbytes:(i.bytes:Int)*n≤281474976710656:=by
  obtain⟨n,rfl⟩:=Int.eq_ofNat_of_zero_le h1
  have:i.bytes*n≤65536*4294967296:=Nat.mul_le_mul hb' (by omega)
  have:((i.bytes*n:Nat):Int)≤281474976710656:=by omega
  rwa[Int.natCast_mul]at this
 have hr:=run_make (P:=P) w t e i z hu hi hiz k k' n n h1 (Int.le_refl _) hbytes (by omega)
 have hzs:z.cells.size=szOf P e:=by rw[z2,hzl]
 have hlt:q<β.length:=by rw[r.len];exact(List.getElem?_eq_some_iff.1 hvd).1
 have hle:=le_set_void (x:=.lie ⟨w.heap.size,szOf P e,n.toNat⟩) (r.void_home hvd)
 have hrun:(execOp ρ' o).run P w=.ok (.value (.slice (some ⟨w.heap.size,0,none⟩) n.toNat n.toNat)) (w.alloc (.cells (madeCells z.cells (n.toNat*i.size)) e)):=by
  simp only[execOp,hop,hx,hy,Sem.run_bind,hr,Result.andThen_ok,Sem.run_pure]
 refine⟨_,_,β.set q (.lie ⟨w.heap.size,szOf P e,n.toNat⟩),hrun,hle,r.fillG (fun b hb=>heap_alloc_lt w _ hb) (by simp) hvd (x:=⟨w.heap.size,szOf P e,n.toNat⟩) (Nat.le_refl _) (by simp) ?_ (Mild.alloc w _),?_⟩
 ·refine⟨rfl,h0,by unfold maxLen;show n.toNat≤_;omega,_,heap_alloc_new w _,by rw[size_madeCells,hsz],Nat.le_refl _,by unfold maxn;omega,fun q j hq hj=> ?_⟩
  have hlt:q*szOf P e+j<n.toNat*szOf P e:=by
   have:(q+1)*szOf P e≤n.toNat*szOf P e:=Nat.mul_le_mul_right _ hq
   rw[Nat.succ_mul]at this;omega
  have hmod:(q*szOf P e+j)%szOf P e=j:=by rw[Nat.mul_comm,Nat.mul_add_mod,Nat.mod_eq_of_lt hj]
  have:=z3 G [] j
  have hj':j<z.cells.size:=by rw[hzs];exact hj
  simp only[madeCells,Array.getD_eq_getD_getElem?,Array.getElem?_map,Array.getElem?_range,hsz,hlt,if_true,Option.map_some,Option.getD_some,hzs,hmod]
  rw[getElem!_pos z.cells j hj']
  simpa[Array.getD_eq_getD_getElem?,hj']using this
 ·exact .row (List.getElem?_set_self hlt) (Nat.le_refl _) (Nat.le_refl _) (by unfold maxn;omega)
end
section
variable {P:Program} {h:List Blk}
theorem home_maps{β:Homes}{G K:Kept}{w:World}(r:RH β G K h w){q:Nat}{ks:List Value}{vs:List V}{b:Nat}(hq:h[q]? =some (.maps ks vs))(hm:Rel G β (.map q) (.map (some b))):
  ∃(x:Home) (es:Array MapEntry),β[q]? =some (.lie x)∧x.b=b∧w.heap[b]? =some (.map es ks.length)∧es.size=ks.length∧∀j k,ks[j]? =some k→∃e,es[j]? =some e∧e.key=k∧e.born=j∧Rel G β (vs.getD j .undef) e.val:=by
 cases hm with
 |map hi=>
  rename_i x
  have:=r.blk q _ hq
  rw[hi]at this
  obtain⟨es,h1,h2,h3⟩:=this
  exact⟨x,es,hi,rfl,h1,h2,h3⟩
theorem sem_makeMapV(t:TypeId):SemOK P (.makeMap t none) [] h (.map h.length) (h++ [.maps [] []]):=fun β G K w ρ' oper ho _ r _=>by
 refine⟨.value (.map (some w.heap.size)),w.alloc (.map #[] 0),β++ [Hm.lie ⟨w.heap.size,0,0⟩],?_,Homes.le_append _ _,r.push rfl ⟨#[],heap_alloc_new w _,rfl,fun j k hj=>by simp at hj⟩,.map (ref_new r _ _ _)⟩
 simp only[execOp,ho,Sem.run_bind]
 simp only[Instr.makeMap,newObj]
 rfl
end
theorem AWP.reserve{P:Program}{ro:Env}{c:Code}{S:St}{Q:Exit→St→Prop}(n:Nat)(h:AWP P ro c ⟨S.t,S.h++List.replicate n .void,S.d⟩ Q):AWP P ro c S Q:=by
 intro β G K a w r
 have r1:RS (β++List.replicate n Hm.void) G K ⟨S.t,S.h++List.replicate n .void,S.d⟩ a w:=⟨r.h.reserve n,r.size,fun j=>(r.tmp j).mono G.le_refl (Homes.le_append _ _),r.marks,fun j hj=>by
  obtain⟨x,h1,h2,h3⟩:=r.mark j hj
  exact⟨x,Homes.le_append _ _ _ _ (by simp) h1,h2,by
   show(S.h++List.replicate n Blk.void)[S.d.getD j 0]? =_
   rw[List.getElem?_append_left (List.getElem?_eq_some_iff.1 h3).1];exact h3⟩⟩
 exact wpIn_mono (h _ G K a w r1) fun e a' w' hp=>hp.up ((Homes.le_append _ _).low _) (G.ext_refl K) K.le_refl
def aC(F:Nat→Int):Array Value:= #[.int .i64 (F 0),.int .i64 (F 1),.int .i64 (F 2),.int .i64 (F 3),.int .i64 (F 4)]
def aK(F:Nat→Int):Value:=.agg (aC F)
def aKV(F:Nat→Int):V:=.agg [.int .i64 (F 0),.int .i64 (F 1),.int .i64 (F 2),.int .i64 (F 3),.int .i64 (F 4)]
def same5(F G:Nat→Int):Bool:=F 0==G 0&&(F 1==G 1&&(F 2==G 2&&(F 3==G 3&&(F 4==G 4&&true))))
theorem same5_iff{F G:Nat→Int}:same5 F G=true↔F 0=G 0∧F 1=G 1∧F 2=G 2∧F 3=G 3∧F 4=G 4:=by simp[same5]
theorem aK_same{F G:Nat→Int}(h:same5 F G=true):aK F=aK G:=by
 obtain⟨h0,h1,h2,h3,h4⟩:=same5_iff.1 h
 unfold aK aC;rw[h0,h1,h2,h3,h4]
theorem rel_aK{G0:Kept}{β:Homes}(F:Nat→Int):Rel G0 β (aKV F) (aK F):=by
 refine .agg rfl fun j hj=> ?_
 have hj':j<5:=hj
 rcases show j=0∨j=1∨j=2∨j=3∨j=4 by omega with rfl|rfl|rfl|rfl|rfl<;>exact .int _ _
theorem rel_arr_inv{G0:Kept}{β:Homes}{c:Nat→Nat→V}{F:Nat→Int}{y:Value}(hc:∀r,r<5→c r 0=.int .i64 (F r))(h:Rel G0 β (.arr 1 5 c) y):y=aK F:=by
 cases h with
 |arr hs hh=>
  rename_i xs
  have hx:∀j,j<5→xs.getD j Go.undef=.int .i64 (F j):=fun j hj=>by
   have:=hh j 0 hj (by omega)
   rw[hc j hj,Nat.mul_one,Nat.add_zero]at this
   exact rel_int_inv this
  have:xs=aC F:=by
   apply Array.ext
   ·rw[hs];rfl
   ·intro j h1 h2
    have h5:j<5:=by rw[hs]at h1;omega
    have:=hx j h5
    rw[Array.getD_eq_getD_getElem?,Array.getElem?_eq_getElem h1]at this
    rw[show xs[j]=.int .i64 (F j)from this]
    rcases show j=0∨j=1∨j=2∨j=3∨j=4 by omega with rfl|rfl|rfl|rfl|rfl<;>rfl
  rw[this];rfl
section
variable {P:Program} {h:List Blk}
def noK(w:World):Kept:=⟨fun _=>none,⟨w.os,w.output,w.tape,0⟩⟩
theorem run_checkK{kt e:TypeId}(hk:P.underlying kt=some (.array 5 e))(he:P.underlying e=some (.int .i64))(hs:hasT P e=true)(hz:szOf P e=1)(hp:∀(F:Nat→Int) (i:Nat),i<5→partV P e [.int .i64 (F 0),.int .i64 (F 1),.int .i64 (F 2),.int .i64 (F 3),.int .i64 (F 4)] i=some (.int .i64 (F i)))(b:Bool)(F:Nat→Int)(w:World):
  (Instr.checkKey b 10000 kt (aK F)).run P w=.ok () w:=by
 have hpart:∀i,i<5→(part e (aC F) i).run P w=.ok (.int .i64 (F i)) w:=fun i hi=>by
  have hr:∀j,j<5→Rel (noK w) [] (([.int .i64 (F 0),.int .i64 (F 1),.int .i64 (F 2),.int .i64 (F 3),.int .i64 (F 4)]:List V).getD j .undef) ((aC F).getD j Go.undef):=fun j hj=>by
   rcases show j=0∨j=1∨j=2∨j=3∨j=4 by omega with rfl|rfl|rfl|rfl|rfl<;>exact .int _ _
  obtain⟨y,h1,h2⟩:=part_ok hs (xs:=[.int .i64 (F 0),.int .i64 (F 1),.int .i64 (F 2),.int .i64 (F 3),.int .i64 (F 4)]) (cs:=aC F) rfl hr (hp F i hi) w
  rw[rel_int_inv h2]at h1;exact h1
 have hint:∀(n:Nat) (k:Int),(Instr.checkKey b (n+1) e (.int .i64 k)).run P w=.ok () w:=fun n k=>by
  simp only[Instr.checkKey,Sem.run_bind,run_underlying' he,Result.andThen_ok]
  rfl
 have:∀n,(Instr.checkKey b (n+2) kt (aK F)).run P w=.ok () w:=fun n=>by
  rw[Instr.checkKey.eq_def]
  simp only[aK,Sem.run_bind,run_underlying' hk,Result.andThen_ok]
  rw[Std.Legacy.Range.forIn_eq_forIn_range']
  simp only[Std.Legacy.Range.size]
  have hl:List.range' 0 ((5-0+1-1)/1)=[0,1,2,3,4]:=by decide
  rw[hl]
  simp only[List.forIn_cons,List.forIn_nil,Sem.run_bind,run_sizeOf' hs,hz,Nat.mul_one,Result.andThen_ok,hpart 0 (by omega),hpart 1 (by omega),hpart 2 (by omega),hpart 3 (by omega),hpart 4 (by omega),hint,Sem.run_pure]
 exact this 9998
structure KeyT(P:Program)(kt:TypeId):Prop where
 und:∃e,P.underlying kt=some (.array 5 e)
 eqv:∀F G,eqV P 2 kt (aKV F) (aKV G)=some (same5 F G)
 chk:∀b F w,(Instr.checkKey b 10000 kt (aK F)).run P w=.ok () w
theorem run_equalK{kt:TypeId}(hk:KeyT P kt)(F G:Nat→Int)(w:World):(Op.equal kt (aK F) (aK G)).run P w=.ok (same5 F G) w:=
 eqV_ok (G:=noK w) (β:=[]) 2 10000 (by omega) kt (aKV F) (aKV G) _ _ _ w (hk.eqv F G) (rel_aK F) (rel_aK G)
theorem find_noneK{kt:TypeId}(hk:KeyT P kt)(F:Nat→Int)(w:World):∀(L:List MapEntry) (i:Nat),(∀e∈L,∃G,e.key=aK G∧same5 F G=false)→(Instr.findAsking kt (aK F) L i).run P w=.ok none w
 |[],_,_=>rfl
 |e::L,i,h=>by
  obtain⟨G,h1,h2⟩:=h e List.mem_cons_self
  have ih:=find_noneK hk F w L (i+1) fun e he=>h e (List.mem_cons_of_mem _ he)
  simp only[Instr.findAsking,Sem.run_bind,h1,run_equalK hk,h2,Result.andThen_ok]
  simpa using ih
theorem find_someK{kt:TypeId}(hk:KeyT P kt)(F:Nat→Int)(w:World)(e:MapEntry){G:Nat→Int}(he:e.key=aK G)(hs:same5 F G=true)(L2:List MapEntry):∀(L1:List MapEntry) (i:Nat),(∀e∈L1,∃G,e.key=aK G∧same5 F G=false)→(Instr.findAsking kt (aK F) (L1++e::L2) i).run P w=.ok (some (i+L1.length,e.val)) w
 |[],i,_=>by
  simp only[List.nil_append,Instr.findAsking,Sem.run_bind,he,run_equalK hk,hs,Result.andThen_ok]
  simp
 |d::L1,i,h=>by
  obtain⟨G2,h1,h2⟩:=h d List.mem_cons_self
  have ih:=find_someK hk F w e he hs L2 L1 (i+1) fun e he=>h e (List.mem_cons_of_mem _ he)
  simp only[List.cons_append,Instr.findAsking,Sem.run_bind,h1,run_equalK hk,h2,Result.andThen_ok]
  simpa[Nat.add_assoc,Nat.add_comm 1]using ih
theorem findNow_K{e:TypeId}(F:Nat→Int)(L:List MapEntry)(hL:∀x∈L,∃G,x.key=aK G):(Instr.findNow (.array 5 e) (aK F) L 0=some none∧L=[])∨Instr.findNow (.array 5 e) (aK F) L 0=none:=by
 cases L with
 |nil=>exact .inl ⟨rfl,rfl⟩
 |cons x L=>
  obtain⟨G,h⟩:=hL x List.mem_cons_self
  right
  simp[Instr.findNow,h,aK,Instr.sameNow]
theorem run_findK{kt:TypeId}(hk:KeyT P kt)(F:Nat→Int)(w:World)(L:List MapEntry)(hL:∀x∈L,∃G,x.key=aK G){r:Option (Nat × Value)}(hr:(Instr.findAsking kt (aK F) L 0).run P w=.ok r w):(Instr.findKey kt (aK F) L).run P w=.ok r w:=by
 obtain⟨e,hu⟩:=hk.und
 rcases findNow_K (e:=e) F L hL with⟨h1,rfl⟩|h1
 ·have:r=none:=by
   simp[Instr.findAsking]at hr;exact hr.symm
  subst this
  simp[Instr.findKey,run_underlying' hu,h1]
 ·simp[Instr.findKey,run_underlying' hu,h1,hr]
def entsK(M:List ((Nat→Int) × Int)):Array MapEntry:=((List.range M.length).map fun j=>({key:=aK (M.getD j (fun _=>0,0)).1,val:=.int .i64 (M.getD j (fun _=>0,0)).2,born:=j}:MapEntry)).toArray
def mK(M:List ((Nat→Int) × Int)):Blk:=.obj (.map (entsK M) M.length)
theorem entsK_size(M:List ((Nat→Int) × Int)):(entsK M).size=M.length:=by simp[entsK]
theorem entsK_get(M:List ((Nat→Int) × Int))(j:Nat)(hj:j<M.length):∃e,(entsK M)[j]? =some e∧e.key=aK M[j].1∧e.born=j∧e.val=.int .i64 M[j].2:=by
 refine⟨{key:=aK M[j].1,val:=.int .i64 M[j].2,born:=j},?_,rfl,rfl,rfl⟩
 have e:M.getD j (fun _=>0,0)=M[j]:=by rw[List.getD_eq_getElem?_getD,List.getElem?_eq_getElem hj];rfl
 rw[←e]
 simp[entsK,hj]
theorem entsK_ext{es:Array MapEntry}{M:List ((Nat→Int) × Int)}(hs:es.size=M.length)(he:∀j,(hj:j<M.length)→∃e,es[j]? =some e∧e.key=aK M[j].1∧e.born=j∧e.val=.int .i64 M[j].2):es=entsK M:=by
 apply Array.ext
 ·rw[hs,entsK_size]
 ·intro j h1 h2
  obtain⟨e,g1,g2,g3,g4⟩:=he j (by omega)
  obtain⟨e',f1,f2,f3,f4⟩:=entsK_get M j (by omega)
  rw[Array.getElem?_eq_getElem h1]at g1
  rw[Array.getElem?_eq_getElem h2]at f1
  cases g1;cases f1
  have:∀a b:MapEntry,a.key=b.key→a.val=b.val→a.born=b.born→a=b:=fun a b q1 q2 q3=>by cases a;cases b;simp_all
  exact this _ _ (g2.trans f2.symm) (g4.trans f4.symm) (g3.trans f3.symm)
theorem keys_in{es:Array MapEntry}{M:List ((Nat→Int) × Int)}(hs:es.size=M.length)(he:∀j,(hj:j<M.length)→∃e,es[j]? =some e∧e.key=aK M[j].1∧e.born=j∧e.val=.int .i64 M[j].2)(n:Nat){p:(Nat→Int)→Prop}(hp:∀j,(hj:j<M.length)→j<n→p M[j].1):∀e∈es.toList.take n,∃G,e.key=aK G∧p G:=fun e hm=>by
 obtain⟨j,hj,rfl⟩:=List.getElem_of_mem hm
 simp only[List.length_take,Array.length_toList]at hj
 obtain⟨e,h1,h2,-⟩:=he j (by omega)
 have e1:es[j]? =some es[j]:=Array.getElem?_eq_getElem (by omega)
 rw[e1]at h1
 cases h1
 exact⟨M[j].1,by simpa using h2,hp j (by omega) (by omega)⟩
theorem split_at{es:Array MapEntry}{j:Nat}{e:MapEntry}(h:es[j]? =some e):es.toList=es.toList.take j++e::es.toList.drop (j+1):=by
 have e1:es.toList[j]? =some e:=by simpa using h
 obtain⟨l1,l2⟩:=List.getElem?_eq_some_iff.1 e1
 rw[←l2,List.getElem_cons_drop,List.take_append_drop]
theorem put_mK{β:Homes}{G K:Kept}{w:World}(r:RH β G K h w){q:Nat}{x:Home}{M M':List ((Nat→Int) × Int)}(hq:h[q]? =some (mK M))(hx:β[q]? =some (.lie x)){es es':Array MapEntry}(hh:w.heap[x.b]? =some (.map es M.length))(hs:es'.size=M'.length)
  (he:∀j,(hj:j<M'.length)→∃e,es'[j]? =some e∧e.key=aK M'[j].1∧e.born=j∧e.val=.int .i64 M'[j].2):RH β G K (h.set q (mK M')) (w.putObj x.b (.map es' M'.length)):=by
 have hlt:=(Array.getElem?_eq_some_iff.1 hh).1
 rw[entsK_ext hs he]
 exact r.write (hm:=Mild.putObj _ _ _) hq (by simp[mK]) hx (fun b hb=>World.putObj_heap_other hb) (by simp) (World.putObj_heap_same hlt)
theorem open_mK{β:Homes}{G K:Kept}{w:World}(r:RH β G K h w){q:Nat}{M:List ((Nat→Int) × Int)}{y:Value}(hq:h[q]? =some (mK M))(hm:Rel G β (.map q) y):∃(x:Home) (es:Array MapEntry),y=.map (some x.b)∧β[q]? =some (.lie x)∧w.heap[x.b]? =some (.map es M.length)∧es.size=M.length∧
  (∀j,(hj:j<M.length)→∃e,es[j]? =some e∧e.key=aK M[j].1∧e.born=j∧e.val=.int .i64 M[j].2):=by
 obtain⟨b,hb⟩:=rel_map_inv hm
 rw[hb]at hm
 obtain⟨x,hx,rfl,hh⟩:=home_obj r hq hm
 exact⟨x,entsK M,hb,hx,hh,entsK_size M,entsK_get M⟩
variable {t kt et:TypeId} {M:List ((Nat→Int) × Int)} {q:Nat} {x y z:Operand} {F:Nat→Int} {c:Nat→Nat→V}
theorem sem_lookupK0(ht:P.underlying t=some (.map kt et))(hk:KeyT P kt)(hz:(P.info? et).bind (·.zero)=some (.int .i64 0))(hq:h[q]? =some (mK M))(hc:∀r,r<5→c r 0=.int .i64 (F r))(hno:∀p∈M,same5 F p.1=false):
  SemOK P (.lookup t x y false) [(x,.map q),(y,.arr 1 5 c)] h (.int .i64 0) h:=fun β G K w ρ' oper ho _ r hr=>by
 obtain⟨xx,es,hb,hx,hh,hs,he⟩:=open_mK r hq (hr (x,.map q) (by simp))
 have hy:=rel_arr_inv hc (hr (y,.arr 1 5 c) (by simp))
 simp only at hb hy
 have hzv:(zeroValue et).run P w=.ok (.int .i64 0) w:=by
  cases hi:P.info? et with
  |none=>simp[hi]at hz
  |some i=>
   cases hz':i.zero with
   |none=>simp[hi,hz']at hz
   |some z=>
    simp[hi,hz']at hz
    subst hz
    simp only[zeroValue,Sem.run_bind,run_typeInfo' hi,Result.andThen_ok,hz',Sem.run_pure]
 have hn:=keys_in hs he es.size (p:=fun G=>same5 F G=false) (fun j hj _=>hno _ (List.getElem_mem hj))
 have hn2:=keys_in hs he es.size (p:=fun _=>True) (fun j hj _=>trivial)
 rw[←Array.length_toList,List.take_length]at hn hn2
 have hf:=run_findK hk F w es.toList (fun e hm=>by obtain⟨G,h1,_⟩:=hn2 e hm;exact⟨G,h1⟩) (find_noneK hk F w es.toList 0 hn)
 have hg:(getObj xx.b).run P w=.ok (.map es M.length) w:=MapKept.run_getObj_map hh
 refine opOK_value (y:=.int .i64 0) r ?_ (.int _ _)
 have hrun:(Instr.lookup t (.map (some xx.b)) (aK F) false).run P w=.ok (.int .i64 0) w:=by
  simp only[Instr.lookup,Sem.run_bind,run_underlying' ht,Result.andThen_ok,hg,Sem.run_pure,hk.chk,hf]
  simp[hzv]
 simp only[execOp,ho,hb,hy,Sem.run_bind,hrun,Result.andThen_ok,Sem.run_pure]
theorem found_K{kt:TypeId}(hk:KeyT P kt){es:Array MapEntry}(hs:es.size=M.length)(he:∀j,(hj:j<M.length)→∃e,es[j]? =some e∧e.key=aK M[j].1∧e.born=j∧e.val=.int .i64 M[j].2){j:Nat}(hj:j<M.length)(hsm:same5 F M[j].1=true)(hne:∀i,(hi:i<M.length)→i<j→same5 F M[i].1=false)(w:World):
  ∃e,es[j]? =some e∧e.key=aK F∧e.born=j∧e.val=.int .i64 M[j].2∧(Instr.findKey kt (aK F) es.toList).run P w=.ok (some (j,.int .i64 M[j].2)) w:=by
 obtain⟨e,g1,g2,g3,g4⟩:=he j hj
 have hn:=keys_in hs he j (p:=fun G=>same5 F G=false) hne
 have hn2:=keys_in hs he es.size (p:=fun _=>True) (fun j hj _=>trivial)
 rw[←Array.length_toList,List.take_length]at hn2
 have hf:=find_someK hk F w e g2 hsm (es.toList.drop (j+1)) (es.toList.take j) 0 hn
 rw[←split_at g1]at hf
 have hl:(es.toList.take j).length=j:=by simp;omega
 rw[hl,Nat.zero_add,g4]at hf
 exact⟨e,g1,by rw[g2,←aK_same hsm],g3,g4,run_findK hk F w es.toList (fun e hm=>by obtain⟨G,h1,_⟩:=hn2 e hm;exact⟨G,h1⟩) hf⟩
theorem sem_lookupK1(ht:P.underlying t=some (.map kt et))(hk:KeyT P kt)(hq:h[q]? =some (mK M))(hc:∀r,r<5→c r 0=.int .i64 (F r)){j:Nat}(hj:j<M.length)(hsm:same5 F M[j].1=true)(hne:∀i,(hi:i<M.length)→i<j→same5 F M[i].1=false):
  SemOK P (.lookup t x y false) [(x,.map q),(y,.arr 1 5 c)] h (.int .i64 M[j].2) h:=fun β G K w ρ' oper ho _ r hr=>by
 obtain⟨xx,es,hb,hx,hh,hs,he⟩:=open_mK r hq (hr (x,.map q) (by simp))
 have hy:=rel_arr_inv hc (hr (y,.arr 1 5 c) (by simp))
 simp only at hb hy
 obtain⟨e,g1,g2,g3,g4,hf⟩:=found_K hk hs he hj hsm hne w
 have hg:(getObj xx.b).run P w=.ok (.map es M.length) w:=MapKept.run_getObj_map hh
 refine opOK_value (y:=.int .i64 M[j].2) r ?_ (.int _ _)
 have hrun:(Instr.lookup t (.map (some xx.b)) (aK F) false).run P w=.ok (.int .i64 M[j].2) w:=by
  simp only[Instr.lookup,Sem.run_bind,run_underlying' ht,Result.andThen_ok,hg,Sem.run_pure,hk.chk,hf]
  simp
 simp only[execOp,ho,hb,hy,Sem.run_bind,hrun,Result.andThen_ok,Sem.run_pure]
theorem sem_entryK0(ht:P.underlying t=some (.map kt et))(hk:KeyT P kt)(hz:(P.info? et).bind (·.zero)=some (.int .i64 0))(hq:h[q]? =some (mK M))(hc:∀r,r<5→c r 0=.int .i64 (F r))(hno:∀p∈M,same5 F p.1=false):
  SemOK P (.mapEntry t x y) [(x,.map q),(y,.arr 1 5 c)] h (.tuple [.int .i64 0,.int .i64 M.length]) (h.set q (mK (M++ [(F,0)]))):=fun β G K w ρ' oper ho _ r hr=>by
 obtain⟨xx,es,hb,hx,hh,hs,he⟩:=open_mK r hq (hr (x,.map q) (by simp))
 have hy:=rel_arr_inv hc (hr (y,.arr 1 5 c) (by simp))
 simp only at hb hy
 have hzv:(zeroValue et).run P w=.ok (.int .i64 0) w:=by
  cases hi:P.info? et with
  |none=>simp[hi]at hz
  |some i=>
   cases hz':i.zero with
   |none=>simp[hi,hz']at hz
   |some z=>
    simp[hi,hz']at hz
    subst hz
    simp only[zeroValue,Sem.run_bind,run_typeInfo' hi,Result.andThen_ok,hz',Sem.run_pure]
 have hn:=keys_in hs he es.size (p:=fun G=>same5 F G=false) (fun j hj _=>hno _ (List.getElem_mem hj))
 have hn2:=keys_in hs he es.size (p:=fun _=>True) (fun j hj _=>trivial)
 rw[←Array.length_toList,List.take_length]at hn hn2
 have hf:=run_findK hk F w es.toList (fun e hm=>by obtain⟨G,h1,_⟩:=hn2 e hm;exact⟨G,h1⟩) (find_noneK hk F w es.toList 0 hn)
 have hg:(getObj xx.b).run P w=.ok (.map es M.length) w:=MapKept.run_getObj_map hh
 have hst:∀o,(setObj xx.b o).run P w=.ok () (w.putObj xx.b o):=fun o=>MapKept.run_setObj_map o hh
 have hrun:(Instr.mapEntry t (.map (some xx.b)) (aK F)).run P w=.ok (.tuple #[.int .i64 0,goInt M.length]) (w.putObj xx.b (.map (es.push {key:=aK F,val:=.int .i64 0,born:=M.length}) (M.length+1))):=by
  simp only[Instr.mapEntry,Sem.run_bind,run_underlying' ht,Result.andThen_ok,hg,Sem.run_pure,hk.chk,hf,hzv,hst]
 have hw:=put_mK r (M':=M++ [(F,0)]) hq hx hh (es':=es.push {key:=aK F,val:=.int .i64 0,born:=M.length}) (by simp[hs]) (fun j hj=>by
  rw[List.length_append,List.length_singleton]at hj
  by_cases hjm:j<M.length
  ·obtain⟨e,h1,h2,h3,h4⟩:=he j hjm
   refine⟨e,by rw[Array.getElem?_push,if_neg (by omega)];exact h1,?_,h3,?_⟩
   ·rw[List.getElem_append_left hjm];exact h2
   ·rw[List.getElem_append_left hjm];exact h4
  ·obtain rfl:j=M.length:=by omega
   exact⟨{key:=aK F,val:=.int .i64 0,born:=M.length},by rw[Array.getElem?_push,if_pos hs.symm],by simp,rfl,by simp⟩)
 rw[List.length_append,List.length_singleton]at hw
 refine⟨.value (.tuple #[.int .i64 0,goInt M.length]),_,β,?_,Homes.le_refl _,hw,.tuple rfl fun j hj=> ?_⟩
 ·simp only[execOp,ho,hb,hy,Sem.run_bind,hrun,Result.andThen_ok,Sem.run_pure]
 ·match j,hj with
  |0,_=>exact .int _ _
  |1,_=>exact .int _ _
theorem sem_entryK1(ht:P.underlying t=some (.map kt et))(hk:KeyT P kt)(hq:h[q]? =some (mK M))(hc:∀r,r<5→c r 0=.int .i64 (F r)){j:Nat}(hj:j<M.length)(hsm:same5 F M[j].1=true)(hne:∀i,(hi:i<M.length)→i<j→same5 F M[i].1=false):
  SemOK P (.mapEntry t x y) [(x,.map q),(y,.arr 1 5 c)] h (.tuple [.int .i64 M[j].2,.int .i64 j]) (h.set q (mK M)):=fun β G K w ρ' oper ho _ r hr=>by
 obtain⟨xx,es,hb,hx,hh,hs,he⟩:=open_mK r hq (hr (x,.map q) (by simp))
 have hy:=rel_arr_inv hc (hr (y,.arr 1 5 c) (by simp))
 simp only at hb hy
 obtain⟨e,g1,g2,g3,g4,hf⟩:=found_K hk hs he hj hsm hne w
 have hg:(getObj xx.b).run P w=.ok (.map es M.length) w:=MapKept.run_getObj_map hh
 have hst:∀o,(setObj xx.b o).run P w=.ok () (w.putObj xx.b o):=fun o=>MapKept.run_setObj_map o hh
 have hsb:Instr.sameBits 10000 (aK F) (aK F)=true:=by simp[aK,aC,Instr.sameBits]
 have hke:(Instr.keyThatStays (aK F) (aK F)).run P w=.ok (aK F) w:=by simp[Instr.keyThatStays,hsb]
 have hrun:(Instr.mapEntry t (.map (some xx.b)) (aK F)).run P w=.ok (.tuple #[.int .i64 M[j].2,goInt j]) (w.putObj xx.b (.map (es.modify j fun e=>{e with key:=aK F}) M.length)):=by
  simp only[Instr.mapEntry,Sem.run_bind,run_underlying' ht,Result.andThen_ok,hg,Sem.run_pure,hk.chk,hf,g1,Option.map_some,Option.getD_some,g2,hke,hst,g3]
 have hw:=put_mK r (M':=M) hq hx hh (es':=es.modify j fun e=>{e with key:=aK F}) (by simp[hs]) (fun i hi=>by
  obtain⟨e,h1,h2,h3,h4⟩:=he i hi
  rw[Array.getElem?_modify]
  by_cases hij:j=i
  ·subst hij
   exact⟨{e with key:=aK F},by simp[h1],aK_same hsm,h3,h4⟩
  ·exact⟨e,by rw[if_neg hij];exact h1,h2,h3,h4⟩)
 refine⟨.value (.tuple #[.int .i64 M[j].2,goInt j]),_,β,?_,Homes.le_refl _,hw,.tuple rfl fun j hj=> ?_⟩
 ·simp only[execOp,ho,hb,hy,Sem.run_bind,hrun,Result.andThen_ok,Sem.run_pure]
 ·match j,hj with
  |0,_=>exact .int _ _
  |1,_=>exact .int _ _
theorem sem_storeK(hq:h[q]? =some (mK M)){j:Nat}(hj:j<M.length)(n:Int):
  SemOK P (.entryStore t x y z) [(x,.map q),(y,.int .i64 j),(z,.int .i64 n)] h .undef (h.set q (mK (M.set j (M[j].1,n)))):=fun β G K w ρ' oper ho _ r hr=>by
 obtain⟨xx,es,hb,hx,hh,hs,he⟩:=open_mK r hq (hr (x,.map q) (by simp))
 have hy:=rel_int_inv (hr (y,.int .i64 j) (by simp))
 have hzz:=rel_int_inv (hr (z,.int .i64 n) (by simp))
 simp only at hb hy hzz
 have hg:(getObj xx.b).run P w=.ok (.map es M.length) w:=MapKept.run_getObj_map hh
 have hst:∀o,(setObj xx.b o).run P w=.ok () (w.putObj xx.b o):=fun o=>MapKept.run_setObj_map o hh
 have hborn:∀i,(hi:i<es.size)→es[i].born=i:=fun i hi=>by
  obtain⟨e,h1,h2,h3,h4⟩:=he i (by omega)
  rw[Array.getElem?_eq_getElem hi]at h1
  cases h1;exact h3
 have hfi:es.findIdx? (fun e=>(e.born:Int)==(j:Int))=some j:=by
  rw[Array.findIdx?_eq_some_iff_getElem]
  refine⟨by omega,by rw[hborn j (by omega)];simp,fun i hi=> ?_⟩
  rw[hborn i (by omega)];simp;omega
 have hrun:(Instr.entryStore t (.map (some xx.b)) (.int .i64 j) (.int .i64 n)).run P w=.ok () (w.putObj xx.b (.map (es.modify j fun e=>{e with val:=.int .i64 n}) M.length)):=by
  simp[Instr.entryStore,hg,asInt,asIntOf,hfi,hst]
 have hw:=put_mK r (M':=M.set j (M[j].1,n)) hq hx hh (es':=es.modify j fun e=>{e with val:=.int .i64 n}) (by simp[hs]) (fun i hi=>by
  rw[List.length_set]at hi
  obtain⟨e,h1,h2,h3,h4⟩:=he i hi
  rw[Array.getElem?_modify]
  by_cases hij:j=i
  ·subst hij
   exact⟨{e with val:=.int .i64 n},by simp[h1],by simpa using h2,h3,by simp⟩
  ·exact⟨e,by rw[if_neg hij];exact h1,by rw[List.getElem_set_ne hij];exact h2,h3,by rw[List.getElem_set_ne hij];exact h4⟩)
 rw[List.length_set]at hw
 refine⟨.skip,_,β,?_,Homes.le_refl _,hw,rfl⟩
 simp only[execOp,ho,hb,hy,hzz,Sem.run_bind,hrun,Result.andThen_ok,Sem.run_pure]
theorem sem_makeK(t:TypeId):SemOK P (.makeMap t none) [] h (.map h.length) (h++ [mK []]):=fun β G K w ρ' oper ho _ r _=>by
 refine⟨.value (.map (some w.heap.size)),w.alloc (.map #[] 0),β++ [Hm.lie ⟨w.heap.size,0,0⟩],?_,Homes.le_append _ _,r.push rfl (heap_alloc_new w _),.map (ref_new r _ _ _)⟩
 simp only[execOp,ho,Sem.run_bind]
 simp only[Instr.makeMap,newObj]
 rfl
theorem sem_lenK(ht:P.underlying t=some (.map kt et))(hq:h[q]? =some (mK M)):
  SemOK P (.call {callee:=.builtin .len,args:= #[x],argTypes:= #[t]}) [(x,.map q)] h (.int .i64 M.length) h:=fun β G K w ρ' oper ho _ r hr=>by
 obtain⟨xx,es,hb,hx,hh,hs,he⟩:=open_mK r hq (hr (x,.map q) (by simp))
 simp only at hb
 have hg:(getObj xx.b).run P w=.ok (.map es M.length) w:=MapKept.run_getObj_map hh
 refine opOK_value (y:=.int .i64 M.length) r ?_ (.int _ _)
 simp only[execOp,ho,resolve,Sem.run_bind,Sem.run_pure,Result.andThen_ok,invoke,builtin,List.map_toArray,List.map_cons,List.map_nil,hb]
 have:(Builtin.len_ #[t] oper.type #[.map (some xx.b)]).run P w=.ok (.int .i64 M.length) w:=by
  simp[Builtin.len_,run_underlying' ht,hg,hs,goInt]
 rw[this];rfl
end
theorem RS.telRows{β:Homes}{G K:Kept}{S:St}{a:Act}{w:World}(r:RS β G K S a w){i:Nat}{e:TypeId}{wd n:Nat}{c c':Nat→Nat→V}(hi:S.h[i]? =some (.rows e wd n c))(hv:∀r j,r<n→j<wd→VLe (c r j) (c' r j)):RS β G K ⟨S.t,S.h.set i (.rows e wd n c'),S.d⟩ a w:=by
 refine⟨r.h.swap hi (by simp) rfl ?_,r.size,r.tmp,r.marks,fun q hq=> ?_⟩
 ·have hB:=r.h.blk i _ hi
  revert hB
  cases β[i]?.getD .void with
  |void=>exact id
  |nil=>exact id
  |ext l=>exact id
  |lie z=>
   rintro⟨q1,q2,q3,ca,q4,q5,q6,q7,q8⟩
   exact⟨q1,q2,q3,ca,q4,q5,q6,q7,fun r j hr hj=>hv r j hr hj _ _ _ (q8 r j hr hj)⟩
 ·obtain⟨x,h1,h2,h3⟩:=r.mark q hq
  have hne:i≠S.d.getD q 0:=by intro e9;rw[←e9,hi]at h3;cases h3
  refine⟨x,h1,h2,?_⟩
  show(S.h.set i _)[S.d.getD q 0]? =_
  rw[List.getElem?_set_ne hne];exact h3
theorem AWP.telRows{P:Program}{ro:Env}{code:Code}{S:St}{Q:Exit→St→Prop}{i:Nat}{e:TypeId}{wd n:Nat}{c c':Nat→Nat→V}(hi:S.h[i]? =some (.rows e wd n c))(hv:∀r j,r<n→j<wd→VLe (c r j) (c' r j))(h:AWP P ro code ⟨S.t,S.h.set i (.rows e wd n c'),S.d⟩ Q):AWP P ro code S Q:=
 fun β G K a w r=>h β G K a w (r.telRows hi hv)
theorem AWP.toldRows{P:Program}{ro:Env}{code:Code}{S:St}{Q:Exit→St→Prop}{i:Nat}{e:TypeId}{wd n:Nat}{c c':Nat→Nat→V}{t:List V}(h:AWP P ro code S fun x T=>T.h[i]? =some (.rows e wd n c)∧(∀r j,r<n→j<wd→VLe (c r j) (c' r j))∧T.t.length=t.length∧(∀j,VLe (T.t.getD j .undef) (t.getD j .undef))∧Q x ⟨t,T.h.set i (.rows e wd n c'),T.d⟩):AWP P ro code S Q:=
 AWP.weak h fun x T β G K a w hq r=>by
  obtain⟨h1,h2,h3,h4,h5⟩:=hq
  have r1:=r.telRows h1 h2
  exact⟨⟨t,T.h.set i (.rows e wd n c'),T.d⟩,β,Homes.low_refl _ _,⟨r1.h,by rw[r1.size];exact h3,fun j=>h4 j _ _ _ (r1.tmp j),r1.marks,r1.mark⟩,h5⟩
end Ab
set_option maxRecDepth 100000
namespace Go.Proofs
open Go.Shelf
def Tryz.lays190_ren:Go.Shelf.Ren:=⟨fun|190=>82|125=>114|258=>113|128=>139|129=>140|302=>130|303=>131|304=>132|305=>133|306=>134|307=>135|308=>136|309=>137|310=>138|333=>143|329=>144|330=>145|334=>146|335=>147|336=>148|344=>157|n=>n,fun|31=>23|9=>9|3=>3|46=>165|0=>0|51=>178|53=>180|4=>4|183=>183|182=>182|131=>188|5=>5|218=>191|222=>195|228=>202|229=>203|n=>n,fun|n=>n⟩
theorem Tryz.lays190:Go.Proofs.Lays.n190 Tryz.prog Tryz.lays190_ren:={
 mixed:=by kernel_rfl
 f125:=Tryz.func114.trans (congrArg some (by kernel_rfl))
 f128:=Tryz.func139.trans (congrArg some (by kernel_rfl))
 f129:=Tryz.func140.trans (congrArg some (by kernel_rfl))
 f190:=Tryz.func82.trans (congrArg some (by kernel_rfl))
 f258:=Tryz.func113.trans (congrArg some (by kernel_rfl))
 f302:=Tryz.func130.trans (congrArg some (by kernel_rfl))
 f303:=Tryz.func131.trans (congrArg some (by kernel_rfl))
 f304:=Tryz.func132.trans (congrArg some (by kernel_rfl))
 f305:=Tryz.func133.trans (congrArg some (by kernel_rfl))
 f306:=Tryz.func134.trans (congrArg some (by kernel_rfl))
 f307:=Tryz.func135.trans (congrArg some (by kernel_rfl))
 f308:=Tryz.func136.trans (congrArg some (by kernel_rfl))
 f309:=Tryz.func137.trans (congrArg some (by kernel_rfl))
 f310:=Tryz.func138.trans (congrArg some (by kernel_rfl))
 f329:=Tryz.func144.trans (congrArg some (by kernel_rfl))
 f330:=Tryz.func145.trans (congrArg some (by kernel_rfl))
 f333:=Tryz.func143.trans (congrArg some (by kernel_rfl))
 f334:=Tryz.func146.trans (congrArg some (by kernel_rfl))
 f335:=Tryz.func147.trans (congrArg some (by kernel_rfl))
 f336:=Tryz.func148.trans (congrArg some (by kernel_rfl))
 f344:=Tryz.func157.trans (congrArg some (by kernel_rfl))
 t0:=Tryz.underlying0
 a0:=Tryz.isAgg0
 z0:=Tryz.sizeOf0
 v0:=Tryz.zeroValue0
 t3:=Tryz.underlying3
 a3:=Tryz.isAgg3
 z3:=Tryz.sizeOf3
 v3:=Tryz.zeroValue3
 t4:=Tryz.underlying4
 a4:=Tryz.isAgg4
 z4:=Tryz.sizeOf4
 v4:=Tryz.zeroValue4
 t5:=Tryz.underlying5
 a5:=Tryz.isAgg5
 z5:=Tryz.sizeOf5
 v5:=Tryz.zeroValue5
 t9:=Tryz.underlying9
 a9:=Tryz.isAgg9
 z9:=Tryz.sizeOf9
 v9:=Tryz.zeroValue9
 t31:=Tryz.underlying23
 a31:=Tryz.isAgg23
 z31:=Tryz.sizeOf23
 v31:=Tryz.zeroValue23
 t46:=Tryz.underlying165
 a46:=Tryz.isAgg165
 z46:=Tryz.sizeOf165
 v46:=Tryz.zeroValue165
 t51:=Tryz.underlying178
 a51:=Tryz.isAgg178
 z51:=Tryz.sizeOf178
 v51:=Tryz.zeroValue178
 t53:=Tryz.underlying180
 a53:=Tryz.isAgg180
 z53:=Tryz.sizeOf180
 v53:=Tryz.zeroValue180
 t131:=Tryz.underlying188
 a131:=Tryz.isAgg188
 z131:=Tryz.sizeOf188
 v131:=Tryz.zeroValue188
 t182:=Tryz.underlying182
 a182:=Tryz.isAgg182
 z182:=Tryz.sizeOf182
 v182:=Tryz.zeroValue182
 t183:=Tryz.underlying183
 a183:=Tryz.isAgg183
 z183:=Tryz.sizeOf183
 v183:=Tryz.zeroValue183
 t218:=Tryz.underlying191
 a218:=Tryz.isAgg191
 z218:=Tryz.sizeOf191
 v218:=Tryz.zeroValue191
 t222:=Tryz.underlying195
 a222:=Tryz.isAgg195
 z222:=Tryz.sizeOf195
 v222:=Tryz.zeroValue195
 t228:=Tryz.underlying202
 a228:=Tryz.isAgg202
 z228:=Tryz.sizeOf202
 v228:=Tryz.zeroValue202
 t229:=Tryz.underlying203
 a229:=Tryz.isAgg203
 z229:=Tryz.sizeOf203
 v229:=Tryz.zeroValue203}
open Go.Sort Go.RowKit in
theorem Tryz.slices_Sort_string(blk off cap:Nat)(ss:List (List UInt8))(w:World)(hH:Holds encStr w blk off ss.toArray)(hblk:blk<w.heap.size)(hsz:ss.length<4611686018427387904):
  Calls Tryz.prog 82 #[.slice (some ⟨blk,off,none⟩) ss.length cap] w fun e w'=>
   e=.returned (.tuple #[])∧∃n os,w'=grow (putRow encStr (Sort.ahead w n) blk off (ss.mergeSort fun x y=>decide (x≤y)).toArray) os:=Any.slices_Sort_string Tryz.lays190 blk off cap ss w hH hblk hsz
def Tryz.lays194_ren:Go.Shelf.Ren:=⟨fun|194=>83|n=>n,fun|31=>23|9=>9|3=>3|4=>4|0=>0|n=>n,fun|n=>n⟩
theorem Tryz.lays194:Go.Proofs.Lays.n194 Tryz.prog Tryz.lays194_ren:={
 mixed:=by kernel_rfl
 f194:=Tryz.func83.trans (congrArg some (by kernel_rfl))
 t0:=Tryz.underlying0
 a0:=Tryz.isAgg0
 z0:=Tryz.sizeOf0
 v0:=Tryz.zeroValue0
 t3:=Tryz.underlying3
 a3:=Tryz.isAgg3
 z3:=Tryz.sizeOf3
 v3:=Tryz.zeroValue3
 t4:=Tryz.underlying4
 a4:=Tryz.isAgg4
 z4:=Tryz.sizeOf4
 v4:=Tryz.zeroValue4
 t9:=Tryz.underlying9
 a9:=Tryz.isAgg9
 z9:=Tryz.sizeOf9
 v9:=Tryz.zeroValue9
 t31:=Tryz.underlying23
 a31:=Tryz.isAgg23
 z31:=Tryz.sizeOf23
 v31:=Tryz.zeroValue23}
open Go.RowKit Go.Lib Go.Sort in
theorem Tryz.slices_Compact_string(blk off cap:Nat)(zs:List (List UInt8))(w:World)(hH:Holds encStr w blk off zs.toArray)(hsz:zs.length≤9223372036854775807)(hcap:zs.length≤cap):
  Calls Tryz.prog 83 #[.slice (some ⟨blk,off,none⟩) zs.length cap] w fun e w'=>e=.returned (.slice (some ⟨blk,off,none⟩) (Lib.compact zs).length cap)∧∃q,w'=putRow encStr (Sort.ahead w q) blk off (Lib.compact zs++List.replicate (zs.length-(Lib.compact zs).length) []).toArray:=Any.slices_Compact_string Tryz.lays194 blk off cap zs w hH hsz hcap
open Go.RowKit Go.Lib Go.Sort in
theorem Tryz.slices_Compact_string_empty(a:Option Addr)(cap:Nat)(w:World):
  Calls Tryz.prog 83 #[.slice a 0 cap] w fun e w'=>e=.returned (.slice a 0 cap)∧w'=w:=Any.slices_Compact_string_empty Tryz.lays194 a cap w
open Go.RowKit Go.Sort in
theorem Tryz.slices_Sort_string_none(p:Option Addr)(cap:Nat)(w:World):
  Calls Tryz.prog 82 #[.slice p 0 cap] w fun e w'=>e=.returned (.tuple #[])∧w'=w:=Any.slices_Sort_string_none Tryz.lays190 p cap w
end Go.Proofs
namespace Ab
open Go Go.Sort
theorem slice_inv{G:Kept}{β:Homes}{i n:Nat}{v:Value}(h:Rel G β (.row i n) v):(∃(x:Home) (cap:Nat),β[i]? =some (.lie x)∧v=.slice (some ⟨x.b,0,none⟩) n cap∧n≤cap∧cap≤x.cap)∨(n=0∧β[i]? =some .nil∧∃a,v=.slice a 0 0):=by
 cases h with
 |row hi hn hc hm=>exact .inl ⟨_,_,hi,rfl,hn,hc⟩
 |row0 hi=>exact .inr ⟨rfl,hi,_,rfl⟩
section
variable {P:Program} {f:FuncId} {e:TypeId} {i:Nat} {l:List Int} {c c':Nat→Nat→V} {h:List Blk}
theorem arg1{xs:Array Value}{β:Homes}{G:Kept}{v:V}(hl:([v]:List V).length=xs.size)(hr:∀j,j<([v]:List V).length→Rel G β (([v]:List V).getD j .undef) (xs.getD j Go.undef)):∃x,xs= #[x]∧Rel G β v x:=by
 obtain⟨x,rfl⟩:∃x,xs= #[x]:=by
  obtain⟨ys⟩:=xs
  match ys,hl with
  |[y],_=>exact⟨y,rfl⟩
 exact⟨x,rfl,by simpa using hr 0 (by simp)⟩
end
def RowE{α:Type}[Inhabited α](vo:α→V)(c:Nat→Nat→V)(l:List α):Prop:=∀r,r<l.length→c r 0=vo (l.getD r default)
section
variable {α:Type} [Inhabited α] {enc:α→Value} {vo:α→V}
structure EncV(enc:α→Value)(vo:α→V):Prop where
 of:∀ {G:Kept} {β:Homes} {x:α} {v:Value},Rel G β (vo x) v→v=enc x
 to:∀ {G:Kept} {β:Homes} (x:α),Rel G β (vo x) (enc x)
theorem rowE_holds(hE:EncV enc vo){β:Homes}{G K:Kept}{h:List Blk}{w:World}(r:RH β G K h w){i:Nat}{e:TypeId}{l:List α}{c:Nat→Nat→V}(hi:h[i]? =some (.rows e 1 l.length c))(hc:RowE vo c l){x:Home}(hb:β[i]? =some (.lie x)):
  Holds enc w x.b 0 l.toArray∧x.b<w.heap.size∧l.length≤x.cap∧l.length≤maxn:=by
 have hB:=r.blk i _ hi
 rw[hb]at hB
 obtain⟨h0,hn,hcap,cs,h1,h2,h3,h4,h5⟩:=hB
 refine⟨fun j hj=> ?_,(Array.getElem?_eq_some_iff.1 h1).1,h3,h4⟩
 have hj':j<l.length:=by simpa using hj
 have hv:=h5 j 0 hj' (by omega)
 rw[hc j hj',Nat.mul_one,Nat.add_zero]at hv
 have hsz:j<cs.size:=by rw[h2,Nat.mul_one];omega
 have hx:cs[j]? =some (enc (l.getD j default)):=by
  rw[Array.getElem?_eq_getElem hsz]
  rw[Array.getD_eq_getD_getElem?,Array.getElem?_eq_getElem hsz,Option.getD_some]at hv
  generalize cs[j]=v at hv
  exact congrArg some (hE.of hv)
 refine⟨?_,by simp[World.frozen?,h1]⟩
 simp only[World.cell?,h1,Nat.zero_add]
 simp only[Option.isSome_none,Bool.false_eq_true,if_false]
 rw[hx]
 simp[List.getD_eq_getElem?_getD,hj']
theorem rowE_put(hE:EncV enc vo){β:Homes}{G K:Kept}{h:List Blk}{w:World}(r:RH β G K h w){i:Nat}{e:TypeId}{n m:Nat}{c c':Nat→Nat→V}(hi:h[i]? =some (.rows e 1 n c)){x:Home}(hb:β[i]? =some (.lie x)){d:List α}{q:Nat}{os:Array Obj}(hd:d.length=n)(hm:m≤n)
  (hc:∀r,r<m→c' r 0=vo (d.getD r default)):RH β G K (h.set i (.rows e 1 m c')) (grow (putRow enc (Sort.ahead w q) x.b 0 d.toArray) os):=by
 have hB:=r.blk i _ hi
 rw[hb]at hB
 obtain⟨h0,hn,hcap,cs,h1,h2,h3,h4,h5⟩:=hB
 have hlt:=(Array.getElem?_eq_some_iff.1 h1).1
 have hsz:(putRow enc (Sort.ahead w q) x.b 0 d.toArray).heap.size=w.heap.size:=by simp[putRow,mapBlock]
 have hnew:(putRow enc (Sort.ahead w q) x.b 0 d.toArray).heap[x.b]? =some (.cells (putCells enc 0 d.toArray cs) e (0,0)):=by
  simp[putRow,mapBlock,Sort.ahead,Array.getElem?_modify,h1,onCells]
 have hold:∀b,b≠x.b→(putRow enc (Sort.ahead w q) x.b 0 d.toArray).heap[b]? =w.heap[b]? :=fun b hne=>by
  simp[putRow,mapBlock,Sort.ahead,Array.getElem?_modify,Ne.symm hne]
 refine RH.congr (w:=putRow enc (Sort.ahead w q) x.b 0 d.toArray) ?_ (fun b hb=>heap_grow_old _ _ hb) (by simp) ⟨rfl,rfl,rfl,Nat.le_refl _⟩
 refine r.write (hm:=⟨rfl,rfl,rfl,Nat.le_add_right _ _⟩) hi (by simp) hb hold hsz ⟨h0,hn,hcap,_,hnew,by simp[putCells,h2],by omega,by omega,fun j k hj hk=> ?_⟩
 have hk0:k=0:=by omega
 subst hk0
 rw[hc j hj,Nat.mul_one,Nat.add_zero]
 have hjs:j<cs.size:=by rw[h2,Nat.mul_one];omega
 have hjd:j<d.length:=by omega
 have:(putCells enc 0 d.toArray cs).getD j Go.undef=enc (d.getD j default):=by
  simp[putCells,Array.getD_eq_getD_getElem?,hjs,hjd,List.getD_eq_getElem?_getD]
 rw[this];exact hE.to _
variable {P:Program} {f:FuncId} {e:TypeId} {i:Nat} {l:List α} {c c':Nat→Nat→V} {h:List Blk}
theorem HCalls.sortE(hE:EncV enc vo){le:α→α→Bool}(he:∀xs w,(callFunc f xs).run P w=.ok (.enter f xs) w)
  (h1:∀(blk off cap:Nat) (zs:List α) (w:World),Holds enc w blk off zs.toArray→blk<w.heap.size→zs.length<4611686018427387904→Calls P f #[.slice (some ⟨blk,off,none⟩) zs.length cap] w fun e w'=>
   e=.returned (.tuple #[])∧∃n os,w'=grow (putRow enc (Sort.ahead w n) blk off (zs.mergeSort le).toArray) os)
  (h0:∀(p:Option Addr) (cap:Nat) (w:World),Calls P f #[.slice p 0 cap] w fun e w'=>e=.returned (.tuple #[])∧w'=w)
  (hi:h[i]? =some (.rows e 1 l.length c)) (hc:RowE vo c l) (hc':RowE vo c' (l.mergeSort le)):HCalls P f [.row i l.length] (.tuple []) h (h.set i (.rows e 1 l.length c')):=by
 refine⟨he,fun β G K w xs r hl hr=> ?_⟩
 obtain⟨v,rfl,hv⟩:=arg1 hl hr
 rcases slice_inv hv with⟨x,cap,hb,rfl,hn,hcap⟩|⟨hn,hb,a,rfl⟩
 ·obtain⟨g1,g2,g3,g4⟩:=rowE_holds hE r hi hc hb
  refine(h1 x.b 0 cap l w g1 g2 (by unfold maxn at g4;omega)).mono ?_
  rintro e' w' ⟨rfl,n,os,rfl⟩
  refine⟨_,β,G,K,rfl,Homes.le_refl _,G.ext_refl K,K.le_refl,rowE_put hE r hi hb (List.length_mergeSort l) (Nat.le_refl _) (fun j hj=>hc' j (by rw[List.length_mergeSort];exact hj)),.tuple rfl fun j hj=>absurd hj (Nat.not_lt_zero _)⟩
 ·refine(h0 a 0 w).mono ?_
  rintro e' w' ⟨rfl,rfl⟩
  have hB:=r.blk i _ hi
  rw[hb]at hB
  refine⟨_,β,G,K,rfl,Homes.le_refl _,G.ext_refl K,K.le_refl,?_,.tuple rfl fun j hj=>absurd hj (Nat.not_lt_zero _)⟩
  obtain⟨hB1,hB2⟩:l.length=0∧0<1:=hB
  exact r.swap hi (by simp) rfl (by rw[hb];exact⟨hB1,hB2⟩)
theorem compactE_len[DecidableEq α](l:List α):(Lib.compact l).length≤l.length:=by
 unfold Lib.compact Lib.compactUpTo
 rw[List.length_map]
 exact Nat.le_trans (List.length_filter_le _ _) (by simp)
def padE(l:List α)(n:Nat):List α:=l++List.replicate (n-l.length) default
theorem padE_len{l:List α}{n:Nat}(h:l.length≤n):(padE l n).length=n:=by simp[padE];omega
theorem HCalls.compactE(hE:EncV enc vo)[DecidableEq α](he:∀xs w,(callFunc f xs).run P w=.ok (.enter f xs) w)
  (h1:∀(blk off cap:Nat) (zs:List α) (w:World),Holds enc w blk off zs.toArray→zs.length≤9223372036854775807→zs.length≤cap→Calls P f #[.slice (some ⟨blk,off,none⟩) zs.length cap] w fun e w'=>
   e=.returned (.slice (some ⟨blk,off,none⟩) (Lib.compact zs).length cap)∧∃q,w'=putRow enc (Sort.ahead w q) blk off (Lib.compact zs++List.replicate (zs.length-(Lib.compact zs).length) default).toArray)
  (h0:∀(a:Option Addr) (cap:Nat) (w:World),Calls P f #[.slice a 0 cap] w fun e w'=>e=.returned (.slice a 0 cap)∧w'=w)
  (hi:h[i]? =some (.rows e 1 l.length c)) (hc:RowE vo c l) (hc':RowE vo c' (padE (Lib.compact l) l.length)):HCalls P f [.row i l.length] (.row i (Lib.compact l).length) h (h.set i (.rows e 1 l.length c')):=by
 refine⟨he,fun β G K w xs r hl hr=> ?_⟩
 obtain⟨v,rfl,hv⟩:=arg1 hl hr
 have hcl:=compactE_len l
 rcases slice_inv hv with⟨x,cap,hb,rfl,hn,hcap⟩|⟨hn,hb,a,rfl⟩
 ·obtain⟨g1,g2,g3,g4⟩:=rowE_holds hE r hi hc hb
  refine(h1 x.b 0 cap l w g1 (by unfold maxn at g4;omega) hn).mono ?_
  rintro e' w' ⟨rfl,n,rfl⟩
  have hp:=rowE_put hE (q:=n) (os:= #[]) (c':=c') r hi hb (d:=padE (Lib.compact l) l.length) (padE_len hcl) (Nat.le_refl _) fun j hj=>hc' j (by rw[padE_len hcl];exact hj)
  have hg:∀w:World,grow w #[]=w:=fun w=>by simp[grow]
  rw[hg]at hp
  exact⟨_,β,G,K,rfl,Homes.le_refl _,G.ext_refl K,K.le_refl,hp,.row hb (by omega) hcap (by omega)⟩
 ·refine(h0 a 0 w).mono ?_
  rintro e' w' ⟨rfl,rfl⟩
  have hB:=r.blk i _ hi
  rw[hb]at hB
  obtain⟨hB1,hB2⟩:l.length=0∧0<1:=hB
  have hz:(Lib.compact l).length=0:=by omega
  refine⟨_,β,G,K,rfl,Homes.le_refl _,G.ext_refl K,K.le_refl,r.swap hi (by simp) rfl (by rw[hb];exact⟨hB1,hB2⟩),?_⟩
  rw[hz];exact .row0 hb
end
end Ab
namespace Ab
open Go
theorem HCalls.atRowN{P:Program}{f:FuncId}{args:List V}{v:V}{et:TypeId}{wd n n2:Nat}{c0 c2:Nat→Nat→V}(hc:HCalls P f args v [.rows et wd n c0] [.rows et wd n2 c2])(ha:∀j,(∃r off,args.getD j .undef=.ref 0 r off)∨(∃m,args.getD j .undef=.row 0 m)∨(args.getD j .undef).under 0=true)(hv:∃m,v=.row 0 m)
  {h:List Blk} {i:Nat} (hi:h[i]? =some (.rows et wd n c0)):HCalls P f (args.map (V.atR i)) (V.atR i v) h (h.set i (.rows et wd n2 c2)):=
 ⟨hc.1,fun β G K w xs r hl hr=>by
  have hB:=r.blk i _ hi
  by_cases hnil:β[i]? =some .nil
  ·rw[hnil]at hB
   obtain⟨hn0,hw0⟩:n=0∧0<wd:=hB
   obtain⟨m,rfl⟩:=hv
   obtain⟨K0,hK0⟩:∃K0:Kept,K0=⟨fun b=>w.heap[b]?,K.amb⟩:=⟨_,rfl⟩
   have hGK0:G.le K0:=⟨fun b o hb=>by rw[hK0];exact r.keep b o (r.gk b o hb),r.gk.same.trans (by rw[hK0])⟩
   have r0:RH [.nil] G K0 [.rows et wd n c0] w:=by
    refine⟨rfl,fun j k hj=> ?_,fun j l y z k k' hj hl _ _ hb _ _=> ?_,fun j y k hj _ hb=> ?_,fun b o hb=>by rw[hK0]at hb;exact hb,hGK0,by rw[hK0];exact r.amb,fun j X tr hj=> ?_⟩
    ·match j,hj with
     |0,hj=>cases hj;exact⟨hn0,hw0⟩
     |j+1,hj=>simp at hj
    ·match j,hj,hb with
     |0,_,hb=>simp at hb
     |j+1,hj,_=>simp at hj
    ·match j,hj,hb with
     |0,_,hb=>simp at hb
     |j+1,hj,_=>simp at hj
    ·match j,hj with
     |0,hj=>cases hj
     |j+1,hj=>simp at hj
   refine(hc.tight rfl rfl [.nil] G K0 w xs r0 (by simpa using hl) fun j hj=> ?_).mono ?_
   ·have h1:=hr j (by simpa using hj)
    have e1:(args.map (V.atR i)).getD j .undef=V.atR i (args.getD j .undef):=by
     simp only[List.getD_eq_getElem?_getD,List.getElem?_map]
     cases args[j]? <;>rfl
    rw[e1]at h1
    rcases ha j with⟨q,off,e⟩|⟨m,e⟩|hu
    ·rw[e]at h1
     change Rel G β (.ref i q off) _ at h1
     generalize xs.getD j Go.undef=y at h1
     cases h1 with
     |ref hb=>rw[hnil]at hb;cases hb
    ·rw[e]at h1⊢
     change Rel G β (.row i m) _ at h1
     generalize xs.getD j Go.undef=y at h1
     cases h1 with
     |row hb q1 q2 q3=>rw[hnil]at hb;cases hb
     |row0 hb=>exact .row0 rfl
    ·have e2:V.atR i (args.getD j .undef)=args.getD j .undef:=by
      generalize args.getD j .undef=u at hu
      unfold V.atR
      split
      ·simp[V.under]at hu
      ·simp[V.under]at hu
      ·rfl
     rw[e2]at h1
     exact h1.low hu
   rintro e w' ⟨⟨y,γ,G',K',rfl,hγ,hG,hK,r',hy⟩,hmild⟩
   have hg0:γ=[.nil]:=by
    have h1:=hγ 0 .nil (by simp) rfl
    have h2:γ.length=1:=r'.len
    match γ,h1,h2 with
    |[z],h1,_=>cases h1;rfl
   subst hg0
   have hold:∀b,b<w.heap.size→w'.heap[b]? =w.heap[b]? :=fun b hb=>by
    have e1:w.heap[b]? =some w.heap[b]:=Array.getElem?_eq_getElem hb
    rw[e1];exact r'.keep b _ (hK b _ (by rw[hK0];exact e1))
   have hsz:w.heap.size≤w'.heap.size:=by
    rcases Nat.eq_zero_or_pos w.heap.size with h0|h0
    ·omega
    ·have e1:=hold (w.heap.size-1) (by omega)
     rw[Array.getElem?_eq_getElem (show w.heap.size-1<w.heap.size by omega)]at e1
     have:=(Array.getElem?_eq_some_iff.1 e1).1;omega
   have r1:=r.congr hold hsz hmild
   have hn2:n2=0∧0<wd:=r'.blk 0 _ rfl
   have hself:(h.set i (.rows et wd n2 c2))[i]? =some (.rows et wd n2 c2):=List.getElem?_set_self (List.getElem?_eq_some_iff.1 hi).1
   have old:∀ {j:Nat} {k:Blk},(h.set i (.rows et wd n2 c2))[j]? =some k→j≠i→h[j]? =some k:=fun {j k} hj e=>by rwa[List.getElem?_set_ne (Ne.symm e)]at hj
   have notI:∀ {j:Nat} {x:Home},β[j]? =some (.lie x)→j≠i:=fun {j x} hb e=>by subst e;rw[hnil]at hb;cases hb
   refine⟨y,β,G,K,rfl,Homes.le_refl _,G.ext_refl K,K.le_refl,⟨by simp[r1.len],fun j k hj=> ?_,fun j l y z k k' hj hl g g' hbj hbl e=>r1.inj j l y z k k' (old hj (notI hbj)) (old hl (notI hbl)) g g' hbj hbl e,fun j y k hj g hb=>r1.sep j y k (old hj (notI hb)) g hb,r1.keep,r1.gk,r1.amb,fun j X tr hj=> ?_⟩,?_⟩
   ·by_cases e:j=i
    ·subst e;rw[hself]at hj;cases hj;rw[hnil];exact hn2
    ·exact r1.blk j k (old hj e)
   ·have e:j≠i:=fun e=>by subst e;rw[hself]at hj;cases hj
    obtain⟨l,E,h1,h2,h3,h4⟩:=r1.ext j X tr (old hj e)
    exact⟨l,E,h1,h2,h3,fun b hb=>⟨(h4 b hb).1,fun q z k hq g hz=>(h4 b hb).2 q z k (old hq (notI hz)) g hz⟩⟩
   ·cases hy with
    |row hb _ _ _=>simp at hb
    |row0 _=>exact .row0 hnil
  obtain⟨x,hx⟩:∃x,β[i]? =some (.lie x):=by
   cases hb:β[i]? with
   |none=>rw[hb]at hB;exact hB.elim
   |some m=>
    rw[hb]at hB
    cases m with
    |lie x=>exact⟨x,rfl⟩
    |void=>exact hB.elim
    |nil=>exact absurd hb hnil
    |ext l=>exact hB.elim
  rw[hx]at hB
  obtain⟨hKx,hlt⟩:=r.sep i x _ hi (by simp) hx
  obtain⟨K0,hK0⟩:∃K0:Kept,K0=⟨fun b=>if b=x.b then none else w.heap[b]?,K.amb⟩:=⟨_,rfl⟩
  have k0x:K0 x.b=none:=by rw[hK0];simp
  have k0o:∀b,b≠x.b→K0 b=w.heap[b]? :=fun b hb=>by rw[hK0];simp[hb]
  have hGK0:G.le K0:=⟨fun b o hb=>by
   have h1:=r.gk b o hb
   have h2:b≠x.b:=fun e=>by rw[e,hKx]at h1;cases h1
   rw[k0o b h2];exact r.keep b o h1,r.gk.same.trans (by rw[hK0])⟩
  have r0:RH [.lie x] G K0 [.rows et wd n c0] w:=by
   refine⟨rfl,fun j k hj=> ?_,fun j l y z k k' hj hl _ _ _ _ _=> ?_,fun j y k hj _ hb=> ?_,fun b o hb=> ?_,hGK0,by rw[hK0];exact r.amb,fun j X tr hj=> ?_⟩
   ·match j,hj with
    |0,hj=>
     cases hj
     exact hB
    |j+1,hj=>simp at hj
   ·match j,l,hj,hl with
    |0,0,_,_=>rfl
    |j+1,_,hj,_=>simp at hj
    |0,l+1,_,hl=>simp at hl
   ·match j,hj,hb with
    |0,_,hb=>cases hb;exact⟨k0x,hlt⟩
    |j+1,hj,_=>simp at hj
   ·by_cases e:b=x.b
    ·rw[e,k0x]at hb;cases hb
    ·rw[k0o b e]at hb;exact hb
   ·match j,hj with
    |0,hj=>cases hj
    |j+1,hj=>simp at hj
  refine(hc.tight rfl rfl [.lie x] G K0 w xs r0 (by simpa using hl) fun j hj=> ?_).mono ?_
  ·have h1:=hr j (by simpa using hj)
   have e1:(args.map (V.atR i)).getD j .undef=V.atR i (args.getD j .undef):=by
    simp only[List.getD_eq_getElem?_getD,List.getElem?_map]
    cases args[j]? <;>rfl
   rw[e1]at h1
   rcases ha j with⟨q,off,e⟩|⟨m,e⟩|hu
   ·rw[e]at h1⊢
    change Rel G β (.ref i q off) _ at h1
    generalize xs.getD j Go.undef=y at h1
    cases h1 with
    |ref hb=>rw[hx]at hb;cases hb;exact .ref rfl
   ·rw[e]at h1⊢
    change Rel G β (.row i m) _ at h1
    generalize xs.getD j Go.undef=y at h1
    cases h1 with
    |row hb q1 q2 q3=>rw[hx]at hb;cases hb;exact .row rfl q1 q2 q3
    |row0 hb=>rw[hx]at hb;cases hb
   ·have e2:V.atR i (args.getD j .undef)=args.getD j .undef:=by
     generalize args.getD j .undef=u at hu
     unfold V.atR
     split
     ·simp[V.under]at hu
     ·simp[V.under]at hu
     ·rfl
    rw[e2]at h1
    exact h1.low hu
  rintro e w' ⟨⟨y,γ,G',K',rfl,hγ,hG,hK,r',hy⟩,hmild⟩
  have hg0:γ=[.lie x]:=by
   have h1:=hγ 0 (.lie x) (by simp) rfl
   have h2:γ.length=1:=r'.len
   match γ,h1,h2 with
   |[z],h1,_=>cases h1;rfl
  subst hg0
  have hold:∀b,b<w.heap.size→b≠x.b→w'.heap[b]? =w.heap[b]? :=fun b hb hne=>by
   have e1:w.heap[b]? =some w.heap[b]:=Array.getElem?_eq_getElem hb
   rw[e1];exact r'.keep b _ (hK b _ (by rw[k0o b hne];exact e1))
  have hx':=r'.sep 0 x _ rfl (by simp) rfl
  have hsz:w.heap.size≤w'.heap.size:=by
   rcases Nat.lt_or_ge w'.heap.size w.heap.size with q|q
   ·by_cases e:w'.heap.size=x.b
    ·have:=hx'.2;omega
    ·have:=hold w'.heap.size q e
     rw[Array.getElem?_eq_none (Nat.le_refl _),Array.getElem?_eq_getElem q]at this;cases this
   ·exact q
  have hnew:∀b o,G' b=some o→G b=some o∨w.heap.size≤b:=fun b o hb=>by
   rcases hG.2 b o hb with q|q
   ·exact .inl q
   ·rcases Nat.lt_or_ge b w.heap.size with z|z
    ·by_cases e:b=x.b
     ·have:=r'.gk b o hb;rw[e,hx'.1]at this;cases this
     ·rw[k0o b e,Array.getElem?_eq_getElem z]at q;cases q
    ·exact .inr z
  have hKlt:∀b o,K b=some o→b<w.heap.size:=fun b o hb=>(Array.getElem?_eq_some_iff.1 (r.keep b o hb)).1
  have hKn:∀b,w.heap.size≤b→K b=none:=fun b hb=>by
   cases q:K b with
   |none=>rfl
   |some o=>have:=hKlt b o q;omega
  obtain⟨K2,hK2⟩:∃K2:Kept,K2=⟨fun b=>match K b with|some o=>some o|none=>G' b,K.amb⟩:=⟨_,rfl⟩
  have k2K:∀b o,K b=some o→K2 b=some o:=fun b o hb=>by rw[hK2];simp[hb]
  have k2n:∀b,K b=none→K2 b=G' b:=fun b hb=>by rw[hK2];simp[hb]
  have k2none:∀b,b<w.heap.size→K b=none→K2 b=none:=fun b hb hn=>by
   rw[k2n b hn]
   cases q:G' b with
   |none=>rfl
   |some o=>
    rcases hnew b o q with z|z
    ·have:=r.gk b o z;rw[hn]at this;cases this
    ·omega
  have hsame:K.amb=G'.amb:=by rw[←r.gk.same];exact hG.1.same
  refine⟨y,β,G',K2,rfl,Homes.le_refl _,⟨hG.1,fun b o hb=>(hnew b o hb).imp id (hKn b)⟩,⟨k2K,by rw[hK2]⟩,⟨by simp[r.len],fun j k hj=> ?_,fun j l y z k k' hj hl g g' hbj hbl e=> ?_,fun j y k hj g hb=> ?_,fun b o hb=> ?_,⟨fun b o hb=> ?_,?_⟩,?_,fun j X tr hj=> ?_⟩,?_⟩
  ·by_cases e:j=i
   ·subst e
    rw[List.getElem?_set_self (List.getElem?_eq_some_iff.1 hi).1]at hj;cases hj
    rw[hx]
    exact r'.blk 0 _ rfl
   ·rw[List.getElem?_set_ne (Ne.symm e)]at hj
    by_cases hg:k=.gone
    ·subst hg;cases(β[j]?.getD .void)<;>trivial
    refine(r.blk j k hj).mono hG.1 (Homes.le_refl _) fun y hy=> ?_
    have hb:β[j]? =some (.lie y):=by
     cases hb:β[j]? with
     |none=>simp[hb]at hy
     |some z=>simp[hb]at hy;rw[hy]
    refine hold y.b (r.sep j y k hj hg hb).2 fun e2=>e ?_
    exact r.inj j i y x k _ hj hi hg (by simp) hb hx e2
  ·have look:∀ {j:Nat} {k:Blk},(h.set i (.rows et wd n2 c2))[j]? =some k→k≠ .gone→∃k2,h[j]? =some k2∧k2≠ .gone:=fun {j k} hj g=>by
    by_cases e:j=i
    ·subst e;exact⟨_,hi,by simp⟩
    ·rw[List.getElem?_set_ne (Ne.symm e)]at hj;exact⟨k,hj,g⟩
   obtain⟨k2,q1,q2⟩:=look hj g
   obtain⟨k3,q3,q4⟩:=look hl g'
   exact r.inj j l y z k2 k3 q1 q3 q2 q4 hbj hbl e
  ·by_cases e:j=i
   ·subst e
    rw[hx]at hb;cases hb
    exact⟨k2none _ hlt hKx,Nat.lt_of_lt_of_le hlt hsz⟩
   ·rw[List.getElem?_set_ne (Ne.symm e)]at hj
    have hs:=r.sep j y k hj g hb
    exact⟨k2none _ hs.2 hs.1,Nat.lt_of_lt_of_le hs.2 hsz⟩
  ·cases q:K b with
   |none=>rw[k2n b q]at hb;exact r'.keep b o (r'.gk b o hb)
   |some o'=>
    rw[k2K b o' q]at hb;cases hb
    have hne:b≠x.b:=fun e=>by rw[e,hKx]at q;cases q
    rw[hold b (hKlt b _ q) hne];exact r.keep b _ q
  ·cases q:K b with
   |none=>rw[k2n b q];exact hb
   |some o'=>
    rw[k2K b o' q]
    rcases hnew b o hb with z|z
    ·have:=r.gk b o z;rw[q]at this;exact this
    ·have:=hKlt b o' q;omega
  ·rw[hK2];exact hsame.symm
  ·rw[hK2];exact r.amb.mild hmild
  ·have hne:j≠i:=fun e=>by
    subst e
    rw[List.getElem?_set_self (List.getElem?_eq_some_iff.1 hi).1]at hj;cases hj
   rw[List.getElem?_set_ne (Ne.symm hne)]at hj
   obtain⟨l,E,h1,h2,h3,h4⟩:=r.ext j X tr hj
   have hE:∀b,E b≠none→b<w.heap.size∧b≠x.b:=fun b hb=>⟨Ext.lt h2 hb,fun e=>(h4 b hb).2 i x _ hi (by simp) hx e.symm⟩
   refine⟨l,E,h1,X.stable h2 (fun b o hb=> ?_) (fun b o hb=> ?_) hsz hmild,⟨fun b o hb=>k2K b o (h3 b o hb),h3.same.trans (by rw[hK2])⟩,fun b hb=>⟨k2none b (hE b hb).1 (h4 b hb).1,fun q z k hq g hz=> ?_⟩⟩
   ·have q:=X.keeps h2 b o hb
    have:=hE b (by rw[hb];simp)
    rw[hold b this.1 this.2];exact q
   ·have q:=h3 b o hb
    have hne2:b≠x.b:=fun e=>by rw[e,hKx]at q;cases q
    rw[hold b (hKlt b o q) hne2];exact r.keep b o q
   ·by_cases e:q=i
    ·subst e
     rw[hx]at hz;cases hz
     exact fun e=>(hE b hb).2 e.symm
    ·rw[List.getElem?_set_ne (Ne.symm e)]at hq
     exact(h4 b hb).2 q z k hq g hz
  ·obtain⟨m,rfl⟩:=hv
   show Rel G' β (.row i m) y
   cases hy with
   |row hb q1 q2 q3=>cases hb;exact .row hx q1 q2 q3
   |row0 hb=>cases hb⟩
end Ab
