/-
  Part of the proof of the Head laws. Conditions: those that stand in each theorem.
-/
import Derived.Test.YtemgodefhcbleaaGreatB07
set_option linter.unusedSimpArgs false
set_option linter.unusedVariables false
namespace Ab
open Go
def kS(ks:List ByteArray):List Value:=ks.map Value.string
theorem kS_len(ks:List ByteArray):(kS ks).length=ks.length:=by simp[kS]
theorem ba_beq_self(k:ByteArray):(k==k)=true:=by
 cases k with
 |mk d=>exact beq_self_eq_true d
theorem ba_beq_ne{k a:ByteArray}(h:a≠k):(k==a)=false:=by
 cases k with
 |mk d=>cases a with
  |mk e=>
   have:(d==e)=false:=beq_eq_false_iff_ne.2 fun q=>h (congrArg _ q.symm)
   exact this
theorem findNow_noneS(k:ByteArray):∀(L:List MapEntry) (i:Nat),(∀e∈L,∃a,e.key=.string a∧a≠k)→Instr.findNow .string (.string k) L i=some none
 |[],_,_=>rfl
 |e::L,i,h=>by
  obtain⟨a,h1,h2⟩:=h e List.mem_cons_self
  have hk:(k==a)=false:=ba_beq_ne h2
  have ih:=findNow_noneS k L (i+1) fun e he=>h e (List.mem_cons_of_mem _ he)
  simp[Instr.findNow,h1,Instr.sameNow,hk,ih]
theorem findNow_someS(k:ByteArray)(e:MapEntry)(he:e.key=.string k)(L2:List MapEntry):∀(L1:List MapEntry) (i:Nat),(∀e∈L1,∃a,e.key=.string a∧a≠k)→Instr.findNow .string (.string k) (L1++e::L2) i=some (some (i+L1.length,e.val))
 |[],i,_=>by simp[Instr.findNow,he,Instr.sameNow,ba_beq_self]
 |d::L1,i,h=>by
  obtain⟨a,h1,h2⟩:=h d List.mem_cons_self
  have hk:(k==a)=false:=ba_beq_ne h2
  have ih:=findNow_someS k e he L2 L1 (i+1) fun e he=>h e (List.mem_cons_of_mem _ he)
  simp[Instr.findNow,h1,Instr.sameNow,hk,ih];omega
section
variable {P:Program} {h:List Blk}
theorem run_findKey_str{w:World}{kt:TypeId}(hk:P.underlying kt=some .string){k:ByteArray}{es:List MapEntry}{r:Option (Nat × Value)}(h:Instr.findNow .string (.string k) es 0=some r):(Instr.findKey kt (.string k) es).run P w=.ok r w:=by
 simp[Instr.findKey,run_underlying' hk,h]
theorem run_checkKey_str{w:World}{kt:TypeId}(hk:P.underlying kt=some .string)(b:Bool)(k:ByteArray):(Instr.checkKey b 10000 kt (.string k)).run P w=.ok () w:=by
 have:∀n,(Instr.checkKey b (n+1) kt (.string k)).run P w=.ok () w:=fun n=>by
  simp only[Instr.checkKey,Sem.run_bind,run_underlying' hk,Result.andThen_ok]
  rfl
 exact this 9999
theorem keys_neS{β:Homes}{G:Kept}{es:Array MapEntry}{ks:List ByteArray}{vs:List V}(hs:es.size=(kS ks).length)(he:∀j k,(kS ks)[j]? =some k→∃e,es[j]? =some e∧e.key=k∧e.born=j∧Rel G β (vs.getD j .undef) e.val){k:ByteArray}{n:Nat}
  (hk:∀j,j<n→ks[j]?≠some k):∀e∈es.toList.take n,∃a,e.key=.string a∧a≠k:=fun e hm=>by
 obtain⟨j,hj,rfl⟩:=List.getElem_of_mem hm
 simp only[List.length_take,Array.length_toList]at hj
 have hjs:j<es.size:=by omega
 have hjk:j<ks.length:=by rw[hs,kS_len]at hjs;exact hjs
 obtain⟨e,h1,h2,-⟩:=he j (.string ks[j]) (by simp[kS,hjk])
 have e1:es[j]? =some es[j]:=Array.getElem?_eq_getElem hjs
 rw[e1]at h1
 cases h1
 refine⟨ks[j],?_,fun q=>hk j (by omega) (by rw[List.getElem?_eq_getElem hjk,q])⟩
 simpa using h2
theorem sem_lookupS0{t kt et:TypeId}{ks:List ByteArray}{vs:List V}{q:Nat}{x y:Operand}{k:ByteArray}(ht:P.underlying t=some (.map kt et))(hk:P.underlying kt=some .string)(hz:(P.info? et).bind (·.zero)=some (.int .i64 0))(hq:h[q]? =some (.maps (kS ks) vs))(hno:k∉ks):
  SemOK P (.lookup t x y false) [(x,.map q),(y,.str k)] h (.int .i64 0) h:=fun β G K w ρ' oper ho _ r hr=>by
 obtain⟨b,hb⟩:=rel_map_inv (hr (x,.map q) (by simp))
 have hy:=rel_str_inv (hr (y,.str k) (by simp))
 simp only at hb hy
 have h1:=hr (x,.map q) (by simp)
 rw[hb]at h1
 obtain⟨xx,es,_,rfl,hh,hs,he⟩:=home_maps r hq h1
 have hzv:(zeroValue et).run P w=.ok (.int .i64 0) w:=by
  cases hi:P.info? et with
  |none=>simp[hi]at hz
  |some i=>
   cases hz':i.zero with
   |none=>simp[hi,hz']at hz
   |some z=>
    simp[hi,hz']at hz
    subst hz
    simp only[zeroValue,Sem.run_bind,run_typeInfo' hi,Result.andThen_ok,hz',Sem.run_pure]
 have hn:=keys_neS hs he (k:=k) (n:=es.size) (fun j _ e=>hno (List.mem_of_getElem? e))
 rw[←Array.length_toList,List.take_length]at hn
 have hf:=findNow_noneS k es.toList 0 hn
 have hg:(getObj xx.b).run P w=.ok (.map es (kS ks).length) w:=MapKept.run_getObj_map hh
 refine opOK_value (y:=.int .i64 0) r ?_ (.int _ _)
 have hrun:(Instr.lookup t (.map (some xx.b)) (.string k) false).run P w=.ok (.int .i64 0) w:=by
  simp only[Instr.lookup,Sem.run_bind,run_underlying' ht,Result.andThen_ok,hg,Sem.run_pure,run_checkKey_str hk]
  rw[run_findKey_str hk hf]
  simp[hzv]
 simp only[execOp,ho,hb,hy,Sem.run_bind,hrun,Result.andThen_ok,Sem.run_pure]
theorem sem_lookupS1{t kt et:TypeId}{ks:List ByteArray}{vs:List V}{q j:Nat}{x y:Operand}{k:ByteArray}(ht:P.underlying t=some (.map kt et))(hk:P.underlying kt=some .string)(hq:h[q]? =some (.maps (kS ks) vs))(hj:ks[j]? =some k)(hne:∀i,i<j→ks[i]?≠some k):
  SemOK P (.lookup t x y false) [(x,.map q),(y,.str k)] h (vs.getD j .undef) h:=fun β G K w ρ' oper ho _ r hr=>by
 obtain⟨b,hb⟩:=rel_map_inv (hr (x,.map q) (by simp))
 have hy:=rel_str_inv (hr (y,.str k) (by simp))
 simp only at hb hy
 have h1:=hr (x,.map q) (by simp)
 rw[hb]at h1
 obtain⟨xx,es,_,rfl,hh,hs,he⟩:=home_maps r hq h1
 obtain⟨e,g1,g2,g3,g4⟩:=he j (.string k) (by simp[kS,hj])
 have hjs:j<es.size:=(Array.getElem?_eq_some_iff.1 g1).1
 have hn:=keys_neS hs he (k:=k) (n:=j) hne
 have hsplit:es.toList=es.toList.take j++e::es.toList.drop (j+1):=by
  have e1:es.toList[j]? =some e:=by simpa using g1
  have e2:=(List.getElem?_eq_some_iff.1 e1)
  obtain⟨l1,l2⟩:=e2
  rw[←l2,List.getElem_cons_drop,List.take_append_drop]
 have hf:=findNow_someS k e g2 (es.toList.drop (j+1)) (es.toList.take j) 0 hn
 rw[←hsplit]at hf
 have hg:(getObj xx.b).run P w=.ok (.map es (kS ks).length) w:=MapKept.run_getObj_map hh
 refine opOK_value (y:=e.val) r ?_ g4
 have hrun:(Instr.lookup t (.map (some xx.b)) (.string k) false).run P w=.ok e.val w:=by
  simp only[Instr.lookup,Sem.run_bind,run_underlying' ht,Result.andThen_ok,hg,Sem.run_pure,run_checkKey_str hk]
  rw[run_findKey_str hk hf]
  simp
 simp only[execOp,ho,hb,hy,Sem.run_bind,hrun,Result.andThen_ok,Sem.run_pure]
theorem sem_updateS{t kt et:TypeId}{ks:List ByteArray}{vs:List V}{q:Nat}{x y z:Operand}{k:ByteArray}{v:V}(ht:P.underlying t=some (.map kt et))(hk:P.underlying kt=some .string)(hq:h[q]? =some (.maps (kS ks) vs))(hvl:vs.length=ks.length)(hno:k∉ks):
  SemOK P (.mapUpdate t x y z) [(x,.map q),(y,.str k),(z,v)] h .undef (h.set q (.maps (kS (ks++ [k])) (vs++ [v]))):=fun β G K w ρ' oper ho _ r hr=>by
 obtain⟨b,hb⟩:=rel_map_inv (hr (x,.map q) (by simp))
 have hy:=rel_str_inv (hr (y,.str k) (by simp))
 have hv:=hr (z,v) (by simp)
 simp only at hb hy hv
 have h1:=hr (x,.map q) (by simp)
 rw[hb]at h1
 obtain⟨xx,es,hx,rfl,hh,hs,he⟩:=home_maps r hq h1
 have hn:=keys_neS hs he (k:=k) (n:=es.size) (fun j _ e=>hno (List.mem_of_getElem? e))
 rw[←Array.length_toList,List.take_length]at hn
 have hf:=findNow_noneS k es.toList 0 hn
 have hg:(getObj xx.b).run P w=.ok (.map es (kS ks).length) w:=MapKept.run_getObj_map hh
 have hst:∀o,(setObj xx.b o).run P w=.ok () (w.putObj xx.b o):=fun o=>MapKept.run_setObj_map o hh
 have hrun:(Instr.mapUpdate t (.map (some xx.b)) (.string k) (ρ' z)).run P w=.ok () (w.putObj xx.b (.map (es.push {key:=.string k,val:=ρ' z,born:=ks.length}) (ks.length+1))):=by
  simp only[Instr.mapUpdate,Sem.run_bind,run_underlying' ht,Result.andThen_ok,hg,run_checkKey_str hk]
  rw[run_findKey_str hk hf]
  simp[hst,kS_len]
 have hlt:=(Array.getElem?_eq_some_iff.1 hh).1
 have hes:es.size=ks.length:=by rw[hs,kS_len]
 have hlen2:(kS (ks++ [k])).length=ks.length+1:=by simp[kS]
 have hblk:∀j key,(kS (ks++ [k]))[j]? =some key→∃e,(es.push {key:=.string k,val:=ρ' z,born:=ks.length})[j]? =some e∧e.key=key∧e.born=j∧Rel G β ((vs++ [v]).getD j .undef) e.val:=fun j key hj=>by
  rcases Nat.lt_or_ge j ks.length with hlt'|hge
  ·have hj':(kS ks)[j]? =some key:=by
    rw[←hj];simp only[kS,List.map_append];rw[List.getElem?_append_left (by simpa using hlt')]
   obtain⟨e,g1,g2,g3,g4⟩:=he j key hj'
   refine⟨e,?_,g2,g3,?_⟩
   ·rw[Array.getElem?_push,if_neg (by omega)];exact g1
   ·rw[getD_append_left (by omega)];exact g4
  ·have hjl:j<(kS (ks++ [k])).length:=(List.getElem?_eq_some_iff.1 hj).1
   rw[kS_len,List.length_append]at hjl
   obtain rfl:j=ks.length:=by simp at hjl;omega
   have hkey:key=.string k:=by
    have:(kS (ks++ [k]))[ks.length]? =some (.string k):=by simp[kS]
    rw[this]at hj;cases hj;rfl
   refine⟨{key:=.string k,val:=ρ' z,born:=ks.length},by rw[Array.getElem?_push,if_pos hes.symm],hkey.symm,rfl,?_⟩
   rw[←hvl,getD_append_right (Nat.le_refl _),Nat.sub_self]
   exact hv
 refine⟨.skip,w.putObj xx.b (.map (es.push {key:=.string k,val:=ρ' z,born:=ks.length}) (ks.length+1)),β,?_,Homes.le_refl _,r.write (hm:=Mild.putObj _ _ _) hq (by simp) hx (fun b hb=>World.putObj_heap_other hb) (by simp) ⟨es.push {key:=.string k,val:=ρ' z,born:=ks.length},?_,?_,hblk⟩,rfl⟩
 ·simp only[execOp,ho,hb,hy,Sem.run_bind,hrun,Result.andThen_ok,Sem.run_pure]
 ·rw[hlen2];exact World.putObj_heap_same hlt
 ·rw[hlen2,Array.size_push,hes]
theorem sem_updateS1{t kt et:TypeId}{ks:List ByteArray}{vs:List V}{q j:Nat}{x y z:Operand}{k:ByteArray}{v:V}(ht:P.underlying t=some (.map kt et))(hk:P.underlying kt=some .string)(hq:h[q]? =some (.maps (kS ks) vs))(hvl:vs.length=ks.length)(hj:ks[j]? =some k)(hne:∀i,i<j→ks[i]?≠some k):
  SemOK P (.mapUpdate t x y z) [(x,.map q),(y,.str k),(z,v)] h .undef (h.set q (.maps (kS ks) (vs.set j v))):=fun β G K w ρ' oper ho _ r hr=>by
 obtain⟨b,hb⟩:=rel_map_inv (hr (x,.map q) (by simp))
 have hy:=rel_str_inv (hr (y,.str k) (by simp))
 have hv:=hr (z,v) (by simp)
 simp only at hb hy hv
 have h1:=hr (x,.map q) (by simp)
 rw[hb]at h1
 obtain⟨xx,es,hx,rfl,hh,hs,he⟩:=home_maps r hq h1
 obtain⟨e,g1,g2,g3,g4⟩:=he j (.string k) (by simp[kS,hj])
 have hjs:j<es.size:=(Array.getElem?_eq_some_iff.1 g1).1
 have hn:=keys_neS hs he (k:=k) (n:=j) hne
 have hsplit:es.toList=es.toList.take j++e::es.toList.drop (j+1):=by
  have e1:es.toList[j]? =some e:=by simpa using g1
  have e2:=(List.getElem?_eq_some_iff.1 e1)
  obtain⟨l1,l2⟩:=e2
  rw[←l2,List.getElem_cons_drop,List.take_append_drop]
 have hf:=findNow_someS k e g2 (es.toList.drop (j+1)) (es.toList.take j) 0 hn
 rw[←hsplit]at hf
 have hlt0:(es.toList.take j).length=j:=by simp;omega
 rw[Nat.zero_add,hlt0]at hf
 have hg:(getObj xx.b).run P w=.ok (.map es (kS ks).length) w:=MapKept.run_getObj_map hh
 have hst:∀o,(setObj xx.b o).run P w=.ok () (w.putObj xx.b o):=fun o=>MapKept.run_setObj_map o hh
 have hkey:(((es[j]?).map (·.key)).getD (.string k))=.string k:=by rw[g1];simpa using g2
 have hstay:(Instr.keyThatStays (.string k) (.string k)).run P w=.ok (.string k) w:=by
  have:Instr.sameBits 10000 (.string k) (.string k)=true:=ba_beq_self k
  simp only[Instr.keyThatStays,this,if_true,Sem.run_pure]
 have hrun:(Instr.mapUpdate t (.map (some xx.b)) (.string k) (ρ' z)).run P w=.ok () (w.putObj xx.b (.map (es.modify j fun e=>{e with key:=.string k,val:=ρ' z}) (kS ks).length)):=by
  simp only[Instr.mapUpdate,Sem.run_bind,run_underlying' ht,Result.andThen_ok,hg,run_checkKey_str hk]
  rw[run_findKey_str hk hf]
  simp only[Result.andThen_ok,Sem.run_bind,hkey,hstay,hst]
 have hlt:=(Array.getElem?_eq_some_iff.1 hh).1
 have hblk:∀i key,(kS ks)[i]? =some key→∃e',(es.modify j fun e=>{e with key:=.string k,val:=ρ' z})[i]? =some e'∧e'.key=key∧e'.born=i∧Rel G β ((vs.set j v).getD i .undef) e'.val:=fun i key hi=>by
  obtain⟨e',f1,f2,f3,f4⟩:=he i key hi
  have hil:i<es.size:=(Array.getElem?_eq_some_iff.1 f1).1
  have hik:i<ks.length:=by rw[hs,kS_len]at hil;exact hil
  by_cases hij:j=i
  ·subst hij
   rw[g1]at f1
   cases f1
   refine⟨{e with key:=.string k,val:=ρ' z},?_,?_,f3,?_⟩
   ·rw[Array.getElem?_modify,if_pos rfl,g1];rfl
   ·rw[←f2,g2]
   ·rw[List.getD_eq_getElem?_getD,List.getElem?_set_self (by omega)];exact hv
  ·refine⟨e',?_,f2,f3,?_⟩
   ·rw[Array.getElem?_modify,if_neg hij];exact f1
   ·rw[List.getD_eq_getElem?_getD,List.getElem?_set_ne hij,←List.getD_eq_getElem?_getD];exact f4
 refine⟨.skip,w.putObj xx.b (.map (es.modify j fun e=>{e with key:=.string k,val:=ρ' z}) (kS ks).length),β,?_,Homes.le_refl _,r.write (hm:=Mild.putObj _ _ _) hq (by simp) hx (fun b hb=>World.putObj_heap_other hb) (by simp) ⟨es.modify j fun e=>{e with key:=.string k,val:=ρ' z},World.putObj_heap_same hlt,?_,hblk⟩,rfl⟩
 ·simp only[execOp,ho,hb,hy,Sem.run_bind,hrun,Result.andThen_ok,Sem.run_pure]
 ·rw[Array.size_modify,hs]
theorem sem_rangeS{t kt et:TypeId}{ks:List ByteArray}{vs:List V}{q:Nat}{x:Operand}(ht:P.underlying t=some (.map kt et))(hq:h[q]? =some (.maps (kS ks) vs)):
  SemOK P (.range t x) [(x,.map q)] h (.ref h.length 0 0) (h++ [.iter (.map q) ks.length #[]]):=fun β G K w ρ' oper ho _ r hr=>by
 obtain⟨b,hb⟩:=rel_map_inv (hr (x,.map q) (by simp))
 simp only at hb
 have h1:=hr (x,.map q) (by simp)
 rw[hb]at h1
 obtain⟨xx,es,hx,rfl,hh,hs,he⟩:=home_maps r hq h1
 have hg:(getObj xx.b).run P w=.ok (.map es (kS ks).length) w:=MapKept.run_getObj_map hh
 refine⟨.value (.pointer (some ⟨w.heap.size,0,none⟩)),w.alloc (.mapIter (some xx.b) ks.length #[] ks.length),β++ [Hm.lie ⟨w.heap.size,0,0⟩],?_,Homes.le_append _ _,r.push rfl ⟨xx.b,h1.mono G.le_refl (Homes.le_append _ _),heap_alloc_new w _⟩,?_⟩
 ·simp only[execOp,ho,hb,Instr.range,Sem.run_bind,run_underlying' ht,Result.andThen_ok,hg,Sem.run_pure,run_newObj,World.alloc_eq,kS_len]
 ·have:=Rel.ref (G:=G) (r:=0) (off:=0) (ref_new r w.heap.size 0 0)
  simp only[Nat.zero_mul,Nat.add_zero]at this
  exact this
theorem born_ltS{β:Homes}{G:Kept}{es:Array MapEntry}{ks:List ByteArray}{vs:List V}(hs:es.size=(kS ks).length)(he:∀j k,(kS ks)[j]? =some k→∃e,es[j]? =some e∧e.key=k∧e.born=j∧Rel G β (vs.getD j .undef) e.val){x:MapEntry}(hx:x∈es.toList):
  ∃j,es[j]? =some x∧j<ks.length∧x.born=j∧x.key=.string (ks.getD j ByteArray.empty)∧Rel G β (vs.getD j .undef) x.val:=by
 obtain⟨j,hj,rfl⟩:=List.getElem_of_mem hx
 have hjs:j<es.size:=by simpa using hj
 have hjk:j<ks.length:=by rw[hs,kS_len]at hjs;exact hjs
 obtain⟨e,h1,h2,h3,h4⟩:=he j (.string ks[j]) (by simp[kS,hjk])
 have e1:es[j]? =some es[j]:=Array.getElem?_eq_getElem hjs
 rw[e1]at h1
 cases h1
 refine⟨j,by simp,hjk,by simpa using h3,?_,by simpa using h4⟩
 rw[List.getD_eq_getElem?_getD,List.getElem?_eq_getElem hjk]
 simpa using h2
theorem homes_iterS{β:Homes}{G K:Kept}{w:World}(r:RH β G K h w){ks:List ByteArray}{vs:List V}{q i n:Nat}{seen:Array Nat}{p:Value}(hq:h[q]? =some (.maps (kS ks) vs))(hi:h[i]? =some (.iter (.map q) n seen))(hp:Rel G β (.ref i 0 0) p):
  ∃(x:Home) (b:Nat) (es:Array MapEntry),β[i]? =some (.lie x)∧p=.pointer (some ⟨x.b,0,none⟩)∧w.heap[x.b]? =some (.mapIter (some b) n seen n)∧w.heap[b]? =some (.map es (kS ks).length)∧Rel G β (.map q) (.map (some b))∧
   es.size=(kS ks).length∧∀j k,(kS ks)[j]? =some k→∃e,es[j]? =some e∧e.key=k∧e.born=j∧Rel G β (vs.getD j .undef) e.val:=by
 cases hp with
 |ref hb=>
  rename_i x
  have hB:=r.blk i _ hi
  rw[hb]at hB
  obtain⟨b,h1,h2⟩:=hB
  obtain⟨y,es,_,_,h3,h4,h5⟩:=home_maps r hq h1
  exact⟨x,b,es,hb,by simp,h2,h3,h1,h4,h5⟩
theorem sem_next0S{ks:List ByteArray}{vs:List V}{q i:Nat}{x:Operand}{seen:Array Nat}(hq:h[q]? =some (.maps (kS ks) vs))(hi:h[i]? =some (.iter (.map q) ks.length seen))(h0:leftM ks.length seen=[]):
  SemOK P (.next x false) [(x,.ref i 0 0)] h (.tuple [.bool false]) h:=fun β G K w ρ' oper ho _ r hr=>by
 have hp:=hr (x,.ref i 0 0) (by simp)
 obtain⟨y,b,es,hb,he,h1,h2,h3,hs,hes⟩:=homes_iterS r hq hi hp
 simp only at he
 rw[kS_len]at h2
 rcases run_next_at (P:=P) w oper.type y.b b ks.length ks.length seen es ks.length h1 h2 (fun x hx=>by
  obtain⟨j,_,q2,q3,_⟩:=born_ltS hs hes hx;omega) (Nat.le_refl _)with⟨_,hrun⟩|⟨e,hem,_⟩
 ·refine opOK_value (y:=.tuple #[.bool false]) r ?_ (.tuple rfl fun j hj=> ?_)
  ·simp only[execOp,ho,he,Sem.run_bind,hrun,Result.andThen_ok,Sem.run_pure]
  ·have:j=0:=by simp at hj;omega
   subst this;exact .bool _
 ·unfold leftOf at hem
  simp only[Array.toList_filter,List.mem_filter]at hem
  obtain⟨j,_,q2,q3,_⟩:=born_ltS hs hes hem.1
  have:e.born∈leftM ks.length seen:=by
   simp only[leftM,List.mem_filter,List.mem_range]
   exact⟨by omega,hem.2⟩
  rw[h0]at this;cases this
theorem sem_next1S{ks:List ByteArray}{vs:List V}{q i:Nat}{x:Operand}{seen:Array Nat}(hq:h[q]? =some (.maps (kS ks) vs))(hi:h[i]? =some (.iter (.map q) ks.length seen))(h0:leftM ks.length seen≠ []):
  SemAny P (.next x false) [(x,.ref i 0 0)] h (leftM ks.length seen).length (fun j=>.tuple [.bool true,.str (ks.getD ((leftM ks.length seen).getD j 0) ByteArray.empty),vs.getD ((leftM ks.length seen).getD j 0) .undef])
   (fun j=>h.set i (.iter (.map q) ks.length (seen.push ((leftM ks.length seen).getD j 0)))):=fun β G K w ρ' oper ho _ r hr=>by
 have hp:=hr (x,.ref i 0 0) (by simp)
 obtain⟨y,b,es,hb,he,h1,h2,h3,hs,hes⟩:=homes_iterS r hq hi hp
 simp only at he
 rw[kS_len]at h2
 rcases run_next_at (P:=P) w oper.type y.b b ks.length ks.length seen es ks.length h1 h2 (fun x hx=>by
  obtain⟨j,_,q2,q3,_⟩:=born_ltS hs hes hx;omega) (Nat.le_refl _)with⟨hz,_⟩|⟨e,hem,w1,hw1,hrun⟩
 ·exfalso
  obtain⟨j,hj⟩:=List.exists_mem_of_ne_nil _ h0
  unfold leftOf at hz
  rw[Array.size_eq_zero_iff,Array.filter_eq_empty_iff]at hz
  simp only[leftM,List.mem_filter,List.mem_range]at hj
  obtain⟨e,g1,g2,g3,g4⟩:=hes j (.string ks[j]) (by simp[kS,hj.1])
  exact hz e (Array.mem_of_getElem? g1) (by rw[g3];exact hj.2)
 ·unfold leftOf at hem
  simp only[Array.toList_filter,List.mem_filter]at hem
  obtain⟨j0,q1,q2,q3,q4,q5⟩:=born_ltS hs hes hem.1
  have hl:e.born∈leftM ks.length seen:=by
   simp only[leftM,List.mem_filter,List.mem_range]
   exact⟨by omega,hem.2⟩
  obtain⟨j,hj,hje⟩:=List.getElem_of_mem hl
  have hgd:(leftM ks.length seen).getD j 0=j0:=by rw[List.getD_eq_getElem?_getD,List.getElem?_eq_getElem hj];exact hje.trans q3
  refine⟨j,hj,?_⟩
  have r1:RH β G K h w1:=by
   rcases hw1 with rfl|rfl
   ·exact r
   ·exact r.drew
  have hh1:w1.heap[y.b]? =some (.mapIter (some b) ks.length seen ks.length):=by
   rcases hw1 with rfl|rfl
   ·exact h1
   ·exact h1
  have hlt1:=(Array.getElem?_eq_some_iff.1 hh1).1
  refine⟨.value (.tuple #[.bool true,e.key,e.val]),w1.putObj y.b (.mapIter (some b) ks.length (seen.push e.born) ks.length),β,?_,Homes.le_refl _,?_,?_⟩
  ·simp only[execOp,ho,he,Sem.run_bind,hrun,Result.andThen_ok,Sem.run_pure]
   rfl
  ·simp only[hgd,q3]
   exact r1.write (hm:=Mild.putObj _ _ _) hi (by simp) hb (fun b hb=>World.putObj_heap_other hb) (by simp) ⟨b,h3,World.putObj_heap_same hlt1⟩
  ·simp only[hgd]
   refine Rel.tuple rfl fun z hz=> ?_
   match z,hz with
   |0,_=>exact .bool _
   |1,_=>show Rel _ _ _ e.key;rw[q4];exact .str _
   |2,_=>exact q5
theorem sem_entryS{ks:List ByteArray}{vs:List V}{q i:Nat}{x:Operand}{seen:Array Nat}{j:Nat}(hq:h[q]? =some (.maps (kS ks) vs))(hi:h[i]? =some (.iter (.map q) ks.length seen))(hj:seen.back? =some j)(hjm:j<ks.length):
  SemOK P (.entry x) [(x,.ref i 0 0)] h (.tuple [.str (ks.getD j ByteArray.empty),vs.getD j .undef]) h:=fun β G K w ρ' oper ho _ r hr=>by
 have hp:=hr (x,.ref i 0 0) (by simp)
 obtain⟨y,b,es,hb,he,h1,h2,h3,hs,hes⟩:=homes_iterS r hq hi hp
 simp only at he
 have hg1:(getObj y.b).run P w=.ok (.mapIter (some b) ks.length seen ks.length) w:=by simp[getObj,Sem.run,h1]
 have hg2:(getObj b).run P w=.ok (.map es (kS ks).length) w:=MapKept.run_getObj_map h2
 obtain⟨e,g1,g2,g3,g4⟩:=hes j (.string ks[j]) (by simp[kS,hjm])
 have hfind:es.find? (fun e=>e.born==j)=some e:=by
  cases hf:es.find? (fun e=>e.born==j)with
  |none=>
   rw[Array.find?_eq_none]at hf
   exact absurd (hf e (Array.mem_of_getElem? g1)) (by simp[g3])
  |some e'=>
   have hm:=Array.mem_of_find?_eq_some hf
   have hb':=Array.find?_some hf
   obtain⟨j0,q1,q2,q3,q4,q5⟩:=born_ltS hs hes (Array.mem_toList_iff.2 hm)
   have:j0=j:=by rw[←q3];simpa using hb'
   subst this
   rw[g1]at q1
   exact q1.symm▸rfl
 have hkey:e.key=.string (ks.getD j ByteArray.empty):=by rw[g2,List.getD_eq_getElem?_getD,List.getElem?_eq_getElem hjm];rfl
 refine opOK_value (y:=.tuple #[e.key,e.val]) r ?_ (.tuple rfl fun k hk=> ?_)
 ·simp only[execOp,ho,he,Instr.entry,Sem.run_bind,hg1,Result.andThen_ok,hj,hg2,hfind,Sem.run_pure]
  simp[kS_len]
 ·match k,hk with
  |0,_=>show Rel _ _ _ e.key;rw[hkey];exact .str _
  |1,_=>exact g4
end
abbrev MS:=List (ByteArray × Int)
def entsS(M:MS):Array MapEntry:=((List.range M.length).map fun j=>({key:=.string (M.getD j (ByteArray.empty,0)).1,val:=.int .i64 (M.getD j (ByteArray.empty,0)).2,born:=j}:MapEntry)).toArray
def mT(M:MS):Obj:=.map (entsS M) M.length
def mS(M:MS):Blk:=.maps (kS (M.map (·.1))) (M.map fun p=>.int .i64 p.2)
theorem entsS_size(M:MS):(entsS M).size=M.length:=by simp[entsS]
theorem entsS_get(M:MS)(j:Nat)(hj:j<M.length):(entsS M)[j]? =some {key:=.string M[j].1,val:=.int .i64 M[j].2,born:=j}:=by
 have e:M.getD j (ByteArray.empty,0)=M[j]:=by rw[List.getD_eq_getElem?_getD,List.getElem?_eq_getElem hj];rfl
 rw[←e]
 simp[entsS,hj]
theorem blk_mS{G:Kept}{β:Homes}{w:World}{M:MS}{x:Hm}:BlkOK G β w (.obj (mT M)) x↔BlkOK G β w (mS M) x:=by
 cases x with
 |void=>exact Iff.rfl
 |nil=>exact Iff.rfl
 |ext l=>exact Iff.rfl
 |lie x=>
  have hl:(kS (M.map (·.1))).length=M.length:=by rw[kS_len,List.length_map]
  constructor
  ·intro(h:w.heap[x.b]? =some (mT M))
   refine⟨entsS M,by rw[hl];exact h,by rw[hl];exact entsS_size M,fun j k hj=> ?_⟩
   have hjl:j<M.length:=by rw[←hl];exact(List.getElem?_eq_some_iff.1 hj).1
   refine⟨_,entsS_get M j hjl,?_,rfl,?_⟩
   ·simp[kS,hjl]at hj;exact hj
   ·have:(M.map fun p=>(.int .i64 p.2:V)).getD j .undef=.int .i64 M[j].2:=by simp[List.getD_eq_getElem?_getD,hjl]
    rw[this];exact .int _ _
  ·rintro⟨es,h1,h2,h3⟩
   show w.heap[x.b]? =some (mT M)
   rw[hl]at h1 h2
   have:es=entsS M:=by
    apply Array.ext
    ·rw[h2,entsS_size]
    ·intro j q1 q2
     have hjl:j<M.length:=by omega
     obtain⟨e,g1,g2,g3,g4⟩:=h3 j (.string M[j].1) (by simp[kS,hjl])
     have hv:(M.map fun p=>(.int .i64 p.2:V)).getD j .undef=.int .i64 M[j].2:=by simp[List.getD_eq_getElem?_getD,hjl]
     rw[hv]at g4
     have g5:=rel_int_inv g4
     have e2:=entsS_get M j hjl
     rw[Array.getElem?_eq_getElem q1]at g1
     rw[Array.getElem?_eq_getElem q2]at e2
     cases g1;
     rw[Option.some.inj e2]
     cases hes:es[j]with
     |mk a b c=>rw[hes]at g2 g3 g5;simp only at g2 g3 g5;rw[g2,g3,g5]
   rw[h1,this];rfl
def Sw(h h':List Blk):Prop:=h.length=h'.length∧∀i:Nat,h[i]? =h'[i]?∨∃M,(h[i]? =some (.obj (mT M))∧h'[i]? =some (mS M))∨(h[i]? =some (mS M)∧h'[i]? =some (.obj (mT M)))
theorem Sw.symm{h h':List Blk}(s:Sw h h'):Sw h' h:=⟨s.1.symm,fun i=>(s.2 i).imp Eq.symm fun⟨M,q⟩=>⟨M,q.symm.imp (fun⟨a,b⟩=>⟨b,a⟩) (fun⟨a,b⟩=>⟨b,a⟩)⟩⟩
theorem Sw.rh{β:Homes}{G K:Kept}{h h':List Blk}{w:World}(s:Sw h h')(r:RH β G K h w):RH β G K h' w:=by
 have look:∀(i:Nat) (k':Blk),h'[i]? =some k'→∃k,h[i]? =some k∧(BlkOK G β w k (β[i]?.getD .void)→BlkOK G β w k' (β[i]?.getD .void))∧(k'≠ .gone→k≠ .gone):=fun i k' hk=>by
  rcases s.2 i with e|⟨M,⟨e1,e2⟩|⟨e1,e2⟩⟩
  ·exact⟨k',e.trans hk,id,id⟩
  ·rw[e2]at hk;cases hk
   exact⟨_,e1,blk_mS.1,fun _=>by simp⟩
  ·rw[e2]at hk;cases hk
   exact⟨_,e1,blk_mS.2,fun _=>by simp[mS]⟩
 refine⟨r.len.trans s.1,fun i k hk=> ?_,fun i j x y k k' hi hj g g' hx hy e=> ?_,fun i x k hi g hx=> ?_,r.keep,r.gk,r.amb,fun i X tr hi=> ?_⟩
 ·obtain⟨k0,a,b,_⟩:=look i k hk;exact b (r.blk i k0 a)
 ·obtain⟨k0,a,_,c⟩:=look i k hi
  obtain⟨k1,a',_,c'⟩:=look j k' hj
  exact r.inj i j x y k0 k1 a a' (c g) (c' g') hx hy e
 ·obtain⟨k0,a,_,c⟩:=look i k hi;exact r.sep i x k0 a (c g) hx
 ·have hi':h[i]? =some (.ext X tr):=by
   rcases s.2 i with e|⟨M,⟨e1,e2⟩|⟨e1,e2⟩⟩
   ·exact e.trans hi
   ·rw[e2]at hi;cases hi
   ·rw[e2]at hi;cases hi
  obtain⟨l,E,h1,h2,h3,h4⟩:=r.ext i X tr hi'
  exact⟨l,E,h1,h2,h3,fun b hb=>⟨(h4 b hb).1,fun j x k hj g hx=>by
   obtain⟨k0,a,_,c⟩:=look j k hj
   exact(h4 b hb).2 j x k0 a (c g) hx⟩⟩
section
variable {P:Program}
theorem SemOK.sw{o:Op}{us:List (Operand × V)}{v:V}{h h2 h' h2':List Blk}(hs:SemOK P o us h2 v h2')(s:Sw h h2)(s':Sw h' h2'):SemOK P o us h v h':=fun β G K w ρ' oper ho hc r hr=>by
 obtain⟨nx,w',β',h1,hb,h3,h4⟩:=hs β G K w ρ' oper ho hc (s.rh r) hr
 exact⟨nx,w',β',h1,hb,s'.symm.rh h3,h4⟩
theorem sw_set{h:List Blk}{q:Nat}{M:MS}(hq:h[q]? =some (.obj (mT M))):Sw h (h.set q (mS M)):=by
 refine⟨by simp,fun i=> ?_⟩
 by_cases e:q=i
 ·subst e
  exact .inr ⟨M,.inl ⟨hq,List.getElem?_set_self (List.getElem?_eq_some_iff.1 hq).1⟩⟩
 ·exact .inl (by rw[List.getElem?_set_ne e])
theorem sw_set2{h:List Blk}{q:Nat}{M':MS}(hq:q<h.length):Sw (h.set q (.obj (mT M'))) (h.set q (mS M')):=by
 refine⟨by simp,fun i=> ?_⟩
 by_cases e:q=i
 ·subst e
  exact .inr ⟨M',.inl ⟨List.getElem?_set_self hq,List.getElem?_set_self hq⟩⟩
 ·exact .inl (by rw[List.getElem?_set_ne e,List.getElem?_set_ne e])
def idxN(M:MS)(s:ByteArray):Nat:=M.findIdx fun p=>decide (p.1=s)
def cntN(M:MS)(s:ByteArray):Int:=(M.getD (idxN M s) (s,0)).2
def addN(M:MS)(s:ByteArray):MS:=if idxN M s<M.length then M.set (idxN M s) (s,cntN M s+1)else M++ [(s,1)]
theorem idxN_cases(M:MS)(s:ByteArray):(∃hj:idxN M s<M.length,M[idxN M s].1=s∧∀i,(hi:i<M.length)→i<idxN M s→M[i].1≠s)∨(idxN M s=M.length∧∀p∈M,p.1≠s):=by
 unfold idxN
 by_cases h:M.findIdx (fun p=>decide (p.1=s))<M.length
 ·exact .inl ⟨h,by have:=List.findIdx_getElem (w:=h);simpa using this,fun i hi hlt=>by have:=List.not_of_lt_findIdx hlt;simpa using this⟩
 ·right
  have e:M.findIdx (fun p=>decide (p.1=s))=M.length:=Nat.le_antisymm List.findIdx_le_length (Nat.le_of_not_lt h)
  refine⟨e,fun p hp hs=> ?_⟩
  exact absurd (List.findIdx_lt_length.2 ⟨p,hp,by simpa using hs⟩) h
variable {h:List Blk} {t kt et:TypeId} {M:MS} {q:Nat} {x y z:Operand}
theorem keyN{M:MS}{s:ByteArray}(hj:idxN M s<M.length)(hs:M[idxN M s].1=s)(hn:∀i,(hi:i<M.length)→i<idxN M s→M[i].1≠s):(M.map (·.1))[idxN M s]? =some s∧∀i,i<idxN M s→(M.map (·.1))[i]?≠some s:=by
 refine⟨by rw[List.getElem?_map,List.getElem?_eq_getElem hj];exact congrArg some hs,fun i hi e=> ?_⟩
 rw[List.getElem?_map,List.getElem?_eq_getElem (by omega)]at e
 exact hn i (by omega) hi (Option.some.inj e)
theorem noN{M:MS}{s:ByteArray}(hn:∀p∈M,p.1≠s):s∉M.map (·.1):=fun e=>by
 obtain⟨p,hp,e2⟩:=List.mem_map.1 e
 exact hn p hp e2
theorem semT_make(t:TypeId):SemOK P (.makeMap t none) [] h (.map h.length) (h++ [.obj (mT [])]):=by
 refine SemOK.sw (sem_makeMapV t) ⟨rfl,fun i=>.inl rfl⟩ ⟨by simp,fun i=> ?_⟩
 rcases Nat.lt_trichotomy i h.length with q|q|q
 ·exact .inl (by rw[List.getElem?_append_left q,List.getElem?_append_left q])
 ·subst q;exact .inr ⟨[],.inl ⟨by simp,by simp[mS,kS]⟩⟩
 ·exact .inl (by rw[List.getElem?_eq_none (by simp;omega),List.getElem?_eq_none (by simp;omega)])
theorem semT_lookup(ht:P.underlying t=some (.map kt et))(hk:P.underlying kt=some .string)(hz:(P.info? et).bind (·.zero)=some (.int .i64 0))(hq:h[q]? =some (.obj (mT M)))(s:ByteArray):
  SemOK P (.lookup t x y false) [(x,.map q),(y,.str s)] h (.int .i64 (cntN M s)) h:=by
 have hql:=(List.getElem?_eq_some_iff.1 hq).1
 have hq2:(h.set q (mS M))[q]? =some (mS M):=List.getElem?_set_self hql
 rcases idxN_cases M s with⟨hj,hs,hn⟩|⟨he,hn⟩
 ·obtain⟨k1,k2⟩:=keyN hj hs hn
  have:=sem_lookupS1 (P:=P) (x:=x) (y:=y) ht hk hq2 k1 k2
  have e:(M.map fun p=>(.int .i64 p.2:V)).getD (idxN M s) .undef=.int .i64 (cntN M s):=by
   unfold cntN;simp[List.getD_eq_getElem?_getD,hj]
  rw[e]at this
  exact this.sw (sw_set hq) (sw_set hq)
 ·have:=sem_lookupS0 (P:=P) (x:=x) (y:=y) ht hk hz hq2 (noN hn)
  have e:cntN M s=0:=by unfold cntN;rw[he];simp[List.getD_eq_getElem?_getD]
  rw[e]
  exact this.sw (sw_set hq) (sw_set hq)
theorem semT_update(ht:P.underlying t=some (.map kt et))(hk:P.underlying kt=some .string)(hq:h[q]? =some (.obj (mT M)))(s:ByteArray):
  SemOK P (.mapUpdate t x y z) [(x,.map q),(y,.str s),(z,.int .i64 (cntN M s+1))] h .undef (h.set q (.obj (mT (addN M s)))):=by
 have hql:=(List.getElem?_eq_some_iff.1 hq).1
 have hq2:(h.set q (mS M))[q]? =some (mS M):=List.getElem?_set_self hql
 have key:SemOK P (.mapUpdate t x y z) [(x,.map q),(y,.str s),(z,.int .i64 (cntN M s+1))] (h.set q (mS M)) .undef ((h.set q (mS M)).set q (mS (addN M s))):=by
  rcases idxN_cases M s with⟨hj,hs,hn⟩|⟨he,hn⟩
  ·obtain⟨k1,k2⟩:=keyN hj hs hn
   have:=sem_updateS1 (P:=P) (x:=x) (y:=y) (z:=z) (v:=.int .i64 (cntN M s+1)) ht hk hq2 (by simp) k1 k2
   have e:mS (addN M s)=.maps (kS (M.map (·.1))) ((M.map fun p=>(.int .i64 p.2:V)).set (idxN M s) (.int .i64 (cntN M s+1))):=by
    unfold addN mS
    rw[if_pos hj,List.map_set,List.map_set]
    congr 2
    apply List.ext_getElem?
    intro i
    by_cases hi:idxN M s=i
    ·subst hi;rw[List.getElem?_set_self (by simpa using hj),k1]
    ·rw[List.getElem?_set_ne hi]
   rw[e];exact this
  ·have:=sem_updateS (P:=P) (x:=x) (y:=y) (z:=z) (v:=.int .i64 (cntN M s+1)) ht hk hq2 (by simp) (noN hn)
   have e0:cntN M s=0:=by unfold cntN;rw[he];simp[List.getD_eq_getElem?_getD]
   have e:mS (addN M s)=.maps (kS (M.map (·.1)++ [s])) ((M.map fun p=>(.int .i64 p.2:V))++ [.int .i64 (cntN M s+1)]):=by
    unfold addN mS
    rw[if_neg (by omega),List.map_append,List.map_append,e0];rfl
   rw[e];exact this
 have s2:Sw (h.set q (.obj (mT (addN M s)))) ((h.set q (mS M)).set q (mS (addN M s))):=by
  rw[List.set_set];exact sw_set2 hql
 exact key.sw (sw_set hq) s2
theorem semT_range(ht:P.underlying t=some (.map kt et))(hq:h[q]? =some (.obj (mT M))):SemOK P (.range t x) [(x,.map q)] h (.ref h.length 0 0) (h++ [.iter (.map q) M.length #[]]):=by
 have hql:=(List.getElem?_eq_some_iff.1 hq).1
 have hq2:(h.set q (mS M))[q]? =some (mS M):=List.getElem?_set_self hql
 have:=sem_rangeS (P:=P) (x:=x) ht hq2
 rw[List.length_set,List.length_map]at this
 refine this.sw (sw_set hq) ?_
 have e:h.set q (mS M)++ [Blk.iter (.map q) M.length #[]]=(h++ [Blk.iter (.map q) M.length #[]]).set q (mS M):=by rw[List.set_append_left _ _ hql]
 rw[e]
 exact sw_set (by rw[List.getElem?_append_left hql];exact hq)
theorem semT_next0{i:Nat}{seen:Array Nat}(hq:h[q]? =some (.obj (mT M)))(hi:h[i]? =some (.iter (.map q) M.length seen))(h0:leftM M.length seen=[]):
  SemOK P (.next x false) [(x,.ref i 0 0)] h (.tuple [.bool false]) h:=by
 have hql:=(List.getElem?_eq_some_iff.1 hq).1
 have hq2:(h.set q (mS M))[q]? =some (mS M):=List.getElem?_set_self hql
 have hne:q≠i:=fun e=>by subst e;rw[hq]at hi;cases hi
 have hml:(M.map (·.1)).length=M.length:=List.length_map _
 refine(sem_next0S (P:=P) (x:=x) (ks:=M.map (·.1)) (seen:=seen) hq2 (i:=i) ?_ ?_).sw (sw_set hq) (sw_set hq)
 ·rw[List.getElem?_set_ne hne,hml];exact hi
 ·rw[hml];exact h0
theorem semT_next1{i:Nat}{seen:Array Nat}(hq:h[q]? =some (.obj (mT M)))(hi:h[i]? =some (.iter (.map q) M.length seen))(h0:leftM M.length seen≠ []):
  SemAny P (.next x false) [(x,.ref i 0 0)] h (leftM M.length seen).length (fun j=>.tuple [.bool true,.str (M.getD ((leftM M.length seen).getD j 0) (ByteArray.empty,0)).1,.int .i64 (M.getD ((leftM M.length seen).getD j 0) (ByteArray.empty,0)).2])
   (fun j=>h.set i (.iter (.map q) M.length (seen.push ((leftM M.length seen).getD j 0)))):=by
 have hql:=(List.getElem?_eq_some_iff.1 hq).1
 have hq2:(h.set q (mS M))[q]? =some (mS M):=List.getElem?_set_self hql
 have hne:q≠i:=fun e=>by subst e;rw[hq]at hi;cases hi
 have hml:(M.map (·.1)).length=M.length:=List.length_map _
 have key:=sem_next1S (P:=P) (x:=x) (ks:=M.map (·.1)) (vs:=M.map fun p=>.int .i64 p.2) (seen:=seen) hq2 (i:=i) (by rw[List.getElem?_set_ne hne,hml];exact hi) (by rw[hml];exact h0)
 rw[hml]at key
 have e:∀j,j<(leftM M.length seen).length→(V.tuple [.bool true,.str ((M.map (·.1)).getD ((leftM M.length seen).getD j 0) ByteArray.empty),(M.map fun p=>(.int .i64 p.2:V)).getD ((leftM M.length seen).getD j 0) .undef])=.tuple [.bool true,.str (M.getD ((leftM M.length seen).getD j 0) (ByteArray.empty,0)).1,.int .i64 (M.getD ((leftM M.length seen).getD j 0) (ByteArray.empty,0)).2]:=fun j hj=>by
  have hm:(leftM M.length seen).getD j 0<M.length:=by
   have:(leftM M.length seen).getD j 0∈leftM M.length seen:=by rw[List.getD_eq_getElem?_getD,List.getElem?_eq_getElem hj];exact List.getElem_mem hj
   simp only[leftM,List.mem_filter,List.mem_range]at this
   exact this.1
  generalize(leftM M.length seen).getD j 0=i at hm
  simp[List.getD_eq_getElem?_getD,hm]
 intro β G K w ρ' oper ho hc r hr
 obtain⟨j,hj,nx,w',β',h1,hb,h3,h4⟩:=key β G K w ρ' oper ho hc ((sw_set hq).rh r) hr
 refine⟨j,hj,nx,w',β',h1,hb,?_,?_⟩
 ·refine Sw.rh ?_ h3
  refine Sw.symm ?_
  show Sw (h.set i _) ((h.set q (mS M)).set i _)
  rw[List.set_comm _ _ hne]
  exact sw_set (by rw[List.getElem?_set_ne (Ne.symm hne)];exact hq)
 ·have h5:=e j hj
  simp only at h4⊢
  rw[←h5];exact h4
theorem semT_entry{i:Nat}{seen:Array Nat}{j:Nat}(hq:h[q]? =some (.obj (mT M)))(hi:h[i]? =some (.iter (.map q) M.length seen))(hj:seen.back? =some j)(hjm:j<M.length):
  SemOK P (.entry x) [(x,.ref i 0 0)] h (.tuple [.str (M.getD j (ByteArray.empty,0)).1,.int .i64 (M.getD j (ByteArray.empty,0)).2]) h:=by
 have hql:=(List.getElem?_eq_some_iff.1 hq).1
 have hq2:(h.set q (mS M))[q]? =some (mS M):=List.getElem?_set_self hql
 have hne:q≠i:=fun e=>by subst e;rw[hq]at hi;cases hi
 have hml:(M.map (·.1)).length=M.length:=List.length_map _
 have key:=sem_entryS (P:=P) (x:=x) (ks:=M.map (·.1)) (vs:=M.map fun p=>.int .i64 p.2) (seen:=seen) hq2 (i:=i) (by rw[List.getElem?_set_ne hne,hml];exact hi) hj (by rw[hml];exact hjm)
 have e:(V.tuple [.str ((M.map (·.1)).getD j ByteArray.empty),(M.map fun p=>(.int .i64 p.2:V)).getD j .undef])=.tuple [.str (M.getD j (ByteArray.empty,0)).1,.int .i64 (M.getD j (ByteArray.empty,0)).2]:=by
  simp[List.getD_eq_getElem?_getD,hjm]
 rw[e]at key
 exact key.sw (sw_set hq) (sw_set hq)
end
end Ab
set_option maxRecDepth 100000
namespace Go.Proofs.YtemgodefhcbleaaGreat
open Ab Go
noncomputable section
theorem map_take_len{τ υ:Type}(f:τ→υ)(l:List τ)(i:Nat)(hi:i≤l.length):((l.map f).take i).reverse.length=i:=by simp;omega
theorem PCalls.arg{P:Program}{f:FuncId}{pre suf:List V}{a a':V}{post:V→Prop}(h:PCalls P f (pre++a::suf) post)(hv:VLe a' a):PCalls P f (pre++a'::suf) post:=by
 refine h.vle (by simp) fun j hj=> ?_
 by_cases h1:j<pre.length
 ·simp only[List.getD_eq_getElem?_getD,List.getElem?_append_left h1];exact VLe.refl _
 ·by_cases h2:j=pre.length
  ·subst h2;simpa using hv
  ·obtain⟨k,hk⟩:∃k,j-pre.length=k+1:=⟨j-pre.length-1,by omega⟩
   simp only[List.getD_eq_getElem?_getD,List.getElem?_append_right (Nat.le_of_not_lt h1),hk,List.getElem?_cons_succ];exact VLe.refl _
inductive P96
 |e
inductive R96
 |r0 (r0:Bool)
noncomputable def T96(p0:Int)(p1:Int)(p2:Int):P96→Tr P96 R96
 |.e=>(.br (decide (p0≥p1)) (.out (.r0 (decide (p0≤p2)))) (.out (.r0 false)))
noncomputable def g96(p0:Int)(p1:Int)(p2:Int):P96→List Item × St
 |.e=>bd Tryz.f96 [iI p0,iI p1,iI p2] 12
noncomputable def n96:R96→Exit × St
 |.r0 r0=>(.ret,⟨mk 15 [(6,.bool r0)],[],[]⟩)
noncomputable def v96:R96→V
 |.r0 r0=>.bool r0
theorem s96(p0:Int)(p1:Int)(p2:Int):Sm 0 (g96 p0 p1 p2) (T96 p0 p1 p2) (n96)
 |.e=>⟨400,by kernel_rfl⟩
theorem q96:∀r,bodyQ Tryz.prog Tryz.f96 (·=v96 r) (n96 r).1 (n96 r).2
 |.r0 r0=>bq (.bool r0) (by kernel_rfl)
theorem w96(p0:Int)(p1:Int)(p2:Int){post:V→Prop}(h:WQ (T96 p0 p1 p2) v96 post .e):PC 96 [iI p0,iI p1,iI p2] post:=
 PCalls.wq Tryz.func96 (s96 p0 p1 p2) q96 h
theorem c96(n a b:Int):PC 96 [iI n,iI a,iI b] (·=.bool (within n a b)):=by
 refine w96 _ _ _ (WP.step ?_)
 simp only[T96,Go,Ends',v96,Tr.sure,SS]
 repeat' with_reducible first|intro _|apply And.intro
 all_goals simp[within,GE.ge,Go,Ends',v96,-List.getD_eq_getElem?_getD, *]
 all_goals simp_all [within]
inductive P108
 |e
inductive R108
 |r0 (r0:Bool)
noncomputable def T108(p0:Int)(p1:Int)(p2:Int):P108→Tr P108 R108
 |.e=>(.br (decide (p0≥p1)) (.out (.r0 (decide (p0≤p2)))) (.out (.r0 false)))
noncomputable def g108(p0:Int)(p1:Int)(p2:Int):P108→List Item × St
 |.e=>bd Tryz.f108 [iI p0,iI p1,iI p2] 12
noncomputable def n108:R108→Exit × St
 |.r0 r0=>(.ret,⟨mk 15 [(6,.bool r0)],[],[]⟩)
noncomputable def v108:R108→V
 |.r0 r0=>.bool r0
theorem s108(p0:Int)(p1:Int)(p2:Int):Sm 0 (g108 p0 p1 p2) (T108 p0 p1 p2) (n108)
 |.e=>⟨400,by kernel_rfl⟩
theorem q108:∀r,bodyQ Tryz.prog Tryz.f108 (·=v108 r) (n108 r).1 (n108 r).2
 |.r0 r0=>bq (.bool r0) (by kernel_rfl)
theorem w108(p0:Int)(p1:Int)(p2:Int){post:V→Prop}(h:WQ (T108 p0 p1 p2) v108 post .e):PC 108 [iI p0,iI p1,iI p2] post:=
 PCalls.wq Tryz.func108 (s108 p0 p1 p2) q108 h
theorem c108(n a b:Int):PC 108 [iI n,iI a,iI b] (·=.bool (within n a b)):=by
 refine w108 _ _ _ (WP.step ?_)
 simp only[T108,Go,Ends',v108,Tr.sure,SS]
 repeat' with_reducible first|intro _|apply And.intro
 all_goals simp[within,GE.ge,Go,Ends',v108,-List.getD_eq_getElem?_getD, *]
 all_goals simp_all [within]
theorem data_len(s:ByteArray):s.data.toList.length=s.size:=rfl
theorem data_get(s:ByteArray)(i:Nat):s.data.getD i 0=s.data.toList.getD i 0:=by simp
theorem inR8(c:UInt8):inR .i64 (c.toNat:Int)=true:=inR64 (by omega) (by have:=c.toNat_lt;omega)
inductive P87
 |e
 |l0 (x0_3:Int)
inductive R87
 |r0 (r0:Bool)
noncomputable def T87(p0:ByteArray):P87→Tr P87 R87
 |.e=>(.br ((p0.size:Int)==(0:Int)) (.lit true (.out (.r0 false))) (.br (decide ((p0.size:Int)>(16:Int))) (.out (.r0 false)) (.go (.l0 0))))
 |.l0 x0_3=>let c1:=((p0.data.getD (x0_3).toNat 0).toNat:Int);let c2:Tr P87 R87:=.need (inR .i64 (x0_3+(1:Int))) (.go (.l0 (x0_3+(1:Int))));let c3:=decide (0≤x0_3)&&decide (x0_3<(p0.size:Int));let c4:Tr P87 R87:=.lit true (.lit true (.out (.r0 false)));let c5:=within c1 97 122;let c6:Tr P87 R87:=.lit false (.lit false c2);(.br (decide (x0_3<(p0.size:Int))) (.need c3 (.need (inR .i64 c1) (.call 96 [iI c1,iI 97,iI 122] (.bool c5) true true (.need c3 (.need (inR .i64 c1) (.call 96 [iI c1,iI 48,iI 57] (.bool (within c1 48 57)) true true (.br (within c1 48 57) (.br (!c5) (.br (x0_3==(0:Int)) c4 (.lit true (.lit false c2))) c6) (.need c3 (.br (!c5) (.br (x0_3==(0:Int)) c4 (.lit true (.br (!(c1==(46:Int))) (.out (.r0 false)) c2))) c6))))))))) (.out (.r0 true)))
noncomputable def g87(p0:ByteArray):P87→List Item × St
 |.e=>bd Tryz.f87 [.str p0] 45
 |.l0 x0_3=>(cutOf Tryz.f87 0,⟨mk 46 [(0,.str p0),(2,.bool false),(3,iI x0_3)],[],[]⟩)
noncomputable def n87:R87→Exit × St
 |.r0 r0=>(.ret,⟨mk 46 [(2,.bool r0)],[],[]⟩)
noncomputable def v87:R87→V
 |.r0 r0=>.bool r0
theorem s87(p0:ByteArray):Sm 0 (g87 p0) (T87 p0) (n87)
 |.e=>⟨400,by kernel_rfl⟩
 |.l0 _=>⟨400,by kernel_rfl⟩
theorem q87:∀r,bodyQ Tryz.prog Tryz.f87 (·=v87 r) (n87 r).1 (n87 r).2
 |.r0 r0=>bq (.bool r0) (by kernel_rfl)
theorem w87(p0:ByteArray){post:V→Prop}(h:WQ (T87 p0) v87 post .e):PC 87 [.str p0] post:=
 PCalls.wq Tryz.func87 (s87 p0) q87 h
theorem c87(s:ByteArray):PC 87 [.str s] (·=.bool (nameOk s)):=by
 refine w87 _ (WP.step ?_)
 simp only[T87,Tr.sure,Go,Ends',v87]
 refine⟨fun h=> ?_,fun h0=>⟨fun h=> ?_,fun h1=> ?_⟩⟩
 ·simp at h;simp[nameOk,h]
 ·simp at h;simp[nameOk];omega
 simp only[beq_eq_false_iff_ne,ne_eq,decide_eq_false_iff_not,Int.not_lt,gt_iff_lt]at h0 h1
 have hs:s.size≤16:=by omega
 have hn:nameOk s=nameFrom true s.data.toList:=by
  have h0':s.size≠0:=by omega
  simp[nameOk,hs,h0']
 refine WP.count (fun i=>.l0 i) rfl s.size (fun i=>nameFrom true s.data.toList=nameFrom (i==0) (s.data.toList.drop i)) rfl (fun i hi hI=> ?_) fun hI=> ?_
 ·have hd:=drop_cons 0 s.data.toList i hi
  have hr:inR .i64 ((i:Int)+1)=true:=inR64 (by omega) (by omega)
  have hc:=inR8 (s.data.toList.getD i 0)
  rw[hd]at hI
  simp only[nameFrom]at hI
  generalize hg:s.data.toList.getD i 0=c at*
  refine WP.once ?_
  simp only[T87,Tr.sure,SS,hi,data_get,hg]
  repeat' with_reducible first|intro _|apply And.intro
  all_goals first|exact c96 _ _ _|(simp[hr,hc,hI,hn,letter,other,Go,Ends',v87,-List.getD_eq_getElem?_getD, *];done)
 ·have he:nameFrom (s.size==0) (s.data.toList.drop s.size)=true:=by rw[←data_len,List.drop_length];rfl
  refine WP.step ?_
  simp only[T87,Go,Ends',v87,Tr.sure,SS]
  repeat' with_reducible first|intro _|apply And.intro
  all_goals simp[hn,hI,he,Go,Ends',v87,-List.getD_eq_getElem?_getD, *]
theorem tstr_zero:tstr.zero=ByteArray.empty:=rfl
inductive P46
 |e
 |l0 (x0_5:Int)
inductive R46
 |r0 (r0:Int)
noncomputable def T46(p0:List ByteArray)(p1:ByteArray):P46→Tr P46 R46
 |.e=>(.go (.l0 0))
 |.l0 x0_5=>let c1:=x0_5<(p0.length:Int);(.br (decide c1) (.need (decide (0≤x0_5)&&decide c1) (.br ((p0.getD (x0_5).toNat tstr.zero).toList==p1.toList) (.out (.r0 x0_5)) (.need (inR .i64 (x0_5+(1:Int))) (.go (.l0 (x0_5+(1:Int))))))) (.out (.r0 (-1))))
noncomputable def g46(p0:List ByteArray)(p1:ByteArray):P46→List Item × St
 |.e=>bd Tryz.f46 [tstr.lst p0,.str p1] 17
 |.l0 x0_5=>(cutOf Tryz.f46 0,⟨mk 19 [(0,tstr.lst p0),(1,.str p1),(4,iI 0),(5,iI x0_5)],[],[]⟩)
noncomputable def n46:R46→Exit × St
 |.r0 r0=>(.ret,⟨mk 19 [(4,iI r0)],[],[]⟩)
noncomputable def v46:R46→V
 |.r0 r0=>iI r0
theorem s46(p0:List ByteArray)(p1:ByteArray):Sm 0 (g46 p0 p1) (T46 p0 p1) (n46)
 |.e=>⟨400,by kernel_rfl⟩
 |.l0 _=>⟨400,by kernel_rfl⟩
theorem q46:∀r,bodyQ Tryz.prog Tryz.f46 (·=v46 r) (n46 r).1 (n46 r).2
 |.r0 r0=>bq (iI r0) (by kernel_rfl)
theorem w46(p0:List ByteArray)(p1:ByteArray){post:V→Prop}(h:WQ (T46 p0 p1) v46 post .e):PC 46 [tstr.lst p0,.str p1] post:=
 PCalls.wq Tryz.func46 (s46 p0 p1) q46 h
theorem c46(l:List ByteArray)(n:ByteArray)(h:l.length≤1000):PC 46 [tstr.lst l,.str n] (·=iI (indexS l n)):=by
 refine w46 _ _ (WP.step ?_)
 simp only[T46,Go,Ends',v46,Tr.sure,SS]
 repeat' with_reducible first|intro _|apply And.intro
 refine WP.findI (fun i=>.l0 i) rfl l ByteArray.empty (fun o=>same o n) (fun i hi=> ?_) fun hI=> ?_
 ·have hr:inR .i64 ((i:Int)+1)=true:=inR64 (by omega) (by omega)
  refine WP.once ?_
  simp only[T46,Tr.sure,SS,hi]
  repeat' with_reducible first|intro _|apply And.intro
  all_goals first|(simp[hr,same,tstr_zero,indexS,Go,Ends',v46,-List.getD_eq_getElem?_getD, *];done)|(simp_all [hr,same,tstr_zero,indexS,Go,Ends',v46,-List.getD_eq_getElem?_getD];done)
 ·refine WP.step ?_
  simp only[T46,Go,Ends',v46,Tr.sure,SS]
  repeat' with_reducible first|intro _|apply And.intro
  all_goals simp[hI,indexS,Go,Ends',v46,-List.getD_eq_getElem?_getD, *]
theorem indexS_ge(l:List ByteArray)(n:ByteArray):(0≤indexS l n)↔l.any (fun o=>same o n)=true:=by
 rw[←firstI_any _ l 0,indexS]
 cases firstI (fun o=>same o n) 0 l<;>simp
inductive P71
 |e
inductive R71
 |r0 (r0:Int)
noncomputable def T71(p0:ByteArray)(p1:List ByteArray):P71→Tr P71 R71
 |.e=>(.call 87 [.str p0] (.bool (nameOk p0)) true true (.br (!(nameOk p0)) (.out (.r0 6)) (.call 46 [tstr.lst p1,.str p0] (iI (indexS p1 p0)) true true (.br (decide ((indexS p1 p0)≥(0:Int))) (.out (.r0 5)) (.out (.r0 0))))))
noncomputable def g71(p0:ByteArray)(p1:List ByteArray):P71→List Item × St
 |.e=>bd Tryz.f71 [.str p0,tstr.lst p1] 10
noncomputable def n71:R71→Exit × St
 |.r0 r0=>(.ret,⟨mk 12 [(4,iI r0)],[],[]⟩)
noncomputable def v71:R71→V
 |.r0 r0=>iI r0
theorem s71(p0:ByteArray)(p1:List ByteArray):Sm 0 (g71 p0 p1) (T71 p0 p1) (n71)
 |.e=>⟨400,by kernel_rfl⟩
theorem q71:∀r,bodyQ Tryz.prog Tryz.f71 (·=v71 r) (n71 r).1 (n71 r).2
 |.r0 r0=>bq (iI r0) (by kernel_rfl)
theorem w71(p0:ByteArray)(p1:List ByteArray){post:V→Prop}(h:WQ (T71 p0 p1) v71 post .e):PC 71 [.str p0,tstr.lst p1] post:=
 PCalls.wq Tryz.func71 (s71 p0 p1) q71 h
theorem c71(n:ByteArray)(l:List ByteArray)(h:l.length≤1000):PC 71 [.str n,tstr.lst l] (·=iI (newErr n l)):=by
 have hi:=indexS_ge l n
 refine w71 _ _ (WP.step ?_)
 simp only[T71,Go,Ends',v71,Tr.sure,SS]
 repeat' with_reducible first|intro _|apply And.intro
 all_goals first|exact c87 _|exact c46 _ _ h|(simp[newErr,Go,Ends',v71,-List.getD_eq_getElem?_getD, *];done)|(simp_all [newErr,Go,Ends',v71,-List.getD_eq_getElem?_getD];done)
theorem c71r(n:ByteArray)(l:List ByteArray)(h:l.length≤1000):PC 71 [.str n,.list 1 l.reverse.length (rowsRev tstr l.reverse)] (·=iI (newErr n l)):=
 PCalls.arg (pre:=[.str n]) (c71 n l h) (by have:=VLe.rev tstr l.reverse;rwa[List.reverse_reverse]at this)
theorem take_eq_snoc{τ:Type}(d:τ){a b:List τ}{i:Nat}(ha:i<a.length)(hb:i<b.length)(h:a.take i=b.take i)(e:a.getD i d=b.getD i d):a.take (i+1)=b.take (i+1):=by
 rw[take_snoc d a i ha,take_snoc d b i hb,h,e]
inductive P24
 |e
 |l0 (x0_5:Bool) (x0_6:Int)
inductive R24
 |r0 (r0:Bool)
noncomputable def T24(p0:List Int)(p1:List Int):P24→Tr P24 R24
 |.e=>(.go (.l0 ((p0.length:Int)==(p1.length:Int)) 0))
 |.l0 x0_5 x0_6=>let c1:=x0_6<(p0.length:Int);(.br x0_5 (.br (decide c1) (.front [] [] (((decide (0≤x0_6)&&decide c1)&&((decide (0≤x0_6)&&decide (x0_6<(p1.length:Int)))&&true))&&true) true (.need (inR .i64 (x0_6+(1:Int))) (.go (.l0 ((p0.getD (x0_6).toNat tint.zero)==(p1.getD (x0_6).toNat tint.zero)) (x0_6+(1:Int)))))) (.out (.r0 x0_5))) (.lit false (.out (.r0 x0_5))))
noncomputable def g24(p0:List Int)(p1:List Int):P24→List Item × St
 |.e=>bd Tryz.f24 [tint.lst p0,tint.lst p1] 29
 |.l0 x0_5 x0_6=>(cutOf Tryz.f24 0,⟨mk 31 [(0,tint.lst p0),(1,tint.lst p1),(5,.bool x0_5),(6,iI x0_6)],[],[]⟩)
noncomputable def n24:R24→Exit × St
 |.r0 r0=>(.ret,⟨mk 31 [(4,.bool r0)],[],[]⟩)
noncomputable def v24:R24→V
 |.r0 r0=>.bool r0
theorem s24(p0:List Int)(p1:List Int):Sm 0 (g24 p0 p1) (T24 p0 p1) (n24)
 |.e=>⟨400,by kernel_rfl⟩
 |.l0 _ _=>⟨400,by kernel_rfl⟩
theorem q24:∀r,bodyQ Tryz.prog Tryz.f24 (·=v24 r) (n24 r).1 (n24 r).2
 |.r0 r0=>bq (.bool r0) (by kernel_rfl)
theorem w24(p0:List Int)(p1:List Int){post:V→Prop}(h:WQ (T24 p0 p1) v24 post .e):PC 24 [tint.lst p0,tint.lst p1] post:=
 PCalls.wq Tryz.func24 (s24 p0 p1) q24 h
theorem e24:∀xs w,(callFunc 24 xs).run Tryz.prog w=.ok (.enter 24 xs) w:=PCalls.enters Tryz.func24 (c:=Tryz.f24.body.getD .skip) (by kernel_rfl) (by kernel_rfl)
theorem c24(a b:List Int):PC 24 [tint.lst a,tint.lst b] (·=.bool (sameI a b)):=by
 refine PCalls.assume e24 0 (by simp) .list fun hl=> ?_
 have hfalse:a≠b→∀i,WP Tryz.prog ⟨none,0⟩ (T24 a b) (Ends' fun r=>v24 r=.bool (sameI a b)) (.l0 false i):=fun h i=>by
  have hs:sameI a b=false:=by simpa[sameI]using h
  refine WP.step ?_
  simp only[T24,Go,Ends',v24,Tr.sure,SS]
  repeat' with_reducible first|intro _|apply And.intro
  all_goals simp[hs,Go,Ends',v24,-List.getD_eq_getElem?_getD, *]
 refine w24 _ _ (WP.step ?_)
 simp only[T24,Tr.sure,Go]
 by_cases he:a.length=b.length
 ·have e1:((a.length:Int)==(b.length:Int))=true:=by simp[he]
  rw[e1]
  refine WP.count (fun i=>.l0 true (i:Int)) rfl a.length (fun i=>a.take i=b.take i) rfl (fun i hi hI=> ?_) fun hI=> ?_
  ·have hb:i<b.length:=by omega
   have hr:=inRi hi hl
   have hi':(i:Int)<a.length:=by omega
   have hb':(i:Int)<b.length:=by omega
   by_cases hx:a.getD i 0=b.getD i 0
   ·have hn:=take_eq_snoc 0 hi hb hI hx
    refine WP.once ?_
    simp only[T24,Tr.sure,SS,hi',hb',hx,z1,beq_self_eq_true]
    repeat' with_reducible first|intro _|apply And.intro
    all_goals simp[hr,hn,Go,Ends',v24,-List.getD_eq_getElem?_getD, *]
   ·have hne:a≠b:=fun h=>hx (by rw[h])
    have hx2:(a.getD i 0==b.getD i 0)=false:=by simpa using hx
    have hgo:=hfalse hne ((i:Int)+1)
    refine WP.once ?_
    simp only[T24,Tr.sure,SS,hi',hb',hx2,z1]
    repeat' with_reducible first|intro _|apply And.intro
    all_goals first|exact(Or.inr hgo)|(simp[hr,Go,Ends',v24,-List.getD_eq_getElem?_getD, *];done)
  ·have heq:a=b:=by rw[List.take_length,he,List.take_length]at hI;exact hI
   have hs:sameI a b=true:=by simpa[sameI]using heq
   refine WP.step ?_
   simp only[T24,Go,Ends',v24,Tr.sure,SS,Int.lt_irrefl]
   repeat' with_reducible first|intro _|apply And.intro
   all_goals simp_all [hs,Go,Ends',v24,-List.getD_eq_getElem?_getD]
 ·have e1:((a.length:Int)==(b.length:Int))=false:=by simp;omega
  rw[e1]
  exact hfalse (fun h=>he (by rw[h])) 0
end
noncomputable section
inductive P72
 |e
 |l0 (x0_3:Int)
inductive R72
 |r0 (r0:Int)
noncomputable def T72(l:List Shown):P72→Tr P72 R72
 |.e=>(.br (decide ((l.length:Int)>(3:Int))) (.out (.r0 3)) (.go (.l0 0)))
 |.l0 x0_3=>let c2:=l.getD (x0_3).toNat tShown.zero;let c3:=decide (0≤x0_3)&&decide (x0_3<(l.length:Int));let c1:Tr P72 R72:=.need c3 (.call 87 [.str (c2.as_)] (.bool (nameOk (c2.as_))) true true (.br (!(nameOk (c2.as_))) (.out (.r0 6)) (.need (inR .i64 (x0_3+(1:Int))) (.go (.l0 (x0_3+(1:Int)))))));let c4:=decide (x0_3>(0:Int));let c5:=x0_3-(1:Int);(.br (decide (x0_3<(l.length:Int))) (.need c3 (.call 108 [iI (c2.day),iI 0,iI 364] (.bool (within (c2.day) 0 364)) true true (.br (!(within (c2.day) 0 364)) (.out (.r0 7)) (.br c4 (.front [] [(2,true)] (((c4==true)&&(c3&&((inR .i64 c5)&&((decide (0≤c5)&&decide (c5<(l.length:Int)))&&true))))&&true) true (.br (decide (c2.day≤(l.getD (c5).toNat tShown.zero).day)) (.out (.r0 2)) c1)) (.front [] [(2,false)] (((c4==false)&&true)&&true) true (.lit false c1)))))) (.out (.r0 0)))
noncomputable def g72(l:List Shown):P72→List Item × St
 |.e=>bd Tryz.f72 [tShown.lst l] 42
 |.l0 x0_3=>(cutOf Tryz.f72 0,⟨mk 43 [(0,tShown.lst l),(3,iI x0_3)],[],[]⟩)
noncomputable def n72:R72→Exit × St
 |.r0 r0=>(.ret,⟨mk 43 [(2,iI r0)],[],[]⟩)
noncomputable def v72:R72→V
 |.r0 r0=>iI r0
theorem s72(l:List Shown):Sm 0 (g72 l) (T72 l) (n72)
 |.e=>⟨400,by kernel_rfl⟩
 |.l0 _=>⟨400,by kernel_rfl⟩
theorem q72:∀r,bodyQ Tryz.prog Tryz.f72 (·=v72 r) (n72 r).1 (n72 r).2
 |.r0 r0=>bq (iI r0) (by kernel_rfl)
theorem w72(l:List Shown){post:V→Prop}(h:WQ (T72 l) v72 post .e):PC 72 [tShown.lst l] post:=
 PCalls.wq Tryz.func72 (s72 l) q72 h
theorem c72(l:List Shown):PC 72 [tShown.lst l] (·=iI (shownErr l)):=by
 refine w72 _ (WP.step ?_)
 simp only[T72,Go,Ends',v72,Tr.sure,SS]
 repeat' with_reducible first|intro _|apply And.intro
 all_goals first|(simp[shownErr,Go,Ends',v72,-List.getD_eq_getElem?_getD, *];done)|skip
 rename_i h1
 have hm:l.length≤3:=by omega
 refine WP.findE (fun i=>.l0 i) rfl l zShown (shownAt l) (fun i hi=> ?_) fun hI=> ?_
 ·have hr:inR .i64 ((i:Int)+1)=true:=inR64 (by omega) (by omega)
  have hi':(i:Int)<l.length:=by omega
  by_cases h0:(0:Int)<i
  ·have h0':0<i:=by omega
   have hr2:inR .i64 ((i:Int)-1)=true:=inR64 (by omega) (by omega)
   have h02:(0:Int)≤(i:Int)-1:=by omega
   have h03:(i:Int)-1<l.length:=by omega
   have hn:((i:Int)-1).toNat=i-1:=by omega
   have e:shownAt l i (l.getD i zShown)=if !within (l.getD i zShown).day 0 364 then 7 else if(l.getD i zShown).day≤(l.getD (i-1) zShown).day then 2 else if !nameOk (l.getD i zShown).as_ then 6 else 0:=by
    unfold shownAt;simp only[h0',true_and]
   generalize shownAt l i (l.getD i zShown)=Z at*
   refine WP.once ?_
   simp only[T72,Tr.sure,SS,hi',z3,h0,hn]
   repeat' with_reducible first|intro _|apply And.intro
   all_goals first|exact c108 _ _ _|exact c87 _|(simp[hr,hr2,h02,h03,shownErr,firstR,e,Go,Ends',v72,-List.getD_eq_getElem?_getD, *];done)|(simp_all [hr,hr2,h02,h03,shownErr,firstR,e,Go,Ends',v72,-List.getD_eq_getElem?_getD];done)
  ·have h0':¬0<i:=by omega
   have e:shownAt l i (l.getD i zShown)=if !within (l.getD i zShown).day 0 364 then 7 else if !nameOk (l.getD i zShown).as_ then 6 else 0:=by
    unfold shownAt;simp only[h0',false_and,if_false]
   generalize shownAt l i (l.getD i zShown)=Z at*
   refine WP.once ?_
   simp only[T72,Tr.sure,SS,hi',z3,h0]
   repeat' with_reducible first|intro _|apply And.intro
   all_goals first|exact c108 _ _ _|exact c87 _|(simp[hr,shownErr,firstR,e,Go,Ends',v72,-List.getD_eq_getElem?_getD, *];done)|(simp_all [hr,shownErr,firstR,e,Go,Ends',v72,-List.getD_eq_getElem?_getD];done)
 ·refine WP.step ?_
  simp only[T72,Go,Ends',v72,Tr.sure,SS,Int.lt_irrefl]
  repeat' with_reducible first|intro _|apply And.intro
  all_goals simp[shownErr,firstR,hI,Go,Ends',v72,-List.getD_eq_getElem?_getD, *]
inductive P112
 |e
inductive R112
 |r0 (r0:Bool)
noncomputable def T112(b:Book)(n:Int):P112→Tr P112 R112
 |.e=>let c1:=(b.bodies.length:Int)-(1:Int);(.need (inR .i64 c1) (.call 108 [iI n,iI 0,iI c1] (.bool (within n 0 c1)) true true (.out (.r0 (within n 0 c1)))))
noncomputable def g112(b:Book)(n:Int):P112→List Item × St
 |.e=>bd Tryz.f112 [.agg (cC b),iI n] 9
noncomputable def n112:R112→Exit × St
 |.r0 r0=>(.ret,⟨mk 11 [(4,.bool r0)],[],[]⟩)
noncomputable def v112:R112→V
 |.r0 r0=>.bool r0
theorem s112(b:Book)(n:Int):Sm 0 (g112 b n) (T112 b n) (n112)
 |.e=>⟨400,by kernel_rfl⟩
theorem q112:∀r,bodyQ Tryz.prog Tryz.f112 (·=v112 r) (n112 r).1 (n112 r).2
 |.r0 r0=>bq (.bool r0) (by kernel_rfl)
theorem w112(b:Book)(n:Int){post:V→Prop}(h:WQ (T112 b n) v112 post .e):PC 112 [.agg (cC b),iI n] post:=
 PCalls.wq Tryz.func112 (s112 b n) q112 h
theorem c112(b:Book)(n:Int)(h:b.bodies.length≤5):PC 112 [.agg (tBook.cells b),iI n] (·=.bool (indexR b n)):=by
 have hr:inR .i64 ((b.bodies.length:Int)-1)=true:=inR64 (by omega) (by omega)
 refine w112 _ _ (WP.step ?_)
 simp only[T112,Go,Ends',v112,Tr.sure,SS]
 repeat' with_reducible first|intro _|apply And.intro
 all_goals first|exact c108 _ _ _|(simp[indexR,hr,Go,Ends',v112,-List.getD_eq_getElem?_getD, *];done)
def bitsTo(set:Int)(i:Nat):List Int:=((List.range i).filter (bitH set)).map fun(i:Nat)=>(i:Int)
theorem bitsTo_next(set:Int)(i:Nat):(bitsTo set (i+1)).reverse=if bitH set i=true then(i:Int)::(bitsTo set i).reverse else(bitsTo set i).reverse:=by
 unfold bitsTo
 rw[List.range_succ,List.filter_append,List.map_append,List.reverse_append]
 by_cases h:bitH set i=true
 ·simp[h]
 ·simp[h]
theorem bitsTo_len(set:Int)(i:Nat):(bitsTo set i).length≤i:=by
 unfold bitsTo
 have:=List.length_filter_le (bitH set) (List.range i)
 simp only[List.length_map,List.length_range]at*;omega
inductive P101
 |e
 |l0 (x0_4:Int) (a0_0:List Int)
inductive R101
 |r0 (r0:List Int)
noncomputable def T101(set:Int):P101→Tr P101 R101
 |.e=>(.wait 4 (.own 3 3 1 (.go (.l0 0 ([])))))
 |.l0 x0_4 a0_0=>let c1:=x0_4+(1:Int);(.br (decide (x0_4<(5:Int))) (.need (decide (0≤x0_4)) (.need (decide ((2:Int)≠0)) (.br (((set.fdiv (2^(min (x0_4).toNat 64))).tmod (2:Int))==(1:Int)) (.need ((decide (a0_0.length=a0_0.length)&&decide (a0_0.length+1≤4294967296))&&decide (1≤1)) (.scal (fun _=>true) (.need (inR .i64 c1) (.go (.l0 c1 (x0_4::a0_0)))))) (.need (inR .i64 c1) (.go (.l0 c1 a0_0)))))) (.out (.r0 a0_0)))
noncomputable def g101(set:Int):P101→List Item × St
 |.e=>bd Tryz.f101 [iI set] 18
 |.l0 x0_4 a0_0=>(cutOf Tryz.f101 0,⟨mk 19 [(0,iI set),(3,.row 0 a0_0.length),(4,iI x0_4)],[.rows 3 1 a0_0.length (rowsRev tint a0_0)],[]⟩)
noncomputable def n101:R101→Exit × St
 |.r0 r0=>(.ret,⟨mk 19 [(2,.row 0 r0.length)],[.rows 3 1 r0.length (rowsRev tint r0)],[]⟩)
noncomputable def v101:R101→V
 |.r0 r0=>tint.lst r0.reverse
theorem s101(set:Int):Sm 0 (g101 set) (T101 set) (n101)
 |.e=>⟨400,by kernel_rfl⟩
 |.l0 _ _=>⟨400,by kernel_rfl⟩
theorem q101:∀r,bodyQ Tryz.prog Tryz.f101 (·=v101 r) (n101 r).1 (n101 r).2
 |.r0 r0=>⟨.inr rfl,by simp[n101],(.row 0 r0.length),(tint.lst r0.reverse),by kernel_rfl,(.weak (.row rfl (Nat.le_refl _)) (VLe.rev tint r0)),rfl⟩
theorem w101(set:Int){post:V→Prop}(h:WQ (T101 set) v101 post .e):PC 101 [iI set] post:=
 PCalls.wq Tryz.func101 (s101 set) q101 h
theorem c101(set:Int):PC 101 [iI set] (·=tint.lst (bitsR set)):=by
 refine w101 _ (WP.step ?_)
 simp only[T101,Go,Ends',v101,Tr.sure,SS]
 repeat' with_reducible first|intro _|apply And.intro
 refine WP.run (fun i=>.l0 (i:Int) (bitsTo set i).reverse) rfl 5 (fun i hi=> ?_) ?_
 ·have hr:inR .i64 ((i:Int)+1)=true:=inR64 (by omega) (by omega)
  have hi':(i:Int)<5:=by omega
  have hl:=bitsTo_len set i
  have hl':(bitsTo set i).reverse.length+1≤4294967296:=by rw[List.length_reverse];omega
  have hb:bitH set i=((set.fdiv (2^(min i 64))).tmod 2==1):=rfl
  rw[bitsTo_next,hb]
  generalize(bitsTo set i).reverse=A at*
  refine WP.once ?_
  simp only[T101,Tr.sure,SS,hi']
  repeat' with_reducible first|intro _|apply And.intro
  all_goals simp[hr,hl',Go,Ends',v101,-List.getD_eq_getElem?_getD, *]
 ·have he:tint.lst (bitsR set)=tint.lst (bitsTo set 5).reverse.reverse:=by rw[List.reverse_reverse];rfl
  rw[he]
  refine WP.step ?_
  simp only[T101,Go,Ends',v101,Tr.sure,SS]
  repeat' with_reducible first|intro _|apply And.intro
  all_goals first|(simp[Go,Ends',v101,-List.getD_eq_getElem?_getD, *];done)|(simp_all [Go,Ends',v101,-List.getD_eq_getElem?_getD];done)
end
noncomputable section
inductive P109
 |e
 |l0 (x0_5:Int) (x0_6:Int)
inductive R109
 |r0 (r0:Int)
noncomputable def T109(b:Book)(x:Line):P109→Tr P109 R109
 |.e=>let c1:Tr P109 R109:=.br (x.kind==(1:Int)) (.lit false (.br (x.c==x.d) (.lit true (.lit true (.lit true (.out (.r0 2))))) (.br (x.set !=(0:Int)) (.lit true (.lit true (.out (.r0 2)))) (.br (!(x.kind==(1:Int))) (.br (x.c !=(0:Int)) (.lit true (.lit false (.lit true (.out (.r0 2))))) (.lit true (.lit false (.br (x.d !=(0:Int)) (.out (.r0 2)) (.out (.r0 0)))))) (.lit false (.lit false (.lit false (.out (.r0 0))))))))) (.lit false (.lit false (.br (x.set !=(0:Int)) (.lit true (.lit true (.out (.r0 2)))) (.br (!(x.kind==(1:Int))) (.br (x.c !=(0:Int)) (.lit true (.lit false (.lit true (.out (.r0 2))))) (.lit true (.lit false (.br (x.d !=(0:Int)) (.out (.r0 2)) (.out (.r0 0)))))) (.lit false (.lit false (.lit false (.out (.r0 0)))))))));let c2:Tr P109 R109:=.br (decide (x.kind≤(1:Int))) (.br (x.a==x.b) (.lit true (.lit true (.lit true (.lit true (.lit true (.out (.r0 2))))))) c1) (.lit false c1);let c3:Tr P109 R109:=.lit true (.out (.r0 4));(.br (x.kind==(2:Int)) (.go (.l0 1 0)) (.call 112 [.agg (cC b),iI x.a] (.bool (indexR b x.a)) true true (.br (!(indexR b x.a)) (.lit true (.lit true c3)) (.call 112 [.agg (cC b),iI x.b] (.bool (indexR b x.b)) true true (.br (!(indexR b x.b)) (.lit true c3) (.br (x.kind==(1:Int)) (.call 112 [.agg (cC b),iI x.c] (.bool (indexR b x.c)) true true (.br (!(indexR b x.c)) (.lit true (.lit false c3)) (.call 112 [.agg (cC b),iI x.d] (.bool (indexR b x.d)) true true (.lit true (.lit false (.br (!(indexR b x.d)) (.out (.r0 4)) c2)))))) (.lit false (.lit false (.lit false c2)))))))))
 |.l0 x0_5 x0_6=>let c1:Tr P109 R109:=.lit true (.lit true (.out (.r0 2)));let c2:=x0_5-(1:Int);(.br (decide (x0_6<(b.bodies.length:Int))) (.need (inR .i64 ((2:Int)*x0_5)) (.need (inR .i64 (x0_6+(1:Int))) (.go (.l0 ((2:Int)*x0_5) (x0_6+(1:Int)))))) (.need (inR .i64 c2) (.call 108 [iI x.set,iI 0,iI c2] (.bool (within x.set 0 c2)) true true (.br (!(within x.set 0 c2)) (.out (.r0 4)) (.call 101 [iI x.set] (tint.lst (bitsR x.set)) true true (.br (decide ((((bitsR x.set).length):Int)<(2:Int))) (.lit true (.lit true c1)) (.br (x.a !=(0:Int)) (.lit true c1) (.br (x.b !=(0:Int)) c1 (.br (x.c !=(0:Int)) (.lit true (.out (.r0 2))) (.br (x.d !=(0:Int)) (.out (.r0 2)) (.out (.r0 0))))))))))))
noncomputable def g109(b:Book)(x:Line):P109→List Item × St
 |.e=>bd Tryz.f109 [.agg (cC b),.agg [iI x.day,iI x.kind,iI x.a,iI x.b,iI x.c,iI x.d,iI x.set]] 120
 |.l0 x0_5 x0_6=>(cutOf Tryz.f109 0,⟨mk 122 [(2,.ref 0 0 0),(3,.ref 1 0 0),(5,iI x0_5),(6,iI x0_6)],[.cells (cC b),.cells [iI x.day,iI x.kind,iI x.a,iI x.b,iI x.c,iI x.d,iI x.set]],[]⟩)
noncomputable def n109:R109→Exit × St
 |.r0 r0=>(.ret,⟨mk 122 [(4,iI r0)],[],[]⟩)
noncomputable def v109:R109→V
 |.r0 r0=>iI r0
theorem s109(b:Book)(x:Line):Sm 0 (g109 b x) (T109 b x) (n109)
 |.e=>⟨400,by kernel_rfl⟩
 |.l0 _ _=>⟨400,by kernel_rfl⟩
theorem q109:∀r,bodyQ Tryz.prog Tryz.f109 (·=v109 r) (n109 r).1 (n109 r).2
 |.r0 r0=>bq (iI r0) (by kernel_rfl)
theorem w109(b:Book)(x:Line){post:V→Prop}(h:WQ (T109 b x) v109 post .e):PC 109 [.agg (cC b),.agg [iI x.day,iI x.kind,iI x.a,iI x.b,iI x.c,iI x.d,iI x.set]] post:=
 PCalls.wq Tryz.func109 (s109 b x) q109 h
theorem pow2s{n:Nat}(h:n≤5):(1:Int)≤2^n∧(2:Int)^n≤32:=by
 rcases show n=0∨n=1∨n=2∨n=3∨n=4∨n=5 by omega with rfl|rfl|rfl|rfl|rfl|rfl<;>decide
theorem c109(b:Book)(x:Line)(h:b.bodies.length≤5):PC 109 [.agg (tBook.cells b),.agg (tLine.cells x)] (·=iI (fieldsErr b x)):=by
 by_cases hk:x.kind=2
 ·have e:fieldsErr b x=if !within x.set 0 ((2:Int)^b.bodies.length-1)then 4 else if((bitsR x.set).length:Int)<2∨x.a≠0∨x.b≠0∨x.c≠0∨x.d≠0 then 2 else 0:=by unfold fieldsErr;rw[if_pos hk]
  refine w109 _ _ (WP.step ?_)
  simp only[T109,Go,Ends',v109,Tr.sure,SS]
  repeat' with_reducible first|intro _|apply And.intro
  all_goals first|(simp_all [hk,Go,Ends',v109,-List.getD_eq_getElem?_getD];done)|skip
  refine WP.run (fun i=>.l0 ((2:Int)^i) i) rfl b.bodies.length (fun i hi=> ?_) ?_
  ·have hr:inR .i64 ((i:Int)+1)=true:=inR64 (by omega) (by omega)
   have hp:=pow2s (n:=i+1) (by omega)
   have hp2:(2:Int)^(i+1)=2*2^i:=by rw[Int.pow_succ,Int.mul_comm]
   have hr2:inR .i64 (2*(2:Int)^i)=true:=by rw[←hp2];exact inR64 (by omega) (by omega)
   have hi':(i:Int)<b.bodies.length:=by omega
   rw[hp2]
   refine WP.once ?_
   simp only[T109,Tr.sure,SS,hi']
   repeat' with_reducible first|intro _|apply And.intro
   all_goals simp[hr,hr2,Go,Ends',v109,-List.getD_eq_getElem?_getD, *]
  ·have hp:=pow2s h
   have hr2:inR .i64 ((2:Int)^b.bodies.length-1)=true:=inR64 (by omega) (by omega)
   rw[e]
   refine WP.step ?_
   simp only[T109,Go,Ends',v109,Tr.sure,SS,Int.lt_irrefl]
   repeat' with_reducible first|intro _|apply And.intro
   all_goals first|exact c108 _ _ _|exact c101 _|(simp[hr2,Go,Ends',v109,-List.getD_eq_getElem?_getD, *];done)
 ·have k1:=c112 b x.a h
  have k2:=c112 b x.b h
  have k3:=c112 b x.c h
  have k4:=c112 b x.d h
  refine w109 _ _ (WP.step ?_)
  simp only[T109,Go,Ends',v109,Tr.sure,SS]
  repeat' with_reducible first|intro _|apply And.intro
  all_goals first|exact k1|exact k2|exact k3|exact k4|(simp[fieldsErr,hk,Go,Ends',v109,-List.getD_eq_getElem?_getD, *];done)|(simp_all [fieldsErr,hk,Go,Ends',v109,-List.getD_eq_getElem?_getD];done)
end
noncomputable section
inductive P73
 |e
 |l0 (x0_7:Int) (x0_8:Int)
inductive R73
 |r0 (r0:Int)
noncomputable def T73(b:Book)(i:Int):P73→Tr P73 R73
 |.e=>let c1:=b.lines.getD (i).toNat tLine.zero;let c2:Tr P73 R73:=.call 108 [iI (c1.kind),iI 0,iI 4] (.bool (within (c1.kind) 0 4)) true true (.br (!(within (c1.kind) 0 4)) (.out (.r0 7)) (.call 109 [.agg (cC b),.agg [iI (c1.day),iI (c1.kind),iI (c1.a),iI (c1.b),iI (c1.c),iI (c1.d),iI (c1.set)]] (iI (fieldsErr b c1)) true true (.br ((fieldsErr b c1) !=(0:Int)) (.out (.r0 (fieldsErr b c1))) (.go (.l0 0 0)))));let c3:=decide (i>(0:Int));let c4:=i-(1:Int);(.need (decide (0≤i)&&decide (i<(b.lines.length:Int))) (.call 108 [iI (c1.day),iI 0,iI 364] (.bool (within (c1.day) 0 364)) true true (.br (!(within (c1.day) 0 364)) (.out (.r0 7)) (.br c3 (.front [] [(2,true)] (((c3==true)&&((inR .i64 c4)&&((decide (0≤c4)&&decide (c4<(b.lines.length:Int)))&&true)))&&true) true (.br (decide (c1.day<(b.lines.getD (c4).toNat tLine.zero).day)) (.out (.r0 2)) c2)) (.front [] [(2,false)] (((c3==false)&&true)&&true) true (.lit false c2))))))
 |.l0 x0_7 x0_8=>let c1:=x0_8+(1:Int);(.br (decide (x0_8≤i)) (.need (decide (0≤x0_8)&&decide (x0_8<(b.lines.length:Int))) (.br ((b.lines.getD (x0_8).toNat tLine.zero).kind==(2:Int)) (.need (inR .i64 (x0_7+(1:Int))) (.need (inR .i64 c1) (.go (.l0 (x0_7+(1:Int)) c1)))) (.need (inR .i64 c1) (.go (.l0 x0_7 c1))))) (.br ((b.lines.getD (i).toNat tLine.zero).kind==(2:Int)) (.br (decide (x0_7>(2:Int))) (.out (.r0 3)) (.out (.r0 0))) (.lit false (.out (.r0 0)))))
noncomputable def g73(b:Book)(i:Int):P73→List Item × St
 |.e=>bd Tryz.f73 [.agg (cC b),iI i] 61
 |.l0 x0_7 x0_8=>(cutOf Tryz.f73 0,⟨mk 63 [(1,iI i),(2,.ref 0 0 0),(5,.ref 1 0 0),(7,iI x0_7),(8,iI x0_8)],[.cells (cC b),.cells [iI ((b.lines.getD (i).toNat tLine.zero).day),iI ((b.lines.getD (i).toNat tLine.zero).kind),iI ((b.lines.getD (i).toNat tLine.zero).a),iI ((b.lines.getD (i).toNat tLine.zero).b),iI ((b.lines.getD (i).toNat tLine.zero).c),iI ((b.lines.getD (i).toNat tLine.zero).d),iI ((b.lines.getD (i).toNat tLine.zero).set)]],[]⟩)
noncomputable def n73:R73→Exit × St
 |.r0 r0=>(.ret,⟨mk 63 [(4,iI r0)],[],[]⟩)
noncomputable def v73:R73→V
 |.r0 r0=>iI r0
theorem s73(b:Book)(i:Int):Sm 0 (g73 b i) (T73 b i) (n73)
 |.e=>⟨400,by kernel_rfl⟩
 |.l0 _ _=>⟨400,by kernel_rfl⟩
theorem q73:∀r,bodyQ Tryz.prog Tryz.f73 (·=v73 r) (n73 r).1 (n73 r).2
 |.r0 r0=>bq (iI r0) (by kernel_rfl)
theorem w73(b:Book)(i:Int){post:V→Prop}(h:WQ (T73 b i) v73 post .e):PC 73 [.agg (cC b),iI i] post:=
 PCalls.wq Tryz.func73 (s73 b i) q73 h
def lineAt(b:Book)(i:Int):Int:=lineErr b i.toNat (b.lines.getD i.toNat zLine)
theorem someTo_le(l:List Line):∀n:Nat,0≤someTo l n∧someTo l n≤n
 |0=>by simp[someTo,natF]
 |n+1=>by
  have:=someTo_le l n
  have e:someTo l (n+1)=if(l.getD n zLine).kind=2 then someTo l n+1 else someTo l n:=rfl
  rw[e];split<;>omega
theorem c73(b:Book)(i:Nat)(h:b.bodies.length≤5)(hl:b.lines.length≤8)(hi:i<b.lines.length):PC 73 [.agg (tBook.cells b),iI (i:Int)] (·=iI (lineAt b i)):=by
 have hi':(i:Int)<b.lines.length:=by omega
 have k1:=c109 b (b.lines.getD i zLine) h
 have hfin:¬(!within (b.lines.getD i zLine).day 0 364)=true→¬(0<i∧(b.lines.getD i zLine).day<(b.lines.getD (i-1) zLine).day)→¬(!within (b.lines.getD i zLine).kind 0 4)=true→¬fieldsErr b (b.lines.getD i zLine)≠0→
   WP Tryz.prog ⟨none,0⟩ (T73 b i) (Ends' fun r=>v73 r=iI (lineAt b i)) (.l0 0 0):=fun h1 h2 h3 h4=>by
  have e:lineAt b i=if(b.lines.getD i zLine).kind=2∧2<someTo b.lines (i+1)then 3 else 0:=by
   unfold lineAt lineErr;rw[Int.toNat_natCast,if_neg h1,if_neg h2,if_neg h3,if_neg h4]
  refine WP.run (fun k=>.l0 (someTo b.lines k) k) rfl (i+1) (fun k hk=> ?_) ?_
  ·have hs:=someTo_le b.lines k
   have hr:inR .i64 ((k:Int)+1)=true:=inR64 (by omega) (by omega)
   have hr2:inR .i64 (someTo b.lines k+1)=true:=inR64 (by omega) (by omega)
   have hk1:(k:Int)≤i:=by omega
   have hk2:(k:Int)<b.lines.length:=by omega
   have e1:someTo b.lines (k+1)=if(b.lines.getD k zLine).kind=2 then someTo b.lines k+1 else someTo b.lines k:=rfl
   rw[e1]
   refine WP.once ?_
   simp only[T73,Tr.sure,SS,hk1,hk2,z5]
   repeat' with_reducible first|intro _|apply And.intro
   all_goals simp[hr,hr2,Go,Ends',v73,-List.getD_eq_getElem?_getD, *]
  ·have hno:¬((i+1:Nat):Int)≤i:=by omega
   rw[e]
   refine WP.step ?_
   simp only[T73,Go,Ends',v73,Tr.sure,SS,hno,z5]
   repeat' with_reducible first|intro _|apply And.intro
   all_goals simp[Go,Ends',v73,-List.getD_eq_getElem?_getD, *]
 by_cases h0:(0:Int)<i
 ·have h0':0<i:=by omega
  have hr2:inR .i64 ((i:Int)-1)=true:=inR64 (by omega) (by omega)
  have h02:(0:Int)≤(i:Int)-1:=by omega
  have h03:(i:Int)-1<b.lines.length:=by omega
  have hn:((i:Int)-1).toNat=i-1:=by omega
  by_cases g1:(!within (b.lines.getD i zLine).day 0 364)=true
  ·have e:lineAt b i=7:=by unfold lineAt lineErr;rw[Int.toNat_natCast,if_pos g1]
   rw[e]
   refine w73 _ _ (WP.step ?_)
   simp only[T73,Go,Ends',v73,Tr.sure,SS,hi',z5,h0,hn]
   repeat' with_reducible first|intro _|apply And.intro
   all_goals first|exact c108 _ _ _|(simp[g1,Go,Ends',v73,-List.getD_eq_getElem?_getD, *];done)|(simp_all [g1,Go,Ends',v73,-List.getD_eq_getElem?_getD];done)
  by_cases g2:(b.lines.getD i zLine).day<(b.lines.getD (i-1) zLine).day
  ·have e:lineAt b i=2:=by unfold lineAt lineErr;rw[Int.toNat_natCast,if_neg g1,if_pos ⟨h0',g2⟩]
   rw[e]
   refine w73 _ _ (WP.step ?_)
   simp only[T73,Go,Ends',v73,Tr.sure,SS,hi',z5,h0,hn]
   repeat' with_reducible first|intro _|apply And.intro
   all_goals first|exact c108 _ _ _|(simp[g1,g2,hr2,h02,h03,Go,Ends',v73,-List.getD_eq_getElem?_getD, *];done)|(simp_all [g1,g2,hr2,h02,h03,Go,Ends',v73,-List.getD_eq_getElem?_getD];done)
  have g2':¬(0<i∧(b.lines.getD i zLine).day<(b.lines.getD (i-1) zLine).day):=fun h=>g2 h.2
  by_cases g3:(!within (b.lines.getD i zLine).kind 0 4)=true
  ·have e:lineAt b i=7:=by unfold lineAt lineErr;rw[Int.toNat_natCast,if_neg g1,if_neg g2',if_pos g3]
   rw[e]
   refine w73 _ _ (WP.step ?_)
   simp only[T73,Go,Ends',v73,Tr.sure,SS,hi',z5,h0,hn]
   repeat' with_reducible first|intro _|apply And.intro
   all_goals first|exact c108 _ _ _|(simp[g1,g2,g3,hr2,h02,h03,Go,Ends',v73,-List.getD_eq_getElem?_getD, *];done)|(simp_all [g1,g2,g3,hr2,h02,h03,Go,Ends',v73,-List.getD_eq_getElem?_getD];done)
  by_cases g4:fieldsErr b (b.lines.getD i zLine)≠0
  ·have e:lineAt b i=fieldsErr b (b.lines.getD i zLine):=by unfold lineAt lineErr;rw[Int.toNat_natCast,if_neg g1,if_neg g2',if_neg g3,if_pos g4]
   rw[e]
   refine w73 _ _ (WP.step ?_)
   simp only[T73,Go,Ends',v73,Tr.sure,SS,hi',z5,h0,hn]
   repeat' with_reducible first|intro _|apply And.intro
   all_goals first|exact c108 _ _ _|exact k1|(simp[g1,g2,g3,g4,hr2,h02,h03,Go,Ends',v73,-List.getD_eq_getElem?_getD, *];done)|(simp_all [g1,g2,g3,g4,hr2,h02,h03,Go,Ends',v73,-List.getD_eq_getElem?_getD];done)
  have hf:=hfin g1 g2' g3 g4
  refine w73 _ _ (WP.step ?_)
  simp only[T73,Go,Ends',v73,Tr.sure,SS,hi',z5,h0,hn]
  repeat' with_reducible first|intro _|apply And.intro
  all_goals first|exact c108 _ _ _|exact k1|exact hf|(simp[g1,g2,g3,g4,hr2,h02,h03,Go,Ends',v73,-List.getD_eq_getElem?_getD, *];done)|(simp_all [g1,g2,g3,g4,hr2,h02,h03,Go,Ends',v73,-List.getD_eq_getElem?_getD];done)
 ·have h0':¬0<i:=by omega
  by_cases g1:(!within (b.lines.getD i zLine).day 0 364)=true
  ·have e:lineAt b i=7:=by unfold lineAt lineErr;rw[Int.toNat_natCast,if_pos g1]
   rw[e]
   refine w73 _ _ (WP.step ?_)
   simp only[T73,Go,Ends',v73,Tr.sure,SS,hi',z5,h0]
   repeat' with_reducible first|intro _|apply And.intro
   all_goals first|exact c108 _ _ _|(simp_all [g1,Go,Ends',v73,-List.getD_eq_getElem?_getD];done)
  have g2':¬(0<i∧(b.lines.getD i zLine).day<(b.lines.getD (i-1) zLine).day):=fun h=>h0' h.1
  by_cases g3:(!within (b.lines.getD i zLine).kind 0 4)=true
  ·have e:lineAt b i=7:=by unfold lineAt lineErr;rw[Int.toNat_natCast,if_neg g1,if_neg g2',if_pos g3]
   rw[e]
   refine w73 _ _ (WP.step ?_)
   simp only[T73,Go,Ends',v73,Tr.sure,SS,hi',z5,h0]
   repeat' with_reducible first|intro _|apply And.intro
   all_goals first|exact c108 _ _ _|(simp_all [g1,g3,Go,Ends',v73,-List.getD_eq_getElem?_getD];done)
  by_cases g4:fieldsErr b (b.lines.getD i zLine)≠0
  ·have e:lineAt b i=fieldsErr b (b.lines.getD i zLine):=by unfold lineAt lineErr;rw[Int.toNat_natCast,if_neg g1,if_neg g2',if_neg g3,if_pos g4]
   rw[e]
   refine w73 _ _ (WP.step ?_)
   simp only[T73,Go,Ends',v73,Tr.sure,SS,hi',z5,h0]
   repeat' with_reducible first|intro _|apply And.intro
   all_goals first|exact c108 _ _ _|exact k1|(simp_all [g1,g3,g4,Go,Ends',v73,-List.getD_eq_getElem?_getD];done)
  have hf:=hfin g1 g2' g3 g4
  refine w73 _ _ (WP.step ?_)
  simp only[T73,Go,Ends',v73,Tr.sure,SS,hi',z5,h0]
  repeat' with_reducible first|intro _|apply And.intro
  all_goals first|exact c108 _ _ _|exact k1|exact hf|(simp_all [g1,g3,g4,Go,Ends',v73,-List.getD_eq_getElem?_getD];done)
end
noncomputable section
inductive P17
 |e
 |l0 (x0_6:Int) (a0_1:List ByteArray)
 |l1 (x1_8:Int)
 |l2 (x2_10:Int)
inductive R17
 |r0 (r0:Int) (r1:Int) (r2:Int)
noncomputable def T17(b:Book):P17→Tr P17 R17
 |.e=>(.br (decide ((b.bodies.length:Int)>(5:Int))) (.out (.r0 1 0 3)) (.wait 3 (.own 5 9 1 (.go (.l0 0 ([]))))))
 |.l0 x0_6 a0_1=>let c1:=b.bodies.getD (x0_6).toNat tBody.zero;let c2:=decide (0≤x0_6)&&decide (x0_6<(b.bodies.length:Int));let c3:=(decide (a0_1.length=a0_1.length)&&decide (a0_1.length+1≤4294967296))&&decide (1≤1);let c4:=newErr (c1.name) a0_1.reverse;let c5:Tr P17 R17:=.need (inR .i64 (x0_6+(1:Int))) (.go (.l0 (x0_6+(1:Int)) (c1.name::a0_1)));let c6:=shownErr (c1.shown);(.br (decide (x0_6<(b.bodies.length:Int))) (.need c2 (.call 71 [.str (c1.name),.list 1 a0_1.length (rowsRev tstr a0_1)] (iI c4) ((decide (a0_1.length≤a0_1.length))&&true) true (.br (c4==(0:Int)) (.need c2 (.call 72 [tShown.lst (c1.shown)] (iI c6) true true (.br (c6 !=(0:Int)) (.out (.r0 1 x0_6 c6)) (.need c2 (.need c3 (.scal (fun _=>true) c5)))))) (.br (c4 !=(0:Int)) (.out (.r0 1 x0_6 c4)) (.need c2 (.need c3 (.scal (fun _=>true) c5))))))) (.br ((b.heads.length:Int) !=(b.bodies.length:Int)) (.out (.r0 2 0 3)) (.go (.l1 0))))
 |.l1 x1_8=>let c1:=newErr (b.heads.getD (x1_8).toNat tstr.zero) ((b.heads.drop ((0:Int)).toNat).take ((x1_8).toNat-((0:Int)).toNat));let c2:=(b.heads.length:Int);(.br (decide (x1_8<c2)) (.front [] [] (((decide (0≤x1_8)&&decide (x1_8<c2))&&(((decide (0≤(0:Int))&&decide ((0:Int)≤x1_8))&&decide (x1_8≤c2))&&true))&&true) true (.call 71 [.str (b.heads.getD (x1_8).toNat tstr.zero),.list 1 ((x1_8).toNat-((0:Int)).toNat) (fun i j=>rowsOf tstr b.heads (((0:Int)).toNat+i) j)] (iI c1) true true (.br (c1 !=(0:Int)) (.out (.r0 2 x1_8 c1)) (.need (inR .i64 (x1_8+(1:Int))) (.go (.l1 (x1_8+(1:Int)))))))) (.br (decide ((b.lines.length:Int)>(8:Int))) (.out (.r0 3 0 3)) (.go (.l2 0))))
 |.l2 x2_10=>let c1:=lineAt b x2_10;(.br (decide (x2_10<(b.lines.length:Int))) (.call 73 [.agg (cC b),iI x2_10] (iI c1) true true (.br (c1 !=(0:Int)) (.out (.r0 3 x2_10 c1)) (.need (inR .i64 (x2_10+(1:Int))) (.go (.l2 (x2_10+(1:Int))))))) (.out (.r0 0 0 0)))
noncomputable def g17(b:Book):P17→List Item × St
 |.e=>bd Tryz.f17 [.agg (cC b)] 98
 |.l0 x0_6 a0_1=>(cutOf Tryz.f17 0,⟨mk 99 [(1,.ref 0 0 0),(5,.row 1 a0_1.length),(6,iI x0_6)],[.cells (cC b),.rows 9 1 a0_1.length (rowsRev tstr a0_1)],[]⟩)
 |.l1 x1_8=>(cutOf Tryz.f17 1,⟨mk 99 [(1,.ref 0 0 0),(8,iI x1_8)],[.cells (cC b)],[]⟩)
 |.l2 x2_10=>(cutOf Tryz.f17 2,⟨mk 99 [(1,.ref 0 0 0),(10,iI x2_10)],[.cells (cC b)],[]⟩)
noncomputable def n17:R17→Exit × St
 |.r0 r0 r1 r2=>(.ret,⟨mk 99 [(2,iI r0),(3,iI r1),(4,iI r2)],[],[]⟩)
noncomputable def v17:R17→V
 |.r0 r0 r1 r2=>.tuple [iI r0,iI r1,iI r2]
theorem s17(b:Book):Sm 0 (g17 b) (T17 b) (n17)
 |.e=>⟨400,by kernel_rfl⟩
 |.l0 _ _=>⟨400,by kernel_rfl⟩
 |.l1 _=>⟨400,by kernel_rfl⟩
 |.l2 _=>⟨400,by kernel_rfl⟩
theorem q17:∀r,bodyQ Tryz.prog Tryz.f17 (·=v17 r) (n17 r).1 (n17 r).2
 |.r0 r0 r1 r2=>bq (.tuple [iI r0,iI r1,iI r2]) (by kernel_rfl)
theorem w17(b:Book){post:V→Prop}(h:WQ (T17 b) v17 post .e):PC 17 [.agg (cC b)] post:=
 PCalls.wq Tryz.func17 (s17 b) q17 h
theorem c71t(n:ByteArray)(l:List ByteArray)(i:Nat)(h:i≤l.length)(h5:l.length≤5):PC 71 [.str n,.list 1 i (fun r j=>rowsOf tstr l (0+r) j)] (·=iI (newErr n (l.take i))):=by
 have k:=c71 n (l.take i) (by rw[List.length_take];omega)
 have e:VLe (.list 1 i (fun r j=>rowsOf tstr l (0+r) j)) (tstr.lst (l.take i)):=by
  show VLe _ (.list 1 (l.take i).length (rowsOf tstr (l.take i)))
  rw[List.length_take,Nat.min_eq_left h]
  refine VLe.list fun r j hr hj=> ?_
  have:(l.take i).getD r ByteArray.empty=l.getD r ByteArray.empty:=by rw[List.getD_eq_getElem?_getD,List.getD_eq_getElem?_getD,List.getElem?_take,if_pos hr]
  simp only[rowsOf,Nat.zero_add,tstr_zero,this];try exact VLe.refl _
 exact PCalls.arg (pre:=[.str n]) k e
theorem c17(b:Book):PC 17 [.agg (tBook.cells b)] (·=.tuple [iI (bookCheck b).1,iI (bookCheck b).2.1,iI (bookCheck b).2.2]):=by
 refine w17 _ (WP.step ?_)
 simp only[T17,Go,Ends',v17,Tr.sure,SS]
 repeat' with_reducible first|intro _|apply And.intro
 all_goals first|(simp[bookCheck,Go,Ends',v17,-List.getD_eq_getElem?_getD, *];done)|skip
 rename_i h1
 have hm:b.bodies.length≤5:=by omega
 refine WP.findE (fun i=>.l0 i (((b.bodies.map (·.name)).take i).reverse)) rfl b.bodies zBody (bodyAt b.bodies) (fun i hi=> ?_) fun hI=> ?_
 ·have hr:inR .i64 ((i:Int)+1)=true:=inR64 (by omega) (by omega)
  have hl:=map_take_len (·.name) b.bodies i (by omega)
  have hl':((b.bodies.map (·.name)).take i).length≤1000:=by simp;omega
  have ht:=rev_take' (·.name) zBody b.bodies i hi
  have hb:i+1≤4294967296:=by omega
  have hi':(i:Int)<b.bodies.length:=by omega
  have k1:=c71r (b.bodies.getD i zBody).name _ hl'
  by_cases g1:newErr (b.bodies.getD i zBody).name ((b.bodies.map (·.name)).take i)=0
  ·have e:bodyAt b.bodies i (b.bodies.getD i zBody)=shownErr (b.bodies.getD i zBody).shown:=by unfold bodyAt;rw[g1];try rfl
   generalize hbz:bodyAt b.bodies i (b.bodies.getD i zBody)=Z at*
   refine WP.once ?_
   simp only[T17,Tr.sure,SS,hi',z2,List.reverse_reverse]
   repeat' with_reducible first|intro _|apply And.intro
   all_goals first|exact k1|exact c72 _|(simp[hr,bookCheck,ht,hb,hl,e,g1,Go,Ends',v17,-List.getD_eq_getElem?_getD, *];done)|(simp_all [hr,bookCheck,ht,hb,hl,e,g1,Go,Ends',v17,-List.getD_eq_getElem?_getD];done)|(simp+contextual [hr,bookCheck,ht,hb,hl,e,g1,Go,Ends',v17,-List.getD_eq_getElem?_getD, *];done)
  ·have e:bodyAt b.bodies i (b.bodies.getD i zBody)=newErr (b.bodies.getD i zBody).name ((b.bodies.map (·.name)).take i):=by unfold bodyAt;rw[if_pos g1]
   generalize hbz:bodyAt b.bodies i (b.bodies.getD i zBody)=Z at*
   refine WP.once ?_
   simp only[T17,Tr.sure,SS,hi',z2,List.reverse_reverse]
   repeat' with_reducible first|intro _|apply And.intro
   all_goals first|exact k1|exact c72 _|(simp[hr,bookCheck,ht,hb,hl,e,g1,Go,Ends',v17,-List.getD_eq_getElem?_getD, *];done)|(simp_all [hr,bookCheck,ht,hb,hl,e,g1,Go,Ends',v17,-List.getD_eq_getElem?_getD];done)|(simp+contextual [hr,bookCheck,ht,hb,hl,e,g1,Go,Ends',v17,-List.getD_eq_getElem?_getD, *];done)
 by_cases hh:b.heads.length=b.bodies.length
 ·have hh':((b.heads.length:Int) !=(b.bodies.length:Int))=false:=by simp[hh]
  refine WP.step ?_
  simp only[T17,Go,Ends',v17,Tr.sure,SS,z2,hh',Int.lt_irrefl]
  repeat' with_reducible first|intro _|apply And.intro
  refine WP.findE (fun i=>.l1 i) rfl b.heads ByteArray.empty (headAt b.heads) (fun i hi=> ?_) fun hJ=> ?_
  ·have hr:inR .i64 ((i:Int)+1)=true:=inR64 (by omega) (by omega)
   have hi':(i:Int)<b.heads.length:=by omega
   have hile:(i:Int)≤b.heads.length:=by omega
   have k1:=c71t (b.heads.getD i ByteArray.empty) b.heads i (by omega) (by omega)
   have e:headAt b.heads i (b.heads.getD i ByteArray.empty)=newErr (b.heads.getD i ByteArray.empty) (b.heads.take i):=rfl
   generalize hbz:headAt b.heads i (b.heads.getD i ByteArray.empty)=Z at*
   refine WP.once ?_
   simp only[T17,Tr.sure,SS,hi',hile,tstr_zero,Int.toNat_zero,Nat.sub_zero,List.drop_zero,Int.le_refl]
   repeat' with_reducible first|intro _|apply And.intro
   all_goals first|exact k1|(simp[hr,bookCheck,hI,hh,e,Go,Ends',v17,-List.getD_eq_getElem?_getD, *];done)|(simp+contextual [hr,bookCheck,hI,hh,e,Go,Ends',v17,-List.getD_eq_getElem?_getD, *];done)
  by_cases hl:(8:Int)<b.lines.length
  ·refine WP.step ?_
   simp only[T17,Go,Ends',v17,Tr.sure,SS,Int.lt_irrefl]
   repeat' with_reducible first|intro _|apply And.intro
   all_goals first|(simp[bookCheck,hI,hJ,hh,hl,Go,Ends',v17,-List.getD_eq_getElem?_getD, *];done)|(simp_all [bookCheck,hI,hJ,hh,hl,Go,Ends',v17,-List.getD_eq_getElem?_getD];done)
  ·refine WP.step ?_
   simp only[T17,Go,Ends',v17,Tr.sure,SS,Int.lt_irrefl,hl]
   repeat' with_reducible first|intro _|apply And.intro
   refine WP.findE (fun i=>.l2 i) rfl b.lines zLine (lineErr b) (fun i hi=> ?_) fun hK=> ?_
   ·have hr:inR .i64 ((i:Int)+1)=true:=inR64 (by omega) (by omega)
    have hi':(i:Int)<b.lines.length:=by omega
    have k1:=c73 b i hm (by omega) hi
    have e:lineAt b i=lineErr b i (b.lines.getD i zLine):=by unfold lineAt;rw[Int.toNat_natCast]
    rw[e]at k1
    generalize hbz:lineErr b i (b.lines.getD i zLine)=Z at*
    clear hbz
    refine WP.once ?_
    simp only[T17,Tr.sure,SS,hi',e]
    repeat' with_reducible first|intro _|apply And.intro
    all_goals first|exact k1|(simp[hr,bookCheck,hI,hJ,hh,hl,Go,Ends',v17,-List.getD_eq_getElem?_getD, *];done)|(simp+contextual [hr,bookCheck,hI,hJ,hh,hl,Go,Ends',v17,-List.getD_eq_getElem?_getD, *];done)
   ·refine WP.step ?_
    simp only[T17,Go,Ends',v17,Tr.sure,SS,Int.lt_irrefl]
    repeat' with_reducible first|intro _|apply And.intro
    all_goals simp[bookCheck,hI,hJ,hK,hh,hl,Go,Ends',v17,-List.getD_eq_getElem?_getD, *]
 ·have hh':((b.heads.length:Int) !=(b.bodies.length:Int))=true:=by simp;omega
  refine WP.step ?_
  simp only[T17,Go,Ends',v17,Tr.sure,SS,z2,hh',Int.lt_irrefl]
  repeat' with_reducible first|intro _|apply And.intro
  all_goals simp[bookCheck,hI,hh,Go,Ends',v17,-List.getD_eq_getElem?_getD, *]
end
noncomputable section
theorem bitsR_len(s:Int):(bitsR s).length≤5:=bitsTo_len s 5
def someAt(l:List Int)(i k:Nat):List Pair:=((List.range k).drop (i+1)).map fun k=>⟨l.getD i 0,l.getD k 0⟩
def someTo2(l:List Int)(i:Nat):List Pair:=(List.range i).flatMap fun i=>someAt l i l.length
theorem someTo2_next(l:List Int)(i:Nat):someTo2 l (i+1)=someTo2 l i++someAt l i l.length:=by
 unfold someTo2;rw[List.range_succ,List.flatMap_append];simp
end
theorem firstE_none_at{τ:Type}{of:Nat→τ→Int}(d:τ):∀ {l:List τ} {i:Nat},firstE of i l=none→∀k,k<l.length→of (i+k) (l.getD k d)=0
 |[],i,_,k,hk=>by simp at hk
 |x::l,i,h,k,hk=>by
  simp only[firstE]at h
  split at h
  ·rename_i h0
   cases k with
   |zero=>exact h0
   |succ k=>
    have:=firstE_none_at d h k (by simpa using hk)
    rw[show i+1+k=i+(k+1) by omega]at this
    exact this
  ·cases h
structure OkLine(n:Nat)(x:Line):Prop where
 day:0≤x.day∧x.day≤364
 kind:0≤x.kind∧x.kind≤4
 ab:x.kind≠2→(0≤x.a∧x.a<n)∧0≤x.b∧x.b<n
 cd:x.kind=1→((0≤x.c∧x.c<n)∧0≤x.d∧x.d<n)∧x.c≠x.d
 ne:x.kind≤1→x.a≠x.b
 set:x.kind=2→(0≤x.set∧x.set≤(2:Int)^n-1)∧2≤(bitsR x.set).length∧x.a=0∧x.b=0∧x.c=0∧x.d=0
 noset:x.kind≠2→x.set=0
 nocd:x.kind≠2→x.kind≠1→x.c=0∧x.d=0
structure OkBook(b:Book):Prop where
 nb:b.bodies.length≤5
 nh:b.heads.length=b.bodies.length
 nl:b.lines.length≤8
 body:∀i,i<b.bodies.length→bodyAt b.bodies i (b.bodies.getD i zBody)=0
 head:∀i,i<b.heads.length→headAt b.heads i (b.heads.getD i ByteArray.empty)=0
 lineE:∀i,i<b.lines.length→lineErr b i (b.lines.getD i zLine)=0
theorem indexR_iff{b:Book}{n:Int}:indexR b n=true↔0≤n∧n<b.bodies.length:=by
 unfold indexR;rw[within_iff];omega
theorem not_iff_false{b:Bool}:(!b)=true↔b=false:=by cases b<;>simp
theorem fields_iff{b:Book}{x:Line}(hk:0≤x.kind∧x.kind≤4)(hd:0≤x.day∧x.day≤364):fieldsErr b x=0↔OkLine b.bodies.length x:=by
 by_cases h2:x.kind=2
 ·unfold fieldsErr
  rw[if_pos h2]
  constructor
  ·intro h
   split at h
   ·cases h
   rename_i g1
   split at h
   ·cases h
   rename_i g2
   rw[not_iff_false,Bool.not_eq_false,within_iff]at g1
   refine⟨hd,hk,fun q=>absurd h2 q,fun q=>by omega,fun q=>by omega,fun _=>⟨g1,by omega,?_⟩,fun q=>absurd h2 q,fun q=>absurd h2 q⟩
   omega
  ·intro h
   obtain⟨s1,s2,s3,s4,s5,s6⟩:=h.set h2
   rw[if_neg (by rw[not_iff_false,Bool.not_eq_false,within_iff];exact s1),if_neg (by omega)]
 ·unfold fieldsErr
  rw[if_neg h2]
  constructor
  ·intro h
   split at h
   ·cases h
   rename_i g1
   split at h
   ·cases h
   rename_i g2
   simp only[Bool.or_eq_true,not_iff_false,Bool.and_eq_true,beq_iff_eq,not_or,not_and,Bool.not_eq_false,indexR_iff]at g1
   obtain⟨⟨ga,gb⟩,gc⟩:=g1
   refine⟨hd,hk,fun _=>⟨ga,gb⟩,fun q=>⟨gc q,by omega⟩,fun q=>by omega,fun q=>absurd q h2,fun _=>by omega,fun _ q=>by omega⟩
  ·intro h
   rw[if_neg ?_,if_neg ?_]
   ·have a1:=h.ne;have a2:=h.noset h2;have a3:=h.nocd h2;have a4:=h.cd
    rintro(q|q|q|q)
    ·exact a1 q.1 q.2
    ·exact(a4 q.1).2 q.2
    ·exact q a2
    ·have:=a3 q.1;omega
   ·simp only[Bool.or_eq_true,not_iff_false,Bool.and_eq_true,beq_iff_eq,not_or,not_and,Bool.not_eq_false,indexR_iff]
    exact⟨⟨(h.ab h2).1,(h.ab h2).2⟩,fun q=>(h.cd q).1⟩
theorem line_iff{b:Book}{i:Nat}{x:Line}:lineErr b i x=0↔OkLine b.bodies.length x∧(0<i→(b.lines.getD (i-1) zLine).day≤x.day)∧(x.kind=2→someTo b.lines (i+1)≤2):=by
 unfold lineErr
 constructor
 ·intro h
  split at h
  ·cases h
  rename_i g1
  split at h
  ·cases h
  rename_i g2
  split at h
  ·cases h
  rename_i g3
  split at h
  ·rename_i g4;exact absurd h g4
  rename_i g4
  split at h
  ·cases h
  rename_i g5
  rw[not_iff_false,Bool.not_eq_false,within_iff]at g1 g3
  exact⟨(fields_iff g3 g1).1 (Decidable.not_not.1 g4),by omega,by omega⟩
 ·rintro⟨h1,h2,h3⟩
  rw[if_neg (by rw[not_iff_false,Bool.not_eq_false,within_iff];exact h1.day),if_neg (by omega),if_neg (by rw[not_iff_false,Bool.not_eq_false,within_iff];exact h1.kind),if_neg (by rw[Decidable.not_not];exact(fields_iff h1.kind h1.day).2 h1),if_neg (by omega)]
theorem OkBook.line{b:Book}(h:OkBook b){i:Nat}(hi:i<b.lines.length):OkLine b.bodies.length (b.lines.getD i zLine):=(line_iff.1 (h.lineE i hi)).1
theorem okBook{b:Book}(h:(bookCheck b).2.2=0):OkBook b:=by
 unfold bookCheck at h
 split at h
 ·cases h
 rename_i g1
 split at h
 ·rename_i i e he;exact absurd h (firstE_ne he)
 rename_i g2
 split at h
 ·cases h
 rename_i g3
 split at h
 ·rename_i i e he;exact absurd h (firstE_ne he)
 rename_i g4
 split at h
 ·cases h
 rename_i g5
 split at h
 ·rename_i i e he;exact absurd h (firstE_ne he)
 rename_i g6
 refine⟨by omega,Decidable.not_not.1 g3,by omega,fun i hi=> ?_,fun i hi=> ?_,fun i hi=> ?_⟩
 ·have:=firstE_none_at zBody g2 i hi;rwa[Nat.zero_add]at this
 ·have:=firstE_none_at ByteArray.empty g4 i hi;rwa[Nat.zero_add]at this
 ·have:=firstE_none_at zLine g6 i hi;rwa[Nat.zero_add]at this
theorem bitH_lt{s:Int}{n i:Nat}(h0:0≤s)(h1:s≤(2:Int)^n-1)(hi:n≤i)(h5:i≤5):bitH s i=false:=by
 unfold bitH
 have e:s.fdiv (2^(min i 64))=0:=by
  rw[Int.fdiv_eq_ediv_of_nonneg _ (Int.le_of_lt (Int.pow_pos (by decide)))]
  refine Int.ediv_eq_zero_of_lt h0 ?_
  have:(2:Int)^n≤2^(min i 64):=by
   have:=Nat.pow_le_pow_right (n:=2) (by decide) (show n≤min i 64 by omega)
   exact_mod_cast this
  omega
 rw[e];rfl
theorem mem_bitsR{s m:Int}(h:m∈bitsR s):0≤m∧m<5∧bitH s m.toNat=true:=by
 unfold bitsR at h
 rw[List.mem_map]at h
 obtain⟨i,hi,rfl⟩:=h
 rw[List.mem_filter,List.mem_range]at hi
 exact⟨by omega,by omega,by rw[Int.toNat_natCast];exact hi.2⟩
theorem bitsR_in{s:Int}{n:Nat}(h0:0≤s)(h1:s≤(2:Int)^n-1){m:Int}(hm:m∈bitsR s):0≤m∧m<n:=by
 obtain⟨h2,h3,h4⟩:=mem_bitsR hm
 refine⟨h2,?_⟩
 rcases Int.lt_or_le m n with q|q
 ·exact q
 ·rw[bitH_lt h0 h1 (by omega) (by omega)]at h4;cases h4
theorem bitsR_mono(s:Int){i k:Nat}(hik:i<k)(hk:k<(bitsR s).length):(bitsR s).getD i 0<(bitsR s).getD k 0:=by
 have hp:(bitsR s).Pairwise (·<·):=by
  unfold bitsR
  refine List.Pairwise.map _ (fun a b h=> ?_) ((List.pairwise_lt_range).filter _)
  show(a:Int)<b
  omega
 rw[List.getD_eq_getElem?_getD,List.getD_eq_getElem?_getD,List.getElem?_eq_getElem (by omega),List.getElem?_eq_getElem hk]
 exact List.pairwise_iff_getElem.1 hp i k (by omega) hk hik
theorem pairs_in{n:Nat}{x:Line}(h:OkLine n x){p:Pair}(hp:p∈pairsR x)(hk:x.kind≤2):0≤p.a∧p.a<p.b∧p.b<n:=by
 have hpr:∀c d:Int,(0≤c∧c<n)→(0≤d∧d<n)→c≠d→0≤(pairR c d).a∧(pairR c d).a<(pairR c d).b∧(pairR c d).b<n:=fun c d h1 h2 h3=>by
  unfold pairR;simp only;omega
 unfold pairsR at hp
 split at hp
 ·rename_i h0
  simp only[List.mem_singleton]at hp;subst hp
  exact hpr _ _ (h.ab (by omega)).1 (h.ab (by omega)).2 (h.ne (by omega))
 split at hp
 ·rename_i h1
  have q1:=hpr _ _ (h.ab (by omega)).1 (h.ab (by omega)).2 (h.ne (by omega))
  have q2:=hpr _ _ (h.cd h1).1.1 (h.cd h1).1.2 (h.cd h1).2
  split at hp
  ·simp only[List.mem_singleton]at hp;subst hp;exact q1
  split at hp<;>(simp only[List.mem_cons,List.not_mem_nil,or_false]at hp;rcases hp with rfl|rfl<;>assumption)
 split at hp
 ·rename_i h2
  obtain⟨s1,s2,_⟩:=h.set h2
  simp only[somePairs,List.mem_flatMap,List.mem_map,List.mem_range]at hp
  obtain⟨i,hi,k,hk2,rfl⟩:=hp
  have hkm:k<(bitsR x.set).length:=List.mem_range.1 (List.mem_of_mem_drop hk2)
  have hik:i<k:=by
   obtain⟨j,hj,e⟩:=List.getElem_of_mem hk2
   rw[List.getElem_drop,List.getElem_range]at e;omega
  have q1:=bitsR_in s1.1 s1.2 (getD_mem 0 _ i (by omega))
  have q2:=bitsR_in s1.1 s1.2 (getD_mem 0 _ k hkm)
  exact⟨q1.1,bitsR_mono _ hik hkm,q2.2⟩
 ·have:=h.kind;omega
theorem some_len(l:List Int)(h:l.length≤5):(somePairs l).length≤10:=by
 have e:somePairs l=someTo2 l l.length:=rfl
 have q:∀k,k≤l.length→(someTo2 l k).length+(l.length-k)*(l.length-k-1)/2=l.length*(l.length-1)/2:=by
  intro k
  induction k with
  |zero=>intro _;simp[someTo2]
  |succ k ih=>
   intro hk
   have:=ih (by omega)
   rw[someTo2_next,List.length_append]
   have e2:(someAt l k l.length).length=l.length-(k+1):=by unfold someAt;simp only[List.length_map,List.length_drop,List.length_range]
   rw[e2]
   generalize l.length=n at*
   rcases show n=1∨n=2∨n=3∨n=4∨n=5 by omega with rfl|rfl|rfl|rfl|rfl<;>(rcases show k=0∨k=1∨k=2∨k=3∨k=4 by omega with rfl|rfl|rfl|rfl|rfl<;>simp_all<;>omega)
 have:=q l.length (Nat.le_refl _)
 rw[e]
 have h0:l.length*(l.length-1)/2≤10:=by
  generalize l.length=n at*
  rcases show n=0∨n=1∨n=2∨n=3∨n=4∨n=5 by omega with rfl|rfl|rfl|rfl|rfl|rfl<;>decide
 omega
theorem pairs_len(x:Line):(pairsR x).length≤10:=by
 unfold pairsR
 split
 ·simp
 split
 ·split
  ·simp
  ·split<;>simp
 split
 ·exact some_len _ (bitsR_len _)
 ·simp
theorem pairs_pos{n:Nat}{x:Line}(h:OkLine n x):0<(pairsR x).length:=by
 unfold pairsR
 split
 ·simp
 split
 ·split
  ·simp
  ·split<;>simp
 split
 ·rename_i h2
  obtain⟨s1,s2,_⟩:=h.set h2
  refine List.length_pos_of_mem (a:=⟨(bitsR x.set).getD 0 0,(bitsR x.set).getD 1 0⟩) ?_
  simp only[somePairs,List.mem_flatMap,List.mem_map,List.mem_range]
  exact⟨0,by omega,1,by
   rw[List.mem_iff_getElem?];refine⟨0,?_⟩
   rw[List.getElem?_drop,List.getElem?_range (by omega)],rfl⟩
 ·simp
noncomputable section
theorem swapR_len(h:List Int)(p:Pair):(swapR h p).length=h.length:=by simp[swapR]
theorem doneR_len(h:List Int)(x:Line)(p:Pair):(doneR h x p).1.length=h.length:=by
 unfold doneR
 split
 ·rfl
 split
 ·rfl
 ·exact swapR_len h p
def stepTo(b:Book)(but:List Int)(i:Nat)(t:Truth)(p:Nat):List Truth:=(List.range p).flatMap fun k=>waysR but i (b.lines.getD i zLine) t k ((pairsR (b.lines.getD i zLine)).getD k zPair)
theorem stepTo_next(b:Book)(but:List Int)(i:Nat)(t:Truth)(p:Nat):stepTo b but i t (p+1)=stepTo b but i t p++waysR but i (b.lines.getD i zLine) t p ((pairsR (b.lines.getD i zLine)).getD p zPair):=by
 unfold stepTo;rw[List.range_succ,List.flatMap_append];simp
theorem ways_len(but:List Int)(i:Nat)(x:Line)(t:Truth)(k:Nat)(p:Pair):(waysR but i x t k p).length≤1:=by
 unfold waysR;split<;>split<;>simp
theorem stepTo_len(b:Book)(but:List Int)(i:Nat)(t:Truth):∀p,(stepTo b but i t p).length≤p
 |0=>by simp[stepTo]
 |p+1=>by
  rw[stepTo_next,List.length_append]
  have:=stepTo_len b but i t p
  have:=ways_len but i (b.lines.getD i zLine) t p ((pairsR (b.lines.getD i zLine)).getD p zPair)
  omega
theorem stepT_len(b:Book)(but:List Int)(i:Nat)(t:Truth):(stepT b but i t).length≤10:=Nat.le_trans (stepTo_len b but i t _) (pairs_len _)
theorem truthsTo_len(b:Book)(but:List Int):∀i,(truthsTo b but i).length≤10^i
 |0=>by simp[truthsTo]
 |i+1=>by
  have h1:=flat_le (l:=truthsTo b but i) (f:=stepT b but i) (b:=10) fun x _=>stepT_len b but i x
  have h2:=truthsTo_len b but i
  simp only[truthsTo,Nat.pow_succ];omega
theorem truthsTo_small(b:Book)(but:List Int){i:Nat}(hi:i≤8):(truthsTo b but i).length≤100000000:=by
 have h1:=truthsTo_len b but i
 have h2:10^i≤10^8:=Nat.pow_le_pow_right (by decide) hi
 omega
structure OkT(n i:Nat)(t:Truth):Prop where
 np:t.pairs.length=i
 nh:t.haves.length=i+1
 have_:∀l∈t.haves,l.length=n
theorem ways_ok{but:List Int}{i n:Nat}{x:Line}{t:Truth}{k:Nat}{p:Pair}(h:OkT n i t):∀u∈waysR but i x t k p,OkT n (i+1) u:=by
 have h0:(t.haves.getD i []).length=n:=h.have_ _ (getD_mem [] _ i (by rw[h.nh];omega))
 have key:∀a:List Int,a.length=n→OkT n (i+1) ⟨t.pairs++ [p],t.haves++ [a]⟩:=fun a ha=>by
  refine⟨by simp[h.np],by simp[h.nh],fun l hl=> ?_⟩
  rcases List.mem_append.1 hl with q|q
  ·exact h.have_ l q
  ·rw[List.mem_singleton.1 q];exact ha
 intro u hu
 unfold waysR at hu
 split at hu
 ·split at hu
  ·rw[List.mem_singleton.1 hu];exact key _ h0
  ·simp at hu
 ·split at hu
  ·rw[List.mem_singleton.1 hu];exact key _ (by rw[doneR_len];exact h0)
  ·simp at hu
theorem truthsTo_ok(b:Book)(but:List Int):∀i,∀t∈truthsTo b but i,OkT b.bodies.length i t
 |0,t,ht=>by
  simp only[truthsTo,List.mem_singleton]at ht;subst ht
  exact⟨rfl,rfl,fun l hl=>by rw[List.mem_singleton.1 hl];simp[firstH]⟩
 |i+1,t,ht=>by
  simp only[truthsTo,List.mem_flatMap,stepT]at ht
  obtain⟨u,hu,k,_,hk⟩:=ht
  exact ways_ok (truthsTo_ok b but i u hu) t hk
end
noncomputable section
theorem swapR_perm{h:List Int}{p:Pair}(ha:0≤p.a∧p.a<h.length)(hb:0≤p.b∧p.b<h.length):(swapR h p).Perm h:=by
 unfold swapR
 have e1:h.getD p.b.toNat 0=h[p.b.toNat]'(by omega):=by rw[List.getD_eq_getElem?_getD,List.getElem?_eq_getElem (by omega)];rfl
 have e2:h.getD p.a.toNat 0=h[p.a.toNat]'(by omega):=by rw[List.getD_eq_getElem?_getD,List.getElem?_eq_getElem (by omega)];rfl
 rw[e1,e2]
 exact List.set_set_perm (by omega) (by omega)
theorem doneR_perm{n:Nat}{x:Line}(hx:OkLine n x){p:Pair}(hp:p∈pairsR x){h:List Int}(hl:h.length=n):(doneR h x p).1.Perm h:=by
 unfold doneR
 split
 ·exact List.Perm.refl _
 split
 ·exact List.Perm.refl _
 ·have hk:=hx.kind
  have:=pairs_in hx hp (by omega)
  exact swapR_perm (by omega) (by omega)
theorem truthsTo_perm{b:Book}(h:OkBook b)(but:List Int):∀i,i≤b.lines.length→∀t∈truthsTo b but i,∀l∈t.haves,l.Perm (firstH b)
 |0,_,t,ht,l,hl=>by
  simp only[truthsTo,List.mem_singleton]at ht;subst ht
  rw[List.mem_singleton.1 hl]
 |i+1,hi,t,ht,l,hl=>by
  simp only[truthsTo,List.mem_flatMap,stepT,List.mem_range]at ht
  obtain⟨u,hu,k,hk,hw⟩:=ht
  have hok:=truthsTo_ok b but i u hu
  have ih:=truthsTo_perm h but i (by omega) u hu
  have hm:=getD_mem [] u.haves i (by rw[hok.nh];omega)
  have h0:=ih _ hm
  have hp:=getD_mem zPair _ k hk
  have hline:=h.line (i:=i) (by omega)
  unfold waysR at hw
  have key:∀a:List Int,a.Perm (firstH b)→t=⟨u.pairs++ [(pairsR (b.lines.getD i zLine)).getD k zPair],u.haves++ [a]⟩→l.Perm (firstH b):=fun a ha e=>by
   subst e
   rcases List.mem_append.1 hl with q|q
   ·exact ih l q
   ·rw[List.mem_singleton.1 q];exact ha
  split at hw
  ·split at hw
   ·exact key _ h0 (List.mem_singleton.1 hw)
   ·simp at hw
  ·split at hw
   ·exact key _ ((doneR_perm hline hp (hok.have_ _ hm)).trans h0) (List.mem_singleton.1 hw)
   ·simp at hw
end
end Go.Proofs.YtemgodefhcbleaaGreat
