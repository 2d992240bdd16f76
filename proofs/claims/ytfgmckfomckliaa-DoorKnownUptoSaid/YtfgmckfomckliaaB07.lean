/-
  Part of the proof of the law DoorKnown. Conditions: those that stand in each theorem.
-/
import Derived.Test.YtfgmckfomckliaaChecked
import Derived.KernelRfl
import Derived.Shelf.Small.Bits
import Derived.Shelf.Sort.Plain
import Derived.Ground.Names2Prog
import Derived.Shelf.Slices.CompactI
import Derived.Shelf.Slices.In.SortNone
import Derived.Test.YtfgmckfomckliaaProg
import Derived.Ground.SlsfProg
import Derived.Shelf.SlSortCmp.NoneTotal
import Derived.Test.YtfgmckfomckliaaB06
set_option linter.unusedSimpArgs false
set_option linter.unusedVariables false
namespace Ab
open Go
def kV (ks : List Int) : List Value := ks.map (Value.int .i64)
theorem kV_len (ks : List Int) : (kV ks).length = ks.length := by simp [kV]
theorem findNow_noneG (k : Int) : ∀ (L : List MapEntry) (i : Nat), (∀ e ∈ L, ∃ a, e.key = .int .i64 a ∧ a ≠ k) → Instr.findNow (.int .i64) (.int .i64 k) L i = some none
  | [], _, _ => rfl
  | e :: L, i, h => by
    obtain ⟨a, h1, h2⟩ := h e List.mem_cons_self
    have hk : (k == a) = false := by simp; exact fun q => h2 q.symm
    have ih := findNow_noneG k L (i + 1) fun e he => h e (List.mem_cons_of_mem _ he)
    simp [Instr.findNow, h1, Instr.sameNow, hk, ih]
theorem findNow_someG (k : Int) (e : MapEntry) (he : e.key = .int .i64 k) (L2 : List MapEntry) : ∀ (L1 : List MapEntry) (i : Nat), (∀ e ∈ L1, ∃ a, e.key = .int .i64 a ∧ a ≠ k) → Instr.findNow (.int .i64) (.int .i64 k) (L1 ++ e :: L2) i = some (some (i + L1.length, e.val))
  | [], i, _ => by simp [Instr.findNow, he, Instr.sameNow]
  | d :: L1, i, h => by
    obtain ⟨a, h1, h2⟩ := h d List.mem_cons_self
    have hk : (k == a) = false := by simp; exact fun q => h2 q.symm
    have ih := findNow_someG k e he L2 L1 (i + 1) fun e he => h e (List.mem_cons_of_mem _ he)
    simp [Instr.findNow, h1, Instr.sameNow, hk, ih]; omega
section
variable {P : Program} {h : List Blk}
theorem home_maps {β : Homes} {G K : Kept} {w : World} (r : RH β G K h w) {q : Nat} {ks : List Value} {vs : List V} {b : Nat} (hq : h[q]? = some (.maps ks vs)) (hm : Rel G β (.map q) (.map (some b))) :
    ∃ (x : Home) (es : Array MapEntry), β[q]? = some (.lie x) ∧ x.b = b ∧ w.heap[b]? = some (.map es ks.length) ∧ es.size = ks.length ∧ ∀ j k, ks[j]? = some k → ∃ e, es[j]? = some e ∧ e.key = k ∧ e.born = j ∧ Rel G β (vs.getD j .undef) e.val := by
  cases hm with
  | map hi =>
    rename_i x
    have := r.blk q _ hq
    rw [hi] at this
    obtain ⟨es, h1, h2, h3⟩ := this
    exact ⟨x, es, hi, rfl, h1, h2, h3⟩
theorem sem_makeMapV (t : TypeId) : SemOK P (.makeMap t none) [] h (.map h.length) (h ++ [.maps [] []]) := fun β G K w ρ' oper ho _ r _ => by
  refine ⟨.value (.map (some w.heap.size)), w.alloc (.map #[] 0), β ++ [Hm.lie ⟨w.heap.size, 0, 0⟩], ?_, Homes.le_append _ _, r.push rfl ⟨#[], heap_alloc_new w _, rfl, fun j k hj => by simp at hj⟩, .map (ref_new r _ _ _)⟩
  simp only [execOp, ho, Sem.run_bind]
  simp only [Instr.makeMap, newObj]
  rfl
theorem keys_ne {β : Homes} {G : Kept} {es : Array MapEntry} {ks : List Int} {vs : List V} (hs : es.size = (kV ks).length) (he : ∀ j k, (kV ks)[j]? = some k → ∃ e, es[j]? = some e ∧ e.key = k ∧ e.born = j ∧ Rel G β (vs.getD j .undef) e.val) {k : Int} {n : Nat}
    (hk : ∀ j, j < n → ks[j]? ≠ some k) : ∀ e ∈ es.toList.take n, ∃ a, e.key = .int .i64 a ∧ a ≠ k := fun e hm => by
  obtain ⟨j, hj, rfl⟩ := List.getElem_of_mem hm
  simp only [List.length_take, Array.length_toList] at hj
  have hjs : j < es.size := by omega
  have hjk : j < ks.length := by rw [hs, kV_len] at hjs; exact hjs
  obtain ⟨e, h1, h2, -⟩ := he j (.int .i64 ks[j]) (by simp [kV, hjk])
  have e1 : es[j]? = some es[j] := Array.getElem?_eq_getElem hjs
  rw [e1] at h1
  cases h1
  refine ⟨ks[j], ?_, fun q => hk j (by omega) (by rw [List.getElem?_eq_getElem hjk, q])⟩
  simpa using h2
theorem sem_lookupV0 {t kt et : TypeId} {ks : List Int} {vs : List V} {q : Nat} {x y : Operand} {k : Int} (ht : P.underlying t = some (.map kt et)) (hk : P.underlying kt = some (.int .i64)) (hz : (P.info? et).bind (·.zero) = some (.pointer none)) (hq : h[q]? = some (.maps (kV ks) vs)) (hno : k ∉ ks) :
    SemOK P (.lookup t x y false) [(x, .map q), (y, .int .i64 k)] h .nil h := fun β G K w ρ' oper ho _ r hr => by
  obtain ⟨b, hb⟩ := rel_map_inv (hr (x, .map q) (by simp))
  have hy := rel_int_inv (hr (y, .int .i64 k) (by simp))
  simp only at hb hy
  have h1 := hr (x, .map q) (by simp)
  rw [hb] at h1
  obtain ⟨xx, es, _, rfl, hh, hs, he⟩ := home_maps r hq h1
  have hzv : (zeroValue et).run P w = .ok (.pointer none) w := by
    cases hi : P.info? et with
    | none => simp [hi] at hz
    | some i =>
      cases hz' : i.zero with
      | none => simp [hi, hz'] at hz
      | some z =>
        simp [hi, hz'] at hz
        subst hz
        simp only [zeroValue, Sem.run_bind, run_typeInfo' hi, Result.andThen_ok, hz', Sem.run_pure]
  have hn := keys_ne hs he (k := k) (n := es.size) (fun j _ e => hno (List.mem_of_getElem? e))
  rw [← Array.length_toList, List.take_length] at hn
  have hf := findNow_noneG k es.toList 0 hn
  have hg : (getObj xx.b).run P w = .ok (.map es (kV ks).length) w := MapKept.run_getObj_map hh
  refine opOK_value (y := .pointer none) r ?_ .nil
  have hrun : (Instr.lookup t (.map (some xx.b)) (.int .i64 k) false).run P w = .ok (.pointer none) w := by
    simp only [Instr.lookup, Sem.run_bind, run_underlying' ht, Result.andThen_ok, hg, Sem.run_pure, run_checkKey_int hk]
    rw [run_findKey_int hk hf]
    simp [hzv]
  simp only [execOp, ho, hb, hy, Sem.run_bind, hrun, Result.andThen_ok, Sem.run_pure]
theorem sem_lookupV1 {t kt et : TypeId} {ks : List Int} {vs : List V} {q j : Nat} {x y : Operand} {k : Int} (ht : P.underlying t = some (.map kt et)) (hk : P.underlying kt = some (.int .i64)) (hq : h[q]? = some (.maps (kV ks) vs)) (hj : ks[j]? = some k) (hne : ∀ i, i < j → ks[i]? ≠ some k) :
    SemOK P (.lookup t x y false) [(x, .map q), (y, .int .i64 k)] h (vs.getD j .undef) h := fun β G K w ρ' oper ho _ r hr => by
  obtain ⟨b, hb⟩ := rel_map_inv (hr (x, .map q) (by simp))
  have hy := rel_int_inv (hr (y, .int .i64 k) (by simp))
  simp only at hb hy
  have h1 := hr (x, .map q) (by simp)
  rw [hb] at h1
  obtain ⟨xx, es, _, rfl, hh, hs, he⟩ := home_maps r hq h1
  obtain ⟨e, g1, g2, g3, g4⟩ := he j (.int .i64 k) (by simp [kV, hj])
  have hjs : j < es.size := (Array.getElem?_eq_some_iff.1 g1).1
  have hn := keys_ne hs he (k := k) (n := j) hne
  have hsplit : es.toList = es.toList.take j ++ e :: es.toList.drop (j + 1) := by
    have e1 : es.toList[j]? = some e := by simpa using g1
    have e2 := (List.getElem?_eq_some_iff.1 e1)
    obtain ⟨l1, l2⟩ := e2
    rw [← l2, List.getElem_cons_drop, List.take_append_drop]
  have hf := findNow_someG k e g2 (es.toList.drop (j + 1)) (es.toList.take j) 0 hn
  rw [← hsplit] at hf
  have hg : (getObj xx.b).run P w = .ok (.map es (kV ks).length) w := MapKept.run_getObj_map hh
  refine opOK_value (y := e.val) r ?_ g4
  have hrun : (Instr.lookup t (.map (some xx.b)) (.int .i64 k) false).run P w = .ok e.val w := by
    simp only [Instr.lookup, Sem.run_bind, run_underlying' ht, Result.andThen_ok, hg, Sem.run_pure, run_checkKey_int hk]
    rw [run_findKey_int hk hf]
    simp
  simp only [execOp, ho, hb, hy, Sem.run_bind, hrun, Result.andThen_ok, Sem.run_pure]
theorem sem_updateV {t kt et : TypeId} {ks : List Int} {vs : List V} {q : Nat} {x y z : Operand} {k : Int} {v : V} (ht : P.underlying t = some (.map kt et)) (hk : P.underlying kt = some (.int .i64)) (hq : h[q]? = some (.maps (kV ks) vs)) (hvl : vs.length = ks.length) (hno : k ∉ ks) :
    SemOK P (.mapUpdate t x y z) [(x, .map q), (y, .int .i64 k), (z, v)] h .undef (h.set q (.maps (kV (ks ++ [k])) (vs ++ [v]))) := fun β G K w ρ' oper ho _ r hr => by
  obtain ⟨b, hb⟩ := rel_map_inv (hr (x, .map q) (by simp))
  have hy := rel_int_inv (hr (y, .int .i64 k) (by simp))
  have hv := hr (z, v) (by simp)
  simp only at hb hy hv
  have h1 := hr (x, .map q) (by simp)
  rw [hb] at h1
  obtain ⟨xx, es, hx, rfl, hh, hs, he⟩ := home_maps r hq h1
  have hn := keys_ne hs he (k := k) (n := es.size) (fun j _ e => hno (List.mem_of_getElem? e))
  rw [← Array.length_toList, List.take_length] at hn
  have hf := findNow_noneG k es.toList 0 hn
  have hg : (getObj xx.b).run P w = .ok (.map es (kV ks).length) w := MapKept.run_getObj_map hh
  have hst : ∀ o, (setObj xx.b o).run P w = .ok () (w.putObj xx.b o) := fun o => MapKept.run_setObj_map o hh
  have hrun : (Instr.mapUpdate t (.map (some xx.b)) (.int .i64 k) (ρ' z)).run P w = .ok () (w.putObj xx.b (.map (es.push { key := .int .i64 k, val := ρ' z, born := ks.length }) (ks.length + 1))) := by
    simp only [Instr.mapUpdate, Sem.run_bind, run_underlying' ht, Result.andThen_ok, hg, run_checkKey_int hk]
    rw [run_findKey_int hk hf]
    simp [hst, kV_len]
  have hlt := (Array.getElem?_eq_some_iff.1 hh).1
  have hes : es.size = ks.length := by rw [hs, kV_len]
  have hlen2 : (kV (ks ++ [k])).length = ks.length + 1 := by simp [kV]
  have hblk : ∀ j key, (kV (ks ++ [k]))[j]? = some key → ∃ e, (es.push { key := .int .i64 k, val := ρ' z, born := ks.length })[j]? = some e ∧ e.key = key ∧ e.born = j ∧ Rel G β ((vs ++ [v]).getD j .undef) e.val := fun j key hj => by
    rcases Nat.lt_or_ge j ks.length with hlt' | hge
    · have hj' : (kV ks)[j]? = some key := by
        rw [← hj]; simp only [kV, List.map_append]; rw [List.getElem?_append_left (by simpa using hlt')]
      obtain ⟨e, g1, g2, g3, g4⟩ := he j key hj'
      refine ⟨e, ?_, g2, g3, ?_⟩
      · rw [Array.getElem?_push, if_neg (by omega)]; exact g1
      · rw [getD_append_left (by omega)]; exact g4
    · have hjl : j < (kV (ks ++ [k])).length := (List.getElem?_eq_some_iff.1 hj).1
      rw [kV_len, List.length_append] at hjl
      obtain rfl : j = ks.length := by simp at hjl; omega
      have hkey : key = .int .i64 k := by
        have : (kV (ks ++ [k]))[ks.length]? = some (.int .i64 k) := by simp [kV]
        rw [this] at hj; cases hj; rfl
      refine ⟨{ key := .int .i64 k, val := ρ' z, born := ks.length }, by rw [Array.getElem?_push, if_pos hes.symm], hkey.symm, rfl, ?_⟩
      rw [← hvl, getD_append_right (Nat.le_refl _), Nat.sub_self]
      exact hv
  refine ⟨.skip, w.putObj xx.b (.map (es.push { key := .int .i64 k, val := ρ' z, born := ks.length }) (ks.length + 1)), β, ?_, Homes.le_refl _, r.write (hm := Mild.putObj _ _ _) hq (by simp) hx (fun b hb => World.putObj_heap_other hb) (by simp) ⟨es.push { key := .int .i64 k, val := ρ' z, born := ks.length }, ?_, ?_, hblk⟩, rfl⟩
  · simp only [execOp, ho, hb, hy, Sem.run_bind, hrun, Result.andThen_ok, Sem.run_pure]
  · rw [hlen2]; exact World.putObj_heap_same hlt
  · rw [hlen2, Array.size_push, hes]
theorem sem_rangeV {t kt et : TypeId} {ks : List Int} {vs : List V} {q : Nat} {x : Operand} (ht : P.underlying t = some (.map kt et)) (hq : h[q]? = some (.maps (kV ks) vs)) :
    SemOK P (.range t x) [(x, .map q)] h (.ref h.length 0 0) (h ++ [.iter (.map q) ks.length #[]]) := fun β G K w ρ' oper ho _ r hr => by
  obtain ⟨b, hb⟩ := rel_map_inv (hr (x, .map q) (by simp))
  simp only at hb
  have h1 := hr (x, .map q) (by simp)
  rw [hb] at h1
  obtain ⟨xx, es, hx, rfl, hh, hs, he⟩ := home_maps r hq h1
  have hg : (getObj xx.b).run P w = .ok (.map es (kV ks).length) w := MapKept.run_getObj_map hh
  refine ⟨.value (.pointer (some ⟨w.heap.size, 0, none⟩)), w.alloc (.mapIter (some xx.b) ks.length #[] ks.length), β ++ [Hm.lie ⟨w.heap.size, 0, 0⟩], ?_, Homes.le_append _ _, r.push rfl ⟨xx.b, h1.mono G.le_refl (Homes.le_append _ _), heap_alloc_new w _⟩, ?_⟩
  · simp only [execOp, ho, hb, Instr.range, Sem.run_bind, run_underlying' ht, Result.andThen_ok, hg, Sem.run_pure, run_newObj, World.alloc_eq, kV_len]
  · have := Rel.ref (G := G) (r := 0) (off := 0) (ref_new r w.heap.size 0 0)
    simp only [Nat.zero_mul, Nat.add_zero] at this
    exact this
theorem born_ltV {β : Homes} {G : Kept} {es : Array MapEntry} {ks : List Int} {vs : List V} (hs : es.size = (kV ks).length) (he : ∀ j k, (kV ks)[j]? = some k → ∃ e, es[j]? = some e ∧ e.key = k ∧ e.born = j ∧ Rel G β (vs.getD j .undef) e.val) {x : MapEntry} (hx : x ∈ es.toList) :
    ∃ j, es[j]? = some x ∧ j < ks.length ∧ x.born = j ∧ x.key = .int .i64 (ks.getD j 0) ∧ Rel G β (vs.getD j .undef) x.val := by
  obtain ⟨j, hj, rfl⟩ := List.getElem_of_mem hx
  have hjs : j < es.size := by simpa using hj
  have hjk : j < ks.length := by rw [hs, kV_len] at hjs; exact hjs
  obtain ⟨e, h1, h2, h3, h4⟩ := he j (.int .i64 ks[j]) (by simp [kV, hjk])
  have e1 : es[j]? = some es[j] := Array.getElem?_eq_getElem hjs
  rw [e1] at h1
  cases h1
  refine ⟨j, by simp, hjk, by simpa using h3, ?_, by simpa using h4⟩
  rw [List.getD_eq_getElem?_getD, List.getElem?_eq_getElem hjk]
  simpa using h2
theorem homes_iterV {β : Homes} {G K : Kept} {w : World} (r : RH β G K h w) {ks : List Int} {vs : List V} {q i n : Nat} {seen : Array Nat} {p : Value} (hq : h[q]? = some (.maps (kV ks) vs)) (hi : h[i]? = some (.iter (.map q) n seen)) (hp : Rel G β (.ref i 0 0) p) :
    ∃ (x : Home) (b : Nat) (es : Array MapEntry), β[i]? = some (.lie x) ∧ p = .pointer (some ⟨x.b, 0, none⟩) ∧ w.heap[x.b]? = some (.mapIter (some b) n seen n) ∧ w.heap[b]? = some (.map es (kV ks).length) ∧ Rel G β (.map q) (.map (some b)) ∧
      es.size = (kV ks).length ∧ ∀ j k, (kV ks)[j]? = some k → ∃ e, es[j]? = some e ∧ e.key = k ∧ e.born = j ∧ Rel G β (vs.getD j .undef) e.val := by
  cases hp with
  | ref hb =>
    rename_i x
    have hB := r.blk i _ hi
    rw [hb] at hB
    obtain ⟨b, h1, h2⟩ := hB
    obtain ⟨y, es, _, _, h3, h4, h5⟩ := home_maps r hq h1
    exact ⟨x, b, es, hb, by simp, h2, h3, h1, h4, h5⟩
theorem sem_next0V {ks : List Int} {vs : List V} {q i : Nat} {x : Operand} {seen : Array Nat} (hq : h[q]? = some (.maps (kV ks) vs)) (hi : h[i]? = some (.iter (.map q) ks.length seen)) (h0 : leftM ks.length seen = []) :
    SemOK P (.next x false) [(x, .ref i 0 0)] h (.tuple [.bool false]) h := fun β G K w ρ' oper ho _ r hr => by
  have hp := hr (x, .ref i 0 0) (by simp)
  obtain ⟨y, b, es, hb, he, h1, h2, h3, hs, hes⟩ := homes_iterV r hq hi hp
  simp only at he
  rw [kV_len] at h2
  rcases run_next_at (P := P) w oper.type y.b b ks.length ks.length seen es ks.length h1 h2 (fun x hx => by
    obtain ⟨j, _, q2, q3, _⟩ := born_ltV hs hes hx; omega) (Nat.le_refl _) with ⟨_, hrun⟩ | ⟨e, hem, _⟩
  · refine opOK_value (y := .tuple #[.bool false]) r ?_ (.tuple rfl fun j hj => ?_)
    · simp only [execOp, ho, he, Sem.run_bind, hrun, Result.andThen_ok, Sem.run_pure]
    · have : j = 0 := by simp at hj; omega
      subst this; exact .bool _
  · unfold leftOf at hem
    simp only [Array.toList_filter, List.mem_filter] at hem
    obtain ⟨j, _, q2, q3, _⟩ := born_ltV hs hes hem.1
    have : e.born ∈ leftM ks.length seen := by
      simp only [leftM, List.mem_filter, List.mem_range]
      exact ⟨by omega, hem.2⟩
    rw [h0] at this; cases this
theorem sem_next1V {ks : List Int} {vs : List V} {q i : Nat} {x : Operand} {seen : Array Nat} (hq : h[q]? = some (.maps (kV ks) vs)) (hi : h[i]? = some (.iter (.map q) ks.length seen)) (h0 : leftM ks.length seen ≠ []) :
    SemAny P (.next x false) [(x, .ref i 0 0)] h (leftM ks.length seen).length (fun j => .tuple [.bool true, .int .i64 (ks.getD ((leftM ks.length seen).getD j 0) 0), vs.getD ((leftM ks.length seen).getD j 0) .undef])
      (fun j => h.set i (.iter (.map q) ks.length (seen.push ((leftM ks.length seen).getD j 0)))) := fun β G K w ρ' oper ho _ r hr => by
  have hp := hr (x, .ref i 0 0) (by simp)
  obtain ⟨y, b, es, hb, he, h1, h2, h3, hs, hes⟩ := homes_iterV r hq hi hp
  simp only at he
  rw [kV_len] at h2
  rcases run_next_at (P := P) w oper.type y.b b ks.length ks.length seen es ks.length h1 h2 (fun x hx => by
    obtain ⟨j, _, q2, q3, _⟩ := born_ltV hs hes hx; omega) (Nat.le_refl _) with ⟨hz, _⟩ | ⟨e, hem, w1, hw1, hrun⟩
  · exfalso
    obtain ⟨j, hj⟩ := List.exists_mem_of_ne_nil _ h0
    unfold leftOf at hz
    rw [Array.size_eq_zero_iff, Array.filter_eq_empty_iff] at hz
    simp only [leftM, List.mem_filter, List.mem_range] at hj
    obtain ⟨e, g1, g2, g3, g4⟩ := hes j (.int .i64 ks[j]) (by simp [kV, hj.1])
    exact hz e (Array.mem_of_getElem? g1) (by rw [g3]; exact hj.2)
  · unfold leftOf at hem
    simp only [Array.toList_filter, List.mem_filter] at hem
    obtain ⟨j0, q1, q2, q3, q4, q5⟩ := born_ltV hs hes hem.1
    have hl : e.born ∈ leftM ks.length seen := by
      simp only [leftM, List.mem_filter, List.mem_range]
      exact ⟨by omega, hem.2⟩
    obtain ⟨j, hj, hje⟩ := List.getElem_of_mem hl
    have hgd : (leftM ks.length seen).getD j 0 = j0 := by rw [List.getD_eq_getElem?_getD, List.getElem?_eq_getElem hj]; exact hje.trans q3
    refine ⟨j, hj, ?_⟩
    have r1 : RH β G K h w1 := by
      rcases hw1 with rfl | rfl
      · exact r
      · exact r.drew
    have hh1 : w1.heap[y.b]? = some (.mapIter (some b) ks.length seen ks.length) := by
      rcases hw1 with rfl | rfl
      · exact h1
      · exact h1
    have hlt1 := (Array.getElem?_eq_some_iff.1 hh1).1
    refine ⟨.value (.tuple #[.bool true, e.key, e.val]), w1.putObj y.b (.mapIter (some b) ks.length (seen.push e.born) ks.length), β, ?_, Homes.le_refl _, ?_, ?_⟩
    · simp only [execOp, ho, he, Sem.run_bind, hrun, Result.andThen_ok, Sem.run_pure]
      rfl
    · simp only [hgd, q3]
      exact r1.write (hm := Mild.putObj _ _ _) hi (by simp) hb (fun b hb => World.putObj_heap_other hb) (by simp) ⟨b, h3, World.putObj_heap_same hlt1⟩
    · simp only [hgd]
      refine Rel.tuple rfl fun z hz => ?_
      match z, hz with
      | 0, _ => exact .bool _
      | 1, _ => show Rel _ _ _ e.key; rw [q4]; exact .int _ _
      | 2, _ => exact q5
theorem sem_entryV {ks : List Int} {vs : List V} {q i : Nat} {x : Operand} {seen : Array Nat} {j : Nat} (hq : h[q]? = some (.maps (kV ks) vs)) (hi : h[i]? = some (.iter (.map q) ks.length seen)) (hj : seen.back? = some j) (hjm : j < ks.length) :
    SemOK P (.entry x) [(x, .ref i 0 0)] h (.tuple [.int .i64 (ks.getD j 0), vs.getD j .undef]) h := fun β G K w ρ' oper ho _ r hr => by
  have hp := hr (x, .ref i 0 0) (by simp)
  obtain ⟨y, b, es, hb, he, h1, h2, h3, hs, hes⟩ := homes_iterV r hq hi hp
  simp only at he
  have hg1 : (getObj y.b).run P w = .ok (.mapIter (some b) ks.length seen ks.length) w := by simp [getObj, Sem.run, h1]
  have hg2 : (getObj b).run P w = .ok (.map es (kV ks).length) w := MapKept.run_getObj_map h2
  obtain ⟨e, g1, g2, g3, g4⟩ := hes j (.int .i64 ks[j]) (by simp [kV, hjm])
  have hfind : es.find? (fun e => e.born == j) = some e := by
    cases hf : es.find? (fun e => e.born == j) with
    | none =>
      rw [Array.find?_eq_none] at hf
      exact absurd (hf e (Array.mem_of_getElem? g1)) (by simp [g3])
    | some e' =>
      have hm := Array.mem_of_find?_eq_some hf
      have hb' := Array.find?_some hf
      obtain ⟨j0, q1, q2, q3, q4, q5⟩ := born_ltV hs hes (Array.mem_toList_iff.2 hm)
      have : j0 = j := by rw [← q3]; simpa using hb'
      subst this
      rw [g1] at q1
      exact q1.symm ▸ rfl
  have hkey : e.key = .int .i64 (ks.getD j 0) := by rw [g2, List.getD_eq_getElem?_getD, List.getElem?_eq_getElem hjm]; rfl
  refine opOK_value (y := .tuple #[e.key, e.val]) r ?_ (.tuple rfl fun k hk => ?_)
  · simp only [execOp, ho, he, Instr.entry, Sem.run_bind, hg1, Result.andThen_ok, hj, hg2, hfind, Sem.run_pure]
    simp [kV_len]
  · match k, hk with
    | 0, _ => show Rel _ _ _ e.key; rw [hkey]; exact .int _ _
    | 1, _ => exact g4
end
theorem sem_boxAt {P : Program} {h : List Blk} {t : TypeId} {x : Operand} {v : V} {vs : List V} {i : Nat} (hi : h[i]? = some .void) (hz : cellsOf P t v = some vs) : SemOK P (.box t x) [(x, v)] h (.ref i 0 0) (h.set i (newBlk P t v vs).1) := fun β G K w ρ' oper ho _ r hr => by
  have hx := hr (x, v) (by simp)
  simp only at hx
  obtain ⟨c1, c2, c3, c4⟩ := rel_cellsOf hx hz
  generalize hnb : newBlk P t v vs = nb
  have hle := le_set_void (x := .lie ⟨w.heap.size, nb.2.1, nb.2.2⟩) (r.void_home hi)
  have r1 := r.fill (o := .cells (ρ' x).cells t) (k := nb.1) (x := ⟨w.heap.size, nb.2.1, nb.2.2⟩) hi rfl (by subst hnb; exact newBlk_ok w hx hz hle)
  refine ⟨.value (.pointer (some ⟨w.heap.size, 0, none⟩)), _, _, ?_, hle, r1, ?_⟩
  · simp only [execOp, ho, Instr.box, Sem.run_bind, newVar, newRow, run_newObj, Result.andThen_ok, Sem.run_pure, World.alloc_eq]
  · have hlt : i < β.length := by rw [r.len]; exact (List.getElem?_eq_some_iff.1 hi).1
    have := Rel.ref (G := G) (r := 0) (off := 0) (List.getElem?_set_self (a := Hm.lie ⟨w.heap.size, nb.2.1, nb.2.2⟩) hlt)
    simp only [Nat.zero_mul, Nat.add_zero] at this
    exact this
theorem AWP.reserve {P : Program} {ro : Env} {c : Code} {S : St} {Q : Exit → St → Prop} (n : Nat) (h : AWP P ro c ⟨S.t, S.h ++ List.replicate n .void, S.d⟩ Q) : AWP P ro c S Q := by
  intro β G K a w r
  have r1 : RS (β ++ List.replicate n Hm.void) G K ⟨S.t, S.h ++ List.replicate n .void, S.d⟩ a w := ⟨r.h.reserve n, r.size, fun j => (r.tmp j).mono G.le_refl (Homes.le_append _ _), r.marks, fun j hj => by
    obtain ⟨x, h1, h2, h3⟩ := r.mark j hj
    exact ⟨x, Homes.le_append _ _ _ _ (by simp) h1, h2, by
      show (S.h ++ List.replicate n Blk.void)[S.d.getD j 0]? = _
      rw [List.getElem?_append_left (List.getElem?_eq_some_iff.1 h3).1]; exact h3⟩⟩
  exact wpIn_mono (h _ G K a w r1) fun e a' w' hp => hp.up ((Homes.le_append _ _).low _) (G.ext_refl K) K.le_refl
theorem Homes.low_take {m n : Nat} (hm : m ≤ n) (β : Homes) : Homes.low m β (β.take n) := fun i h hv hh => by
  rcases Nat.lt_or_ge i m with q | q
  · rw [List.getElem?_take_of_lt q] at hh
    rw [List.getElem?_take_of_lt (by omega)]
    exact hh
  · rw [List.getElem?_eq_none (by simp; omega)] at hh; cases hh
theorem RS.cut {β : Homes} {G K : Kept} {S : St} {a : Act} {w : World} (r : RS β G K S a w) {n : Nat} (hu : (S.h.take n).all (Blk.under n) = true) (ht : ∀ j, (S.t.getD j .undef).under n = true) (hd : S.d = []) : RS (β.take n) G K ⟨S.t, S.h.take n, []⟩ a w :=
  ⟨r.h.take hu, r.size, fun j => (r.tmp j).take (ht j), by rw [r.marks, hd], fun j hj => by simp at hj⟩
theorem AWP.cut {P : Program} {ro : Env} {c : Code} {S : St} {Q : Exit → St → Prop} {n : Nat} (hm : ro.m ≤ n) (h : AWP P ro c S fun e T => T.d = [] ∧ (T.h.take n).all (Blk.under n) = true ∧ Q e ⟨List.replicate T.t.length .undef, T.h.take n, []⟩) : AWP P ro c S Q :=
  AWP.weak h fun e T β G K a w hq r => by
    obtain ⟨h1, h2, h3⟩ := hq
    have r0 : RS β G K ⟨List.replicate T.t.length .undef, T.h, T.d⟩ a w := ⟨r.h, by simp [r.size], fun j => by
      rw [show (List.replicate T.t.length V.undef).getD j .undef = .undef by
        rw [List.getD_eq_getElem?_getD, List.getElem?_replicate]; split <;> rfl]
      exact .undef _, r.marks, r.mark⟩
    refine ⟨_, β.take n, Homes.low_take hm β, r0.cut (n := n) h2 (fun j => by
      rw [show (List.replicate T.t.length V.undef).getD j .undef = .undef by
        rw [List.getD_eq_getElem?_getD, List.getElem?_replicate]; split <;> rfl]
      rfl) h1, h3⟩
theorem sem_ptrNil {P : Program} {h : List Blk} {x : Operand} {t e b : TypeId} {v : V} {nl : Bool} (ht : P.underlying t = some (.pointer e)) (hv : (v = .nil ∧ nl = true) ∨ (∃ i r off, v = .ref i r off ∧ nl = false)) : SemOK P (.binOp .eql t x (.const (.pointer none)) b) [(x, v)] h (.bool nl) h := fun β G K w ρ' oper ho hc r hr => by
  have hx := hr (x, v) (by simp)
  have hz := hc.1 (.pointer none)
  simp only at hx
  have fin : ∀ a, ρ' x = .pointer a → a.isNone = nl → OpOK P β G K w ρ' oper (.bool nl) h := fun a hxa hn => by
    refine opOK_value (y := .bool nl) r ?_ (.bool _)
    have heq : ∀ d, (Op.equalIn (d + 1) t (.pointer a) (.pointer none)).run P w = .ok a.isNone w := fun d => by
      cases a <;> simp [Op.equalIn, run_underlying' ht]
    have hg : (eqGuard .eql t x (.const (.pointer none)) (.pointer a) (.pointer none)).run P w = .ok () w := rfl
    have hb : (binOp .eql t (.pointer a) (.pointer none)).run P w = .ok (.bool a.isNone) w := by
      simp only [binOp, Sem.run_bind, Op.equal, Op.maxDepth, heq 9999, Result.andThen_ok, Sem.run_pure]
    simp only [execOp, ho, hxa, hz, Sem.run_bind, hg, Result.andThen_ok, hb, Sem.run_pure, hn]
  rcases hv with ⟨rfl, rfl⟩ | ⟨i, q, off, rfl, rfl⟩
  · generalize hxv : ρ' x = xv at hx
    cases hx with
    | nil => exact fin _ hxv rfl
  · generalize hxv : ρ' x = xv at hx
    cases hx with
    | ref _ => exact fin _ hxv rfl
theorem AWP.tell {P : Program} {ro : Env} {c : Code} {S : St} {Q : Exit → St → Prop} {t : List V} (h : AWP P ro c S fun e T => T.t.length = t.length ∧ (∀ j, VLe (T.t.getD j .undef) (t.getD j .undef)) ∧ Q e ⟨t, T.h, T.d⟩) : AWP P ro c S Q :=
  AWP.weak h fun e T β G K a w hq r => by
    obtain ⟨h1, h2, h3⟩ := hq
    exact ⟨⟨t, T.h, T.d⟩, β, Homes.low_refl _ _, ⟨r.h, by rw [r.size]; exact h1, fun j => h2 j _ _ _ (r.tmp j), r.marks, r.mark⟩, h3⟩
theorem sem_loadAt {P : Program} {h : List Blk} {t : TypeId} {y i off : Nat} {cs : List V} (ht : hasT P t = true) (ha : aggT P t = false) (harr : arrOf P t = none) (hi : h[i]? = some (.cells cs)) (ho : off < cs.length) : SemOK P (.load t (.tmp y)) [(.tmp y, .ref i 0 off)] h (cs.getD off .undef) h := by
  refine sem_weak [(y, .ref i 0 off)] (fun p hp => ?_) ?_
  · have : p = (y, .ref i 0 off) := by simpa using hp
    subst this
    exact ⟨.ref i 0 off, by simp, fun _ _ _ q => q⟩
  · have e : ρw [(y, V.ref i 0 off)] (.tmp y) = .ref i 0 off := by simp [ρw]
    simp only [evalOp, ht, if_true, e]
    have e2 : loadA P h t (.ref i 0 off) = none := by unfold loadA; simp [harr]
    rw [e2]
    simp [loadV, hi, ha, ho]
end Ab
set_option maxRecDepth 100000
namespace Go.Proofs.Ytfgmckfomckliaa
open Ab
structure Span where
  lo : Int
  hi : Int
  deriving DecidableEq
structure Room where
  name : ByteArray
  more : Int
  full : Int
structure School where
  name : ByteArray
  children : Int
structure Count where
  seen : Int
  miss : Int
structure Day where
  schools : List School
  door : Count
  rooms : List Count
  taken : Int
structure Book where
  price : Int
  rooms : List Room
  days : List Day
structure Truth where
  adults : Int
  children : Int
  rooms : List Int
structure Entry where
  day : Int
  of : Int
  deriving DecidableEq
def zSpan : Span := ⟨0, 0⟩
def zRoom : Room := ⟨ByteArray.empty, 0, 0⟩
def zSchool : School := ⟨ByteArray.empty, 0⟩
def zCount : Count := ⟨0, 0⟩
def zDay : Day := ⟨[], zCount, [], 0⟩
def zTruth : Truth := ⟨0, 0, []⟩
def zEntry : Entry := ⟨0, 0⟩
def within (n a b : Int) : Bool := decide (a ≤ n) && decide (n ≤ b)
theorem within_iff {n a b : Int} : within n a b = true ↔ a ≤ n ∧ n ≤ b := by simp [within]
def outside (lo hi : Int) (l : List Int) : Bool := l.any fun n => !within n lo hi
def firstR {τ : Type} (of : Nat → τ → Int) (l : List τ) : Int × Int := match firstE of 0 l with | some (i, e) => ((i : Int), e) | none => (0, 0)
def letter (c : UInt8) : Bool := within (c.toNat : Int) 97 122
def other (c : UInt8) : Bool := within (c.toNat : Int) 48 57 || (c.toNat : Int) == 46
def nameFrom (first : Bool) : List UInt8 → Bool
  | [] => true
  | c :: cs => (letter c || !first && other c) && nameFrom false cs
def nameOk (s : ByteArray) : Bool := decide (s.size ≠ 0) && decide (s.size ≤ 16) && nameFrom true s.data.toList
def same (a b : ByteArray) : Bool := a.toList == b.toList
def newErr (s : ByteArray) (others : List ByteArray) : Int := if !nameOk s then 6 else if others.any (fun o => same o s) then 5 else 0
def roomAt (l : List Room) (i : Nat) (r : Room) : Int :=
  if newErr r.name ((l.map (·.name)).take i) ≠ 0 then newErr r.name ((l.map (·.name)).take i) else if !within r.more 0 20 || !within r.full 0 60 then 7 else 0
def roomsErr (l : List Room) : Int × Int := if (3 : Int) < l.length then (0, 3) else firstR (roomAt l) l
def schoolAt (l : List School) (i : Nat) (s : School) : Int :=
  if newErr s.name ((l.map (·.name)).take i) ≠ 0 then newErr s.name ((l.map (·.name)).take i) else if !within s.children 1 60 then 7 else 0
def sumS (l : List School) (n : Nat) : Int := natF (fun i a => a + (l.getD i zSchool).children) 0 n
def schoolsErr (l : List School) : Int :=
  if (3 : Int) < l.length then 3 else match firstE (schoolAt l) 0 l with | some (_, e) => e | none => if 60 < sumS l l.length then 9 else 0
def countOk (c : Count) : Bool := within c.seen 0 60 && within c.miss 0 5
def dayErr (b : Book) (d : Day) : Int :=
  if schoolsErr d.schools ≠ 0 then schoolsErr d.schools
  else if (d.rooms.length : Int) ≠ b.rooms.length then 3
  else if countOk d.door && within d.taken 0 10000 && d.rooms.all countOk then 0 else 7
def bookCheck (b : Book) : Int × Int × Int :=
  if !within b.price 2 60 then (1, 0, 7)
  else if b.price.tmod 2 = 1 then (1, 0, 2)
  else if (roomsErr b.rooms).2 ≠ 0 then (2, (roomsErr b.rooms).1, (roomsErr b.rooms).2)
  else if (4 : Int) < b.days.length then (3, 0, 3)
  else match firstE (fun _ d => dayErr b d) 0 b.days with
    | some (i, e) => (3, i, e)
    | none => (0, 0, 0)
structure OkDay (b : Book) (d : Day) : Prop where
  ns : d.schools.length ≤ 3
  school : ∀ s ∈ d.schools, 1 ≤ s.children ∧ s.children ≤ 60
  all : sumS d.schools d.schools.length ≤ 60
  many : d.rooms.length = b.rooms.length
  door : (0 ≤ d.door.seen ∧ d.door.seen ≤ 60) ∧ 0 ≤ d.door.miss ∧ d.door.miss ≤ 1000
  taken : 0 ≤ d.taken ∧ d.taken ≤ 10000
  room : ∀ c ∈ d.rooms, (0 ≤ c.seen ∧ c.seen ≤ 60) ∧ 0 ≤ c.miss ∧ c.miss ≤ 1000
structure OkBook (b : Book) : Prop where
  price : 2 ≤ b.price ∧ b.price ≤ 60
  even : b.price.tmod 2 = 0
  nr : b.rooms.length ≤ 3
  room : ∀ r ∈ b.rooms, (0 ≤ r.more ∧ r.more ≤ 20) ∧ 0 ≤ r.full ∧ r.full ≤ 60
  nd : b.days.length ≤ 4
  day : ∀ d ∈ b.days, OkDay b d
theorem okSchools {l : List School} (h : schoolsErr l = 0) : l.length ≤ 3 ∧ (∀ s ∈ l, 1 ≤ s.children ∧ s.children ≤ 60) ∧ sumS l l.length ≤ 60 := by
  simp only [schoolsErr] at h
  split at h
  · cases h
  rename_i h1
  split at h
  · rename_i he; exact absurd h (firstE_ne he)
  rename_i he
  split at h
  · cases h
  rename_i h2
  refine ⟨by omega, fun s hs => ?_, by omega⟩
  obtain ⟨j, hj⟩ := firstE_none he s hs
  simp only [schoolAt] at hj
  split at hj
  · rename_i hne; exact absurd hj hne
  split at hj
  · cases hj
  rename_i h3
  simpa only [Bool.not_eq_eq_eq_not, Bool.not_true, Bool.not_eq_false, within_iff] using h3
theorem countOk_iff {c : Count} : countOk c = true ↔ (0 ≤ c.seen ∧ c.seen ≤ 60) ∧ 0 ≤ c.miss ∧ c.miss ≤ 5 := by simp only [countOk, Bool.and_eq_true, within_iff]
theorem okDay {b : Book} {d : Day} (h : dayErr b d = 0) : OkDay b d := by
  simp only [dayErr] at h
  split at h
  · rename_i hne; exact absurd h hne
  rename_i h1
  split at h
  · cases h
  rename_i h2
  split at h
  case isFalse => cases h
  rename_i h3
  simp only [Bool.and_eq_true, List.all_eq_true, countOk_iff, within_iff] at h3
  obtain ⟨q1, q2, q3⟩ := okSchools (Decidable.not_not.1 h1)
  exact ⟨q1, q2, q3, by omega, ⟨h3.1.1.1, by omega⟩, h3.1.2, fun c hc => ⟨(h3.2 c hc).1, by have := h3.2 c hc; omega⟩⟩
theorem okRooms {l : List Room} (h : (roomsErr l).2 = 0) : l.length ≤ 3 ∧ ∀ r ∈ l, (0 ≤ r.more ∧ r.more ≤ 20) ∧ 0 ≤ r.full ∧ r.full ≤ 60 := by
  simp only [roomsErr, firstR] at h
  split at h
  · cases h
  rename_i h1
  split at h
  · rename_i he; exact absurd h (firstE_ne he)
  rename_i he
  refine ⟨by omega, fun r hr => ?_⟩
  obtain ⟨j, hj⟩ := firstE_none he r hr
  simp only [roomAt] at hj
  split at hj
  · rename_i hne; exact absurd hj hne
  split at hj
  · cases hj
  rename_i h3
  simpa only [Bool.or_eq_true, Bool.not_eq_eq_eq_not, Bool.not_true, not_or, Bool.not_eq_false, within_iff] using h3
theorem okBook {b : Book} (h : (bookCheck b).2.2 = 0) : OkBook b := by
  simp only [bookCheck] at h
  split at h
  · cases h
  rename_i h1
  split at h
  · cases h
  rename_i h2
  split at h
  · rename_i hne; exact absurd h hne
  rename_i h3
  split at h
  · cases h
  rename_i h4
  split at h
  · rename_i he; exact absurd h (firstE_ne he)
  rename_i he
  simp only [Bool.not_eq_eq_eq_not, Bool.not_true, Bool.not_eq_false, within_iff] at h1
  obtain ⟨q1, q2⟩ := okRooms (Decidable.not_not.1 h3)
  refine ⟨h1, ?_, q1, q2, by omega, fun d hd => ?_⟩
  · have hp : b.price.tmod 2 = b.price % 2 := Int.tmod_eq_emod_of_nonneg (by omega)
    omega
  · obtain ⟨j, hj⟩ := firstE_none he d hd
    exact okDay hj
def feeR (b : Book) (n : Int) : Int := b.price.tdiv 2 * (n - n.tdiv 13)
def dayOf (b : Book) (d : Int) : Day := b.days.getD d.toNat zDay
def feesTo (b : Book) (l : List School) (n : Nat) : Int := natF (fun i a => a + feeR b (l.getD i zSchool).children) 0 n
def feesR (b : Book) (d : Day) : Int := feesTo b d.schools d.schools.length
def pupilsR (d : Day) : Int := sumS d.schools d.schools.length
def askedR (b : Book) (d : Int) : Int := if (bookCheck b).2.2 ≠ 0 then (bookCheck b).2.2 else if within d 0 ((b.days.length : Int) - 1) then 0 else 4
def schoolR (b : Book) (n : Int) : Int × Int :=
  if (bookCheck b).2.2 ≠ 0 then (0, (bookCheck b).2.2) else if within n 0 60 then (feeR b n, 0) else (0, 7)
def togetherR (b : Book) (d : Int) : Int × Int × Int :=
  if askedR b d ≠ 0 then (0, 0, askedR b d) else (feesR b (dayOf b d), feeR b (pupilsR (dayOf b d)), 0)
def extraTo (b : Book) (r : List Int) (n : Nat) : Int := natF (fun i a => a + r.getD i 0 * (b.rooms.getD i zRoom).more) 0 n
def extraR (b : Book) (r : List Int) : Int := extraTo b r r.length
def tSpan : Ty Span := ⟨2, fun x => [.int .i64 x.lo, .int .i64 x.hi], zSpan⟩
def tRoom : Ty Room := ⟨3, fun x => [.str x.name, .int .i64 x.more, .int .i64 x.full], zRoom⟩
def tSchool : Ty School := ⟨2, fun x => [.str x.name, .int .i64 x.children], zSchool⟩
def tCount : Ty Count := ⟨2, fun x => [.int .i64 x.seen, .int .i64 x.miss], zCount⟩
def tDay : Ty Day := ⟨5, fun x => [tSchool.lst x.schools, .int .i64 x.door.seen, .int .i64 x.door.miss, tCount.lst x.rooms, .int .i64 x.taken], zDay⟩
def tBook : Ty Book := ⟨3, fun x => [.int .i64 x.price, tRoom.lst x.rooms, tDay.lst x.days], ⟨0, [], []⟩⟩
def tTruth : Ty Truth := ⟨3, fun x => [.int .i64 x.adults, .int .i64 x.children, tint.lst x.rooms], zTruth⟩
def tEntry : Ty Entry := ⟨2, fun x => [.int .i64 x.day, .int .i64 x.of], zEntry⟩
@[simp] theorem z1 : tint.zero = 0 := rfl
@[simp] theorem z2 : tRoom.zero = zRoom := rfl
@[simp] theorem z3 : tSchool.zero = zSchool := rfl
@[simp] theorem z4 : tSpan.zero = zSpan := rfl
@[simp] theorem z5 : tCount.zero = zCount := rfl
theorem z8 : tDay.zero = zDay := rfl
theorem z11 : tEntry.zero = zEntry := rfl
theorem mx : Try.prog.follows .mixedOrders = true := by kernel_rfl
theorem flatMap_get {τ : Type} (E : Ty τ) (hw : ∀ x, (E.cells x).length = E.w) : ∀ (xs : List τ) (i j : Nat), i < xs.length → j < E.w → (xs.flatMap E.cells).getD (i * E.w + j) .undef = (E.cells (xs.getD i E.zero)).getD j .undef
  | [], i, j, hi, hj => by simp at hi
  | x :: xs, 0, j, hi, hj => by
    simp only [List.flatMap_cons, Nat.zero_mul, Nat.zero_add]
    rw [getD_append_left (by rw [hw]; exact hj)]; rfl
  | x :: xs, i + 1, j, hi, hj => by
    simp only [List.flatMap_cons]
    rw [getD_append_right (by rw [hw, Nat.succ_mul]; omega), hw, show (i + 1) * E.w + j - E.w = i * E.w + j by rw [Nat.succ_mul]; omega]
    rw [flatMap_get E hw xs i j (by simpa using hi) hj]; rfl
theorem VLe.lit {τ : Type} (E : Ty τ) (xs : List τ) {w n : Nat} {cs : List V} (hn : n = xs.length) (hc : xs.flatMap E.cells = cs) (hw : ∀ x, (E.cells x).length = E.w) (hww : w = E.w := by rfl) : VLe (.list w n (litC w n cs)) (E.lst xs) := by
  subst hww; subst hn; subst hc
  exact VLe.list fun i j hi hj => by rw [litC_eq hi, flatMap_get E hw xs i j hi hj]; rfl
def rowsFn {τ : Type} (E : Ty τ) (f : Nat → τ) : Nat → Nat → V := fun i j => (E.cells (f i)).getD j .undef
def upd {τ : Type} (f : Nat → τ) (i : Nat) (x : τ) : Nat → τ := fun j => if j = i then x else f j
def fn4 (a b c d : Int) : Nat → Int := fun i => ([a, b, c, d] : List Int).getD i 0
theorem arr4 (a b c d : Int) : VLe (.arr 1 4 (fun r j => ([.int .i64 a, .int .i64 b, .int .i64 c, .int .i64 d] : List V).getD (r * 1 + j) .undef)) (.arr 1 4 (rowsFn tint (fn4 a b c d))) := fun G β x hx => by
  cases hx with
  | arr hs h =>
    refine .arr hs fun r j hr hj => ?_
    have := h r j hr hj
    obtain rfl : j = 0 := by omega
    rcases show r = 0 ∨ r = 1 ∨ r = 2 ∨ r = 3 by omega with rfl | rfl | rfl | rfl <;> exact this
theorem tel_upd {τ : Type} (E : Ty τ) (f : Nat → τ) (i : Nat) (x : τ) {n w : Nat} (vs : List V) (hv : vs = E.cells x) (hw : (E.cells x).length = w) : ∀ r j, r < n → j < w →
    VLe ((fun r' j => if r' = i ∧ 0 ≤ j ∧ j < 0 + vs.length then vs.getD (j - 0) .undef else rowsFn E f r' j) r j) (rowsFn E (upd f i x) r j) := fun r j _ hj => by
  subst hv
  by_cases h : r = i
  · subst h
    simp only [Nat.zero_le, Nat.zero_add, true_and, hw, hj, if_true, Nat.sub_zero, rowsFn, upd]
    exact VLe.refl _
  · simp only [h, false_and, if_false, rowsFn, upd]
    exact VLe.refl _
theorem tel_set {τ : Type} (E : Ty τ) (l : List τ) (i : Nat) (x : τ) {n w : Nat} (vs : List V) (hv : vs = E.cells x) (hw : (E.cells x).length = w) (hn : n = l.length) : ∀ r j, r < n → j < w →
    VLe ((fun r' j => if r' = i ∧ 0 ≤ j ∧ j < 0 + vs.length then vs.getD (j - 0) .undef else rowsOf E l r' j) r j) (rowsOf E (l.set i x) r j) := fun r j hr hj => by
  subst hv; subst hn
  by_cases h : r = i
  · subst h
    simp only [Nat.zero_le, Nat.zero_add, true_and, hw, hj, if_true, Nat.sub_zero, rowsOf, List.getD_eq_getElem?_getD, List.getElem?_set_self hr, Option.getD_some]
    exact VLe.refl _
  · simp only [h, false_and, if_false, rowsOf, List.getD_eq_getElem?_getD, List.getElem?_set_ne (Ne.symm h)]
    exact VLe.refl _
def regOf (id : Nat) : Code → Option (Array Oper)
  | .region j ops _ => if j = id then some ops else none
  | .seq a b => match regOf id a with | some o => some o | none => regOf id b
  | .cond _ a b => match regOf id a with | some o => some o | none => regOf id b
  | .block _ a => regOf id a
  | .scope a => regOf id a
  | .loop a => regOf id a
  | .rangeFunc _ _ a b => match regOf id a with | some o => some o | none => regOf id b
  | _ => none
def opAt (fn : Func) (id i : Nat) : Op := match regOf id (fn.body.getD .skip) with | some ops => (match ops[i]? with | some o => o.op | none => .move (.tmp 0)) | none => .move (.tmp 0)
def rngOf : Code → Option Code
  | .seq a b => match rngOf a with | some o => some o | none => rngOf b
  | .cond _ a b => match rngOf a with | some o => some o | none => rngOf b
  | .block _ a => rngOf a
  | .scope a => rngOf a
  | .loop a => rngOf a
  | .rangeFunc g ps a b => some (.rangeFunc g ps a b)
  | _ => none
def rangeOf (fn : Func) : Code := (rngOf (fn.body.getD .skip)).getD .skip
theorem bodyQ_mono {P : Program} {fn : Func} {post post' : V → Prop} {e : Exit} {S : St} (h : bodyQ P fn post e S) (hp : ∀ v, post v → post' v) : bodyQ P fn post' e S := by
  obtain ⟨h1, h2, v, u, h3, h4, h5⟩ := h
  exact ⟨h1, h2, v, u, h3, h4, hp u h5⟩
theorem PCalls.enters {P : Program} {f : FuncId} {fn : Func} {c : Code} (hf : P.funcs[f]? = some fn) (hb : fn.body = some c) (hn : (fn.name == "runtime.NumGoroutine") = false) : ∀ xs w, (callFunc f xs).run P w = .ok (.enter f xs) w := by
  have hn' : ¬ fn.name = "runtime.NumGoroutine" := by simpa using hn
  intro xs w; simp [callFunc, hf, hn', hb]
inductive Has : V → Nat → Prop where
  | list {w n c} : Has (.list w n c) n
  | agg {vs n} (j : Nat) (h : Has (vs.getD j .undef) n) (hj : j < vs.length) : Has (.agg vs) n
  | row {w n c m} (i j : Nat) (hi : i < n) (hj : j < w) (h : Has (c i j) m) : Has (.list w n c) m
  | cref {n c m} (j : Nat) (hj : j < n) (h : Has (c j) m) : Has (.cref n c) m
theorem Has.le {v : V} {n : Nat} (h : Has v n) : ∀ {G : Kept} {β : Homes} {x : Value}, Rel G β v x → n ≤ maxn := by
  induction h with
  | list => intro G β x hx; cases hx with | list0 => exact Nat.zero_le _ | list _ _ _ hn _ => exact hn
  | agg j _ hj ih => intro G β x hx; cases hx with | agg hs hr => exact ih (hr j hj)
  | row i j hi hj _ ih => intro G β x hx; cases hx with | list0 => omega | list _ _ _ _ hc => exact ih (hc i j hi hj)
  | cref j hj _ ih => intro G β x hx; cases hx with | cref _ _ hc => exact ih (hc j hj)
theorem PCalls.assume {P : Program} {f : FuncId} {args : List V} {post : V → Prop} (hc : ∀ xs w, (callFunc f xs).run P w = .ok (.enter f xs) w) {n : Nat} (j : Nat) (hj : j < args.length) (hh : Has (args.getD j .undef) n) (h : n ≤ maxn → PCalls P f args post) : PCalls P f args post :=
  ⟨hc, fun G w xs hk hl hr => (h (hh.le (hr j hj))).2 G w xs hk hl hr⟩
theorem inR64 {n : Int} (h1 : -9223372036854775808 ≤ n) (h2 : n ≤ 9223372036854775807) : inR .i64 n = true := by
  have a : IntKind.min .i64 = -9223372036854775808 := by rfl
  have b : IntKind.max .i64 = 9223372036854775807 := by rfl
  simp only [inR, a, b, Bool.and_eq_true, decide_eq_true_eq]; exact ⟨h1, h2⟩
theorem inRi {i n : Nat} (hi : i < n) (hn : n ≤ maxn) : inR .i64 ((i : Int) + 1) = true := by
  have : n ≤ 281474976710656 := hn
  exact inR64 (by omega) (by omega)
theorem SS : (∀ {α : Type} {p : α → Prop} {a : α} {l : List α}, (∀ x, x ∈ a :: l → p x) ↔ p a ∧ ∀ x, x ∈ l → p x) ∧ (∀ {α : Type} {a : α}, ¬ a ∈ ([] : List α)) ∧ (∀ a : Prop, (False → a) ↔ True) ∧ (∀ {α : Prop}, (True → α) ↔ α) ∧
    (∀ α : Prop, (α → True) = True) ∧ (∀ α : Type, (α → True) = True) ∧ (∀ p : Prop, (p ∧ True) = p) ∧ (∀ p : Prop, (True ∧ p) = p) ∧ (∀ {p : Prop} [Decidable p], (decide p = true) = p) ∧ (∀ {p : Prop} {_x : Decidable p}, decide p = false ↔ ¬ p) ∧
    (∀ {a b : Bool}, (!a) = b ↔ a = !b) ∧ (!true) = false ∧ (!false) = true ∧ (∀ {α : Type} [BEq α] [LawfulBEq α] {a b : α}, (a == b) = true ↔ a = b) ∧ (∀ {α : Type} [BEq α] [LawfulBEq α] {a b : α}, (a == b) = false ↔ a ≠ b) ∧
    (∀ {α : Type} [BEq α] [LawfulBEq α] {a b : α}, (a != b) = true ↔ a ≠ b) ∧ (∀ {α : Type} [BEq α] [LawfulBEq α] {a b : α}, (a != b) = false ↔ a = b) ∧ (∀ a b : Bool, ((a && b) = true) = (a = true ∧ b = true)) ∧ (true = false) = False ∧ (false = true) = False ∧
    (∀ a : Int, ¬ a < a) ∧ (∀ {n m : Nat}, (n : Int) < m ↔ n < m) ∧ (¬ False) = True ∧ (¬ True) = False ∧ (∀ n : Nat, (n : Int).toNat = n) ∧ (∀ n : Nat, (0 : Int) ≤ n) ∧ (∀ {α : Type} (a b : α), (a ≠ b) = ¬ a = b) ∧ (∀ {α : Prop} (a b : α), (a ≠ b) = ¬ a = b) ∧
    (∀ {α : Type} [LT α] {x y : α}, x > y ↔ y < x) ∧ (∀ {α : Type} [LE α] {x y : α}, x ≥ y ↔ y ≤ x) ∧ (∀ {n : Nat}, (n : Int) = 0 ↔ n = 0) :=
  ⟨List.forall_mem_cons, List.not_mem_nil, false_imp_iff, true_imp_iff, implies_true, implies_true, and_true, true_and, decide_eq_true_eq, decide_eq_false_iff_not, Bool.not_eq_eq_eq_not, Bool.not_true, Bool.not_false, beq_iff_eq, beq_eq_false_iff_ne, bne_iff_ne, bne_eq_false_iff_eq, Bool.and_eq_true, Bool.true_eq_false, Bool.false_eq_true, Int.lt_irrefl, Int.ofNat_lt, not_false_eq_true, not_true_eq_false, Int.toNat_natCast, Int.natCast_nonneg, ne_eq, ne_eq, gt_iff_lt, ge_iff_le, Int.natCast_eq_zero⟩
abbrev fF (n : Go.FuncId) : V := .func (.func n) [] []
abbrev iI (n : Int) : V := .int .i64 n
abbrev uU : V := .undef
abbrev rR (v : V) : V := .cref 1 fun q => ([v] : List V).getD q .undef
abbrev fG (n : Go.FuncId) (cs : List V) : V := .func (.func n) [] cs
abbrev Sm {α ρ : Type} (m : Nat) (g : α → List Item × St) (T : α → Tr α ρ) (n : ρ → Go.Exit × St) : Prop := ∀ a, ∃ k, runG Try.prog m k (startOf (g a).1) (g a).2 ((T a).toD g n) = some ((T a).toD g n)
theorem PCalls.wq {α ρ : Type} {f : Go.FuncId} {fn : Go.Func} {c : Go.Code} {args : List V} {post : V → Prop} {T : α → Tr α ρ} {g : α → List Item × St} {n : ρ → Go.Exit × St} {v : ρ → V} {e : α} (hf : Try.prog.funcs[f]? = some fn) (s : Sm 0 g T n)
    (q : ∀ r, bodyQ Try.prog fn (· = v r) (n r).1 (n r).2) (h : WP Try.prog ⟨none, 0⟩ T (Ends' fun r => post (v r)) e) (he : g e = ([.code c], { t := args ++ List.replicate (fn.ntmps - args.length) .undef, h := [], d := [] }) := by rfl)
    (hb : fn.body = some c := by kernel_rfl) (hn : (fn.name == "runtime.NumGoroutine") = false := by kernel_rfl) : PCalls Try.prog f args post :=
  PCalls.wp mx hf hb hn T g n e he s h fun r hr => bodyQ_mono (q r) fun u hu => by subst hu; exact hr
theorem bq {P : Go.Program} {fn : Go.Func} {e : Go.Exit} {S : St} (v : V) (hr : resultV P fn { S with h := shut S.d S.h } = some v) (hd : S.d = [] := by rfl) (he : e = Go.Exit.ret := by rfl) (hi : v.imm = true := by rfl) : bodyQ P fn (· = v) e S :=
  ⟨.inr he, by rw [hd]; exact List.nodup_nil, v, v, hr, .imm hi, rfl⟩
abbrev PC (f : Go.FuncId) (args : List V) (post : V → Prop) : Prop := PCalls Try.prog f args post
abbrev WQ {α ρ : Type} (T : α → Tr α ρ) (v : ρ → V) (post : V → Prop) (e : α) : Prop := WP Try.prog ⟨none, 0⟩ T (Ends' fun r => post (v r)) e
abbrev bd (f : Go.Func) (a : List V) (n : Nat) : List Item × St := ([.code (f.body.getD .skip)], ⟨a ++ List.replicate n .undef, [], []⟩)
abbrev cC (x : Book) : List V := [.int .i64 x.price, tRoom.lst x.rooms, tDay.lst x.days]
end Go.Proofs.Ytfgmckfomckliaa
namespace Go.Proofs
open Go.Shelf
def Try.lays125_ren : Go.Shelf.Ren := ⟨fun | 125 => 66 | 128 => 82 | 129 => 83 | n => n, fun | 46 => 121 | 3 => 3 | 51 => 136 | 53 => 138 | 4 => 4 | 5 => 5 | 9 => 9 | n => n, fun | n => n⟩
theorem Try.lays125 : Go.Proofs.Lays.n125 Try.prog Try.lays125_ren := {
  mixed := by kernel_rfl
  f125 := Try.func66.trans (congrArg some (by kernel_rfl))
  f128 := Try.func82.trans (congrArg some (by kernel_rfl))
  f129 := Try.func83.trans (congrArg some (by kernel_rfl))
  t3 := Try.underlying3
  a3 := Try.isAgg3
  z3 := Try.sizeOf3
  v3 := Try.zeroValue3
  t4 := Try.underlying4
  a4 := Try.isAgg4
  z4 := Try.sizeOf4
  v4 := Try.zeroValue4
  t5 := Try.underlying5
  a5 := Try.isAgg5
  z5 := Try.sizeOf5
  v5 := Try.zeroValue5
  t9 := Try.underlying9
  a9 := Try.isAgg9
  z9 := Try.sizeOf9
  v9 := Try.zeroValue9
  t46 := Try.underlying121
  a46 := Try.isAgg121
  z46 := Try.sizeOf121
  v46 := Try.zeroValue121
  t51 := Try.underlying136
  a51 := Try.isAgg136
  z51 := Try.sizeOf136
  v51 := Try.zeroValue136
  t53 := Try.underlying138
  a53 := Try.isAgg138
  z53 := Try.sizeOf138
  v53 := Try.zeroValue138 }
theorem Try.bits_Len (x : Int) (w : World) (h0 : 0 ≤ x) (h1 : x ≤ 18446744073709551615) :
    Calls Try.prog 66 #[.int .u64 x] w fun e w' => e = .returned (.int .i64 (Lib.bitLen x.toNat)) ∧ w' = w := Any.bits_Len Try.lays125 x w h0 h1
def Try.lays189_ren : Go.Shelf.Ren := ⟨fun | 189 => 42 | 125 => 66 | 257 => 65 | 128 => 82 | 129 => 83 | 294 => 73 | 295 => 74 | 296 => 75 | 297 => 76 | 298 => 77 | 299 => 78 | 216 => 79 | 300 => 80 | 301 => 81 | 328 => 93 | 329 => 94 | 330 => 95 | 331 => 96 | 332 => 97 | 215 => 92 | 343 => 101 | n => n, fun | 28 => 36 | 3 => 3 | 46 => 121 | 0 => 0 | 51 => 136 | 53 => 138 | 4 => 4 | 183 => 143 | 182 => 142 | 131 => 147 | 5 => 5 | 9 => 9 | 218 => 154 | 222 => 158 | 228 => 162 | 229 => 62 | n => n, fun | n => n⟩
theorem Try.lays189 : Go.Proofs.Lays.n189 Try.prog Try.lays189_ren := {
  mixed := by kernel_rfl
  f125 := Try.func66.trans (congrArg some (by kernel_rfl))
  f128 := Try.func82.trans (congrArg some (by kernel_rfl))
  f129 := Try.func83.trans (congrArg some (by kernel_rfl))
  f189 := Try.func42.trans (congrArg some (by kernel_rfl))
  f215 := Try.func92.trans (congrArg some (by kernel_rfl))
  f216 := Try.func79.trans (congrArg some (by kernel_rfl))
  f257 := Try.func65.trans (congrArg some (by kernel_rfl))
  f294 := Try.func73.trans (congrArg some (by kernel_rfl))
  f295 := Try.func74.trans (congrArg some (by kernel_rfl))
  f296 := Try.func75.trans (congrArg some (by kernel_rfl))
  f297 := Try.func76.trans (congrArg some (by kernel_rfl))
  f298 := Try.func77.trans (congrArg some (by kernel_rfl))
  f299 := Try.func78.trans (congrArg some (by kernel_rfl))
  f300 := Try.func80.trans (congrArg some (by kernel_rfl))
  f301 := Try.func81.trans (congrArg some (by kernel_rfl))
  f328 := Try.func93.trans (congrArg some (by kernel_rfl))
  f329 := Try.func94.trans (congrArg some (by kernel_rfl))
  f330 := Try.func95.trans (congrArg some (by kernel_rfl))
  f331 := Try.func96.trans (congrArg some (by kernel_rfl))
  f332 := Try.func97.trans (congrArg some (by kernel_rfl))
  f343 := Try.func101.trans (congrArg some (by kernel_rfl))
  t0 := Try.underlying0
  a0 := Try.isAgg0
  z0 := Try.sizeOf0
  v0 := Try.zeroValue0
  t3 := Try.underlying3
  a3 := Try.isAgg3
  z3 := Try.sizeOf3
  v3 := Try.zeroValue3
  t4 := Try.underlying4
  a4 := Try.isAgg4
  z4 := Try.sizeOf4
  v4 := Try.zeroValue4
  t5 := Try.underlying5
  a5 := Try.isAgg5
  z5 := Try.sizeOf5
  v5 := Try.zeroValue5
  t9 := Try.underlying9
  a9 := Try.isAgg9
  z9 := Try.sizeOf9
  v9 := Try.zeroValue9
  t28 := Try.underlying36
  a28 := Try.isAgg36
  z28 := Try.sizeOf36
  v28 := Try.zeroValue36
  t46 := Try.underlying121
  a46 := Try.isAgg121
  z46 := Try.sizeOf121
  v46 := Try.zeroValue121
  t51 := Try.underlying136
  a51 := Try.isAgg136
  z51 := Try.sizeOf136
  v51 := Try.zeroValue136
  t53 := Try.underlying138
  a53 := Try.isAgg138
  z53 := Try.sizeOf138
  v53 := Try.zeroValue138
  t131 := Try.underlying147
  a131 := Try.isAgg147
  z131 := Try.sizeOf147
  v131 := Try.zeroValue147
  t182 := Try.underlying142
  a182 := Try.isAgg142
  z182 := Try.sizeOf142
  v182 := Try.zeroValue142
  t183 := Try.underlying143
  a183 := Try.isAgg143
  z183 := Try.sizeOf143
  v183 := Try.zeroValue143
  t218 := Try.underlying154
  a218 := Try.isAgg154
  z218 := Try.sizeOf154
  v218 := Try.zeroValue154
  t222 := Try.underlying158
  a222 := Try.isAgg158
  z222 := Try.sizeOf158
  v222 := Try.zeroValue158
  t228 := Try.underlying162
  a228 := Try.isAgg162
  z228 := Try.sizeOf162
  v228 := Try.zeroValue162
  t229 := Try.underlying62
  a229 := Try.isAgg62
  z229 := Try.sizeOf62
  v229 := Try.zeroValue62 }
open Go.Sort Go.RowKit in
theorem Try.slices_Sort_int (blk off cap : Nat) (zs : List Int) (w : World) (hH : Holds (Value.int .i64) w blk off zs.toArray) (hblk : blk < w.heap.size) (hsz : zs.length < 4611686018427387904) :
    Calls Try.prog 42 #[.slice (some ⟨blk, off, none⟩) zs.length cap] w fun e w' =>
      e = .returned (.tuple #[]) ∧ ∃ n os, w' = grow (putRow (Value.int .i64) (Sort.ahead w n) blk off (zs.mergeSort fun x y => decide (x ≤ y)).toArray) os := Any.slices_Sort_int Try.lays189 blk off cap zs w hH hblk hsz
def Try.laysNm220_ren : Go.Shelf.Ren := ⟨fun | 20 => 43 | n => n, fun | 22 => 36 | 3 => 3 | 4 => 4 | 0 => 0 | n => n, fun | n => n⟩
theorem Try.laysNm220 : Go.Proofs.Lays2.n20 Try.prog Try.laysNm220_ren := {
  mixed := by kernel_rfl
  f20 := Try.func43.trans (congrArg some (by kernel_rfl))
  t0 := Try.underlying0
  a0 := Try.isAgg0
  z0 := Try.sizeOf0
  v0 := Try.zeroValue0
  t3 := Try.underlying3
  a3 := Try.isAgg3
  z3 := Try.sizeOf3
  v3 := Try.zeroValue3
  t4 := Try.underlying4
  a4 := Try.isAgg4
  z4 := Try.sizeOf4
  v4 := Try.zeroValue4
  t22 := Try.underlying36
  a22 := Try.isAgg36
  z22 := Try.sizeOf36
  v22 := Try.zeroValue36
  i3 := by kernel_rfl }
open Go.RowKit Go.Lib Go.Sort in
theorem Try.slices_Compact_int (blk off cap : Nat) (zs : List Int) (w : World) (hH : Holds (Value.int .i64) w blk off zs.toArray) (hsz : zs.length ≤ 9223372036854775807) (hcap : zs.length ≤ cap) :
    Calls Try.prog 43 #[.slice (some ⟨blk, off, none⟩) zs.length cap] w fun e w' => e = .returned (.slice (some ⟨blk, off, none⟩) (Lib.compact zs).length cap) ∧ ∃ q, w' = putRow (Value.int .i64) (Sort.ahead w q) blk off (Lib.compact zs ++ List.replicate (zs.length - (Lib.compact zs).length) 0).toArray := Any.slices_Compact_int Try.laysNm220 blk off cap zs w hH hsz hcap
open Go.RowKit Go.Lib Go.Sort in
theorem Try.slices_Compact_int_empty (a : Option Addr) (cap : Nat) (w : World) :
    Calls Try.prog 43 #[.slice a 0 cap] w fun e w' => e = .returned (.slice a 0 cap) ∧ w' = w := Any.slices_Compact_int_empty Try.laysNm220 a cap w
open Go.RowKit Go.Sort in
theorem Try.slices_Sort_int_none (p : Option Addr) (cap : Nat) (w : World) :
    Calls Try.prog 42 #[.slice p 0 cap] w fun e w' => e = .returned (.tuple #[]) ∧ w' = w := Any.slices_Sort_int_none Try.lays189 p cap w
def Try.laysSlF6_f47_ren : Go.Shelf.Ren := ⟨fun | 6 => 47 | 15 => 66 | 14 => 67 | 28 => 82 | 29 => 83 | 20 => 84 | 21 => 85 | 22 => 86 | 23 => 87 | 24 => 88 | 25 => 89 | 26 => 90 | 27 => 91 | 46 => 98 | 47 => 94 | 48 => 95 | 49 => 99 | 50 => 100 | 57 => 102 | n => n, fun | 22 => 36 | 24 => 3 | 25 => 124 | 3 => 3 | 39 => 121 | 0 => 0 | 53 => 136 | 55 => 138 | 4 => 4 | 46 => 143 | 45 => 142 | 50 => 147 | 5 => 5 | 9 => 9 | 66 => 154 | 70 => 158 | 76 => 162 | 77 => 62 | n => n, fun | n => n⟩
theorem Try.laysSlF6_f47 : Go.Proofs.SlLaysF.n6 Try.prog Try.laysSlF6_f47_ren := {
  mixed := by kernel_rfl
  f6 := ⟨Try.f47.name, by decide, Try.func47.trans (congrArg some (by kernel_rfl))⟩
  f14 := ⟨Try.f67.name, by decide, Try.func67.trans (congrArg some (by kernel_rfl))⟩
  f15 := Try.func66.trans (congrArg some (by kernel_rfl))
  f20 := ⟨Try.f84.name, by decide, Try.func84.trans (congrArg some (by kernel_rfl))⟩
  f21 := ⟨Try.f85.name, by decide, Try.func85.trans (congrArg some (by kernel_rfl))⟩
  f22 := ⟨Try.f86.name, by decide, Try.func86.trans (congrArg some (by kernel_rfl))⟩
  f23 := ⟨Try.f87.name, by decide, Try.func87.trans (congrArg some (by kernel_rfl))⟩
  f24 := ⟨Try.f88.name, by decide, Try.func88.trans (congrArg some (by kernel_rfl))⟩
  f25 := ⟨Try.f89.name, by decide, Try.func89.trans (congrArg some (by kernel_rfl))⟩
  f26 := ⟨Try.f90.name, by decide, Try.func90.trans (congrArg some (by kernel_rfl))⟩
  f27 := ⟨Try.f91.name, by decide, Try.func91.trans (congrArg some (by kernel_rfl))⟩
  f28 := Try.func82.trans (congrArg some (by kernel_rfl))
  f29 := Try.func83.trans (congrArg some (by kernel_rfl))
  f46 := ⟨Try.f98.name, by decide, Try.func98.trans (congrArg some (by kernel_rfl))⟩
  f47 := Try.func94.trans (congrArg some (by kernel_rfl))
  f48 := Try.func95.trans (congrArg some (by kernel_rfl))
  f49 := ⟨Try.f99.name, by decide, Try.func99.trans (congrArg some (by kernel_rfl))⟩
  f50 := ⟨Try.f100.name, by decide, Try.func100.trans (congrArg some (by kernel_rfl))⟩
  f57 := ⟨Try.f102.name, by decide, Try.func102.trans (congrArg some (by kernel_rfl))⟩
  t0 := Try.underlying0
  a0 := Try.isAgg0
  z0 := Try.sizeOf0
  v0 := Try.zeroValue0
  t3 := Try.underlying3
  a3 := Try.isAgg3
  z3 := Try.sizeOf3
  v3 := Try.zeroValue3
  t4 := Try.underlying4
  a4 := Try.isAgg4
  z4 := Try.sizeOf4
  v4 := Try.zeroValue4
  t5 := Try.underlying5
  a5 := Try.isAgg5
  z5 := Try.sizeOf5
  v5 := Try.zeroValue5
  t9 := Try.underlying9
  a9 := Try.isAgg9
  z9 := Try.sizeOf9
  v9 := Try.zeroValue9
  t22 := Try.underlying36
  a22 := Try.isAgg36
  z22 := Try.sizeOf36
  v22 := Try.zeroValue36
  a24 := Try.isAgg3
  z24 := Try.sizeOf3
  t25 := Try.underlying124
  a25 := Try.isAgg124
  z25 := Try.sizeOf124
  v25 := Try.zeroValue124
  t39 := Try.underlying121
  a39 := Try.isAgg121
  z39 := Try.sizeOf121
  v39 := Try.zeroValue121
  t45 := Try.underlying142
  a45 := Try.isAgg142
  z45 := Try.sizeOf142
  v45 := Try.zeroValue142
  t46 := Try.underlying143
  a46 := Try.isAgg143
  z46 := Try.sizeOf143
  v46 := Try.zeroValue143
  t50 := Try.underlying147
  a50 := Try.isAgg147
  z50 := Try.sizeOf147
  v50 := Try.zeroValue147
  t53 := Try.underlying136
  a53 := Try.isAgg136
  z53 := Try.sizeOf136
  v53 := Try.zeroValue136
  t55 := Try.underlying138
  a55 := Try.isAgg138
  z55 := Try.sizeOf138
  v55 := Try.zeroValue138
  t66 := Try.underlying154
  a66 := Try.isAgg154
  z66 := Try.sizeOf154
  v66 := Try.zeroValue154
  t70 := Try.underlying158
  a70 := Try.isAgg158
  z70 := Try.sizeOf158
  v70 := Try.zeroValue158
  t76 := Try.underlying162
  a76 := Try.isAgg162
  z76 := Try.sizeOf162
  v76 := Try.zeroValue162
  t77 := Try.underlying62
  a77 := Try.isAgg62
  z77 := Try.sizeOf62
  v77 := Try.zeroValue62 }
open Go.RowKit Go.Lib Go.Sort in
theorem Try.slices_SortFunc {α : Type} [Inhabited α] (enc : α → Value) (h1 : OneCell enc) (cf : α → α → Int) (hO : SWO (ltOf cf)) (g : Nat) (cb : Array Value) (blk off cap : Nat) (d : Array α) (w : World) (eg : ∀ args w, (callFunc g args).run Try.prog w = .ok (.enter g args) w) (hcmp : CmpLays1 Try.prog g cb enc cf blk off d.size w) (hH : Holds enc w blk off d) (hblk : blk < w.heap.size) (hsz : d.size < 4611686018427387904) :
    Calls Try.prog 47 #[.slice (some ⟨blk, off, none⟩) d.size cap, .func (.func g) #[] cb] w fun e w' =>
      e = .returned (.tuple #[]) ∧ ∃ d' n os, PermIn 0 d.size d d' ∧ SortedIn (ltOf cf) 0 d.size d' ∧ w' = sortWorld enc w blk off n d' os := Any.slices_SortFunc Try.laysSlF6_f47 enc h1 cf hO g cb blk off cap d w eg hcmp hH hblk hsz
def Try.laysSlF06_f47_ren : Go.Shelf.Ren := ⟨fun | 6 => 47 | 15 => 66 | 14 => 67 | 28 => 82 | 29 => 83 | 20 => 84 | 21 => 85 | 22 => 86 | 23 => 87 | 24 => 88 | 25 => 89 | 26 => 90 | 27 => 91 | 46 => 98 | 47 => 94 | 48 => 95 | 49 => 99 | 50 => 100 | 57 => 102 | n => n, fun | 22 => 36 | 24 => 3 | 25 => 124 | 3 => 3 | 39 => 121 | 0 => 0 | 53 => 136 | 55 => 138 | 4 => 4 | 46 => 143 | 45 => 142 | 50 => 147 | 5 => 5 | 9 => 9 | 66 => 154 | 70 => 158 | 76 => 162 | 77 => 62 | n => n, fun | n => n⟩
theorem Try.laysSlF06_f47 : Go.Proofs.SlLaysF0.n6 Try.prog Try.laysSlF06_f47_ren := {
  mixed := by kernel_rfl
  f6 := ⟨Try.f47.name, by decide, Try.func47.trans (congrArg some (by kernel_rfl))⟩
  f14 := ⟨Try.f67.name, by decide, Try.func67.trans (congrArg some (by kernel_rfl))⟩
  f15 := Try.func66.trans (congrArg some (by kernel_rfl))
  f20 := ⟨Try.f84.name, by decide, Try.func84.trans (congrArg some (by kernel_rfl))⟩
  f21 := ⟨Try.f85.name, by decide, Try.func85.trans (congrArg some (by kernel_rfl))⟩
  f22 := ⟨Try.f86.name, by decide, Try.func86.trans (congrArg some (by kernel_rfl))⟩
  f23 := ⟨Try.f87.name, by decide, Try.func87.trans (congrArg some (by kernel_rfl))⟩
  f24 := ⟨Try.f88.name, by decide, Try.func88.trans (congrArg some (by kernel_rfl))⟩
  f25 := ⟨Try.f89.name, by decide, Try.func89.trans (congrArg some (by kernel_rfl))⟩
  f26 := ⟨Try.f90.name, by decide, Try.func90.trans (congrArg some (by kernel_rfl))⟩
  f27 := ⟨Try.f91.name, by decide, Try.func91.trans (congrArg some (by kernel_rfl))⟩
  f28 := Try.func82.trans (congrArg some (by kernel_rfl))
  f29 := Try.func83.trans (congrArg some (by kernel_rfl))
  f46 := ⟨Try.f98.name, by decide, Try.func98.trans (congrArg some (by kernel_rfl))⟩
  f47 := Try.func94.trans (congrArg some (by kernel_rfl))
  f48 := Try.func95.trans (congrArg some (by kernel_rfl))
  f49 := ⟨Try.f99.name, by decide, Try.func99.trans (congrArg some (by kernel_rfl))⟩
  f50 := ⟨Try.f100.name, by decide, Try.func100.trans (congrArg some (by kernel_rfl))⟩
  f57 := ⟨Try.f102.name, by decide, Try.func102.trans (congrArg some (by kernel_rfl))⟩
  t0 := Try.underlying0
  a0 := Try.isAgg0
  z0 := Try.sizeOf0
  v0 := Try.zeroValue0
  t3 := Try.underlying3
  a3 := Try.isAgg3
  z3 := Try.sizeOf3
  v3 := Try.zeroValue3
  t4 := Try.underlying4
  a4 := Try.isAgg4
  z4 := Try.sizeOf4
  v4 := Try.zeroValue4
  t5 := Try.underlying5
  a5 := Try.isAgg5
  z5 := Try.sizeOf5
  v5 := Try.zeroValue5
  t9 := Try.underlying9
  a9 := Try.isAgg9
  z9 := Try.sizeOf9
  v9 := Try.zeroValue9
  t22 := Try.underlying36
  a22 := Try.isAgg36
  z22 := Try.sizeOf36
  v22 := Try.zeroValue36
  t25 := Try.underlying124
  a25 := Try.isAgg124
  z25 := Try.sizeOf124
  v25 := Try.zeroValue124
  t39 := Try.underlying121
  a39 := Try.isAgg121
  z39 := Try.sizeOf121
  v39 := Try.zeroValue121
  t45 := Try.underlying142
  a45 := Try.isAgg142
  z45 := Try.sizeOf142
  v45 := Try.zeroValue142
  t46 := Try.underlying143
  a46 := Try.isAgg143
  z46 := Try.sizeOf143
  v46 := Try.zeroValue143
  t50 := Try.underlying147
  a50 := Try.isAgg147
  z50 := Try.sizeOf147
  v50 := Try.zeroValue147
  t53 := Try.underlying136
  a53 := Try.isAgg136
  z53 := Try.sizeOf136
  v53 := Try.zeroValue136
  t55 := Try.underlying138
  a55 := Try.isAgg138
  z55 := Try.sizeOf138
  v55 := Try.zeroValue138
  t66 := Try.underlying154
  a66 := Try.isAgg154
  z66 := Try.sizeOf154
  v66 := Try.zeroValue154
  t70 := Try.underlying158
  a70 := Try.isAgg158
  z70 := Try.sizeOf158
  v70 := Try.zeroValue158
  t76 := Try.underlying162
  a76 := Try.isAgg162
  z76 := Try.sizeOf162
  v76 := Try.zeroValue162
  t77 := Try.underlying62
  a77 := Try.isAgg62
  z77 := Try.sizeOf62
  v77 := Try.zeroValue62 }
open Go.RowKit Go.Lib Go.Sort in
theorem Try.slices_SortFunc_none {α : Type} [Inhabited α] (p : Option Addr) (cap : Nat) (fv : Value) (w : World) :
    Calls Try.prog 47 #[.slice p 0 cap, fv] w fun e w' => e = .returned (.tuple #[]) ∧ w' = w := AnyF.slices_SortFunc_none Try.laysSlF06_f47 p cap fv w
open Go.RowKit Go.Lib Go.Sort in
theorem Try.slices_SortFunc_total {α : Type} [Inhabited α] (enc : α → Value) (h1 : OneCell enc) (cf : α → α → Int) (hO : SWO (ltOf cf)) (g : Nat) (cb : Array Value) (blk off cap : Nat) (d : Array α) (w : World) (eg : ∀ args w, (callFunc g args).run Try.prog w = .ok (.enter g args) w) (hcmp : CmpLays1 Try.prog g cb enc cf blk off d.size w) (hH : Holds enc w blk off d) (hblk : blk < w.heap.size) (hsz : d.size < 4611686018427387904) (hT : ∀ x y, (ltOf cf) x y = false → (ltOf cf) y x = false → x = y) :
    Calls Try.prog 47 #[.slice (some ⟨blk, off, none⟩) d.size cap, .func (.func g) #[] cb] w fun e w' =>
      e = .returned (.tuple #[]) ∧ ∃ n os, w' = sortWorld enc w blk off n (d.toList.mergeSort fun x y => !(ltOf cf) y x).toArray os := Any.slices_SortFunc_total Try.laysSlF6_f47 enc h1 cf hO g cb blk off cap d w eg hcmp hH hblk hsz hT
end Go.Proofs
namespace Go.Proofs.Ytfgmckfomckliaa
open Ab Go
noncomputable section
def hasN (l : List Int) (n : Int) : Bool := l.any (· == n)
theorem PCalls.arg {P : Program} {f : FuncId} {pre suf : List V} {a a' : V} {post : V → Prop} (h : PCalls P f (pre ++ a :: suf) post) (hv : VLe a' a) : PCalls P f (pre ++ a' :: suf) post := by
  refine h.vle (by simp) fun j hj => ?_
  by_cases h1 : j < pre.length
  · simp only [List.getD_eq_getElem?_getD, List.getElem?_append_left h1]; exact VLe.refl _
  · by_cases h2 : j = pre.length
    · subst h2; simpa using hv
    · obtain ⟨k, hk⟩ : ∃ k, j - pre.length = k + 1 := ⟨j - pre.length - 1, by omega⟩
      simp only [List.getD_eq_getElem?_getD, List.getElem?_append_right (Nat.le_of_not_lt h1), hk, List.getElem?_cons_succ]; exact VLe.refl _
theorem data_len (s : ByteArray) : s.data.toList.length = s.size := rfl
def less : List Int → List Int → Bool
  | [], [] => false
  | [], _ :: _ => true
  | _ :: _, [] => false
  | x :: a, y :: b => if x = y then less a b else decide (x < y)
def sameI (a b : List Int) : Bool := decide (a = b)
theorem take_eq_snoc {τ : Type} (d : τ) {a b : List τ} {i : Nat} (ha : i < a.length) (hb : i < b.length) (h : a.take i = b.take i) (e : a.getD i d = b.getD i d) : a.take (i + 1) = b.take (i + 1) := by
  rw [take_snoc d a i ha, take_snoc d b i hb, h, e]
inductive P52
  | e
  | l0 (x0_5 : Bool) (x0_6 : Int)
inductive R52
  | r0 (r0 : Bool)
noncomputable def T52 (p0 : List Int) (p1 : List Int) : P52 → Tr P52 R52
  | .e => (.go (.l0 ((p0.length : Int) == (p1.length : Int)) 0))
  | .l0 x0_5 x0_6 => let c1 := x0_6 < (p0.length : Int); (.br x0_5 (.br (decide c1) (.front [] [] (((decide (0 ≤ x0_6) && decide c1) && ((decide (0 ≤ x0_6) && decide (x0_6 < (p1.length : Int))) && true)) && true) true (.need (inR .i64 (x0_6 + (1 : Int))) (.go (.l0 ((p0.getD (x0_6).toNat tint.zero) == (p1.getD (x0_6).toNat tint.zero)) (x0_6 + (1 : Int)))))) (.out (.r0 x0_5))) (.lit false (.out (.r0 x0_5))))
noncomputable def g52 (p0 : List Int) (p1 : List Int) : P52 → List Item × St
  | .e => bd Try.f52 [tint.lst p0, tint.lst p1] 29
  | .l0 x0_5 x0_6 => (cutOf Try.f52 0, ⟨mk 31 [(0, tint.lst p0), (1, tint.lst p1), (5, .bool x0_5), (6, iI x0_6)], [], []⟩)
noncomputable def n52 : R52 → Exit × St
  | .r0 r0 => (.ret, ⟨mk 31 [(4, .bool r0)], [], []⟩)
noncomputable def v52 : R52 → V
  | .r0 r0 => .bool r0
theorem s52 (p0 : List Int) (p1 : List Int) : Sm 0 (g52 p0 p1) (T52 p0 p1) (n52)
  | .e => ⟨400, by kernel_rfl⟩
  | .l0 _ _ => ⟨400, by kernel_rfl⟩
theorem q52 : ∀ r, bodyQ Try.prog Try.f52 (· = v52 r) (n52 r).1 (n52 r).2
  | .r0 r0 => bq (.bool r0) (by kernel_rfl)
theorem w52 (p0 : List Int) (p1 : List Int) {post : V → Prop} (h : WQ (T52 p0 p1) v52 post .e) : PC 52 [tint.lst p0, tint.lst p1] post :=
  PCalls.wq Try.func52 (s52 p0 p1) q52 h
theorem e52 : ∀ xs w, (callFunc 52 xs).run Try.prog w = .ok (.enter 52 xs) w := PCalls.enters Try.func52 (c := Try.f52.body.getD .skip) (by kernel_rfl) (by kernel_rfl)
theorem c52 (a b : List Int) : PC 52 [tint.lst a, tint.lst b] (· = .bool (sameI a b)) := by
  refine PCalls.assume e52 0 (by simp) .list fun hl => ?_
  have hfalse : a ≠ b → ∀ i, WP Try.prog ⟨none, 0⟩ (T52 a b) (Ends' fun r => v52 r = .bool (sameI a b)) (.l0 false i) := fun h i => by
    have hs : sameI a b = false := by simpa [sameI] using h
    refine WP.step ?_
    simp only [T52, Go, Ends', v52, Tr.sure, SS]
    repeat' with_reducible first | intro _ | apply And.intro
    all_goals simp [hs, Go, Ends', v52, -List.getD_eq_getElem?_getD, *]
  refine w52 _ _ (WP.step ?_)
  simp only [T52, Tr.sure, Go]
  by_cases he : a.length = b.length
  · have e1 : ((a.length : Int) == (b.length : Int)) = true := by simp [he]
    rw [e1]
    refine WP.count (fun i => .l0 true (i : Int)) rfl a.length (fun i => a.take i = b.take i) rfl (fun i hi hI => ?_) fun hI => ?_
    · have hb : i < b.length := by omega
      have hr := inRi hi hl
      have hi' : (i : Int) < a.length := by omega
      have hb' : (i : Int) < b.length := by omega
      by_cases hx : a.getD i 0 = b.getD i 0
      · have hn := take_eq_snoc 0 hi hb hI hx
        refine WP.once ?_
        simp only [T52, Tr.sure, SS, hi', hb', hx, z1, beq_self_eq_true]
        repeat' with_reducible first | intro _ | apply And.intro
        all_goals simp [hr, hn, Go, Ends', v52, -List.getD_eq_getElem?_getD, *]
      · have hne : a ≠ b := fun h => hx (by rw [h])
        have hx2 : (a.getD i 0 == b.getD i 0) = false := by simpa using hx
        have hgo := hfalse hne ((i : Int) + 1)
        refine WP.once ?_
        simp only [T52, Tr.sure, SS, hi', hb', hx2, z1]
        repeat' with_reducible first | intro _ | apply And.intro
        all_goals first | exact (Or.inr hgo) | (simp [hr, Go, Ends', v52, -List.getD_eq_getElem?_getD, *]; done)
    · have heq : a = b := by rw [List.take_length, he, List.take_length] at hI; exact hI
      have hs : sameI a b = true := by simpa [sameI] using heq
      refine WP.step ?_
      simp only [T52, Go, Ends', v52, Tr.sure, SS, Int.lt_irrefl]
      repeat' with_reducible first | intro _ | apply And.intro
      all_goals simp_all [hs, Go, Ends', v52, -List.getD_eq_getElem?_getD]
  · have e1 : ((a.length : Int) == (b.length : Int)) = false := by simp; omega
    rw [e1]
    exact hfalse (fun h => he (by rw [h])) 0
end
noncomputable section
theorem sumS_next {l : List School} {i : Nat} : sumS l (i + 1) = sumS l i + (l.getD i zSchool).children := rfl
theorem half_in {b : Book} (h : OkBook b) : 1 ≤ b.price.tdiv 2 ∧ b.price.tdiv 2 ≤ 30 ∧ 2 * b.price.tdiv 2 = b.price := by
  have hp := h.price
  have he := h.even
  rw [Int.tmod_eq_emod_of_nonneg (by omega)] at he
  rw [Int.tdiv_eq_ediv_of_nonneg (by omega)]; omega
theorem fee_in {b : Book} (h : OkBook b) {n : Int} (hn : 0 ≤ n ∧ n ≤ 60) : 0 ≤ feeR b n ∧ feeR b n ≤ 1800 ∧ 0 ≤ n - n.tdiv 13 ∧ n - n.tdiv 13 ≤ 60 := by
  have hp := half_in h
  have h13 : 0 ≤ n - n.tdiv 13 ∧ n - n.tdiv 13 ≤ 60 := by rw [Int.tdiv_eq_ediv_of_nonneg (by omega)]; omega
  refine ⟨Int.mul_nonneg (by omega) h13.1, ?_, h13⟩
  have := Int.mul_le_mul hp.2.1 h13.2 h13.1 (by omega : (0 : Int) ≤ 30)
  unfold feeR; omega
theorem asked_ok {b : Book} {d : Int} (h : askedR b d = 0) : OkBook b ∧ 0 ≤ d ∧ d < b.days.length ∧ OkDay b (dayOf b d) := by
  unfold askedR at h
  split at h
  · rename_i h1; exact absurd h h1
  rename_i h1
  split at h
  · rename_i h2
    have hb := okBook (Decidable.not_not.1 h1)
    rw [within_iff] at h2
    exact ⟨hb, h2.1, by omega, hb.day _ (getD_mem zDay b.days d.toNat (by omega))⟩
  · cases h
def feesD (b : Book) (d : Int) : Int := feesR b (dayOf b d)
def pupilsD (b : Book) (d : Int) : Int := pupilsR (dayOf b d)
theorem sum_in {l : List School} (hl : ∀ s ∈ l, 1 ≤ s.children ∧ s.children ≤ 60) : ∀ i, i ≤ l.length → 0 ≤ sumS l i ∧ sumS l i ≤ 60 * i
  | 0, _ => ⟨Int.le_refl _, Int.le_refl _⟩
  | i + 1, hi => by
    have := sum_in hl i (by omega)
    have := hl _ (getD_mem zSchool l i (by omega))
    rw [sumS_next]; omega
theorem fees_next {b : Book} {l : List School} {i : Nat} : feesTo b l (i + 1) = feesTo b l i + feeR b (l.getD i zSchool).children := rfl
theorem fees_in {b : Book} (h : OkBook b) {l : List School} (hl : ∀ s ∈ l, 1 ≤ s.children ∧ s.children ≤ 60) : ∀ i, i ≤ l.length → 0 ≤ feesTo b l i ∧ feesTo b l i ≤ 1800 * i
  | 0, _ => ⟨Int.le_refl _, Int.le_refl _⟩
  | i + 1, hi => by
    have := fees_in h hl i (by omega)
    have := hl _ (getD_mem zSchool l i (by omega))
    have := fee_in h (n := (l.getD i zSchool).children) (by omega)
    rw [fees_next]; omega
theorem feesD_in {b : Book} {d : Int} (h : OkBook b) (hd : OkDay b (dayOf b d)) : 0 ≤ feesD b d ∧ feesD b d ≤ 5400 := by
  have := fees_in h hd.school _ (Nat.le_refl _)
  have := hd.ns
  unfold feesD feesR; omega
theorem pupils_in {b : Book} {d : Int} (hd : OkDay b (dayOf b d)) : 0 ≤ pupilsD b d ∧ pupilsD b d ≤ 60 := by
  have := sum_in hd.school _ (Nat.le_refl _)
  exact ⟨this.1, hd.all⟩
theorem extra_next {b : Book} {r : List Int} {i : Nat} : extraTo b r (i + 1) = extraTo b r i + r.getD i 0 * (b.rooms.getD i zRoom).more := rfl
theorem extra_in {b : Book} (h : OkBook b) {r : List Int} (hr : ∀ n ∈ r, 0 ≤ n ∧ n ≤ 100000) (hl : r.length ≤ b.rooms.length) : ∀ i, i ≤ r.length → 0 ≤ extraTo b r i ∧ extraTo b r i ≤ 2000000 * i ∧ (i < r.length → 0 ≤ r.getD i 0 * (b.rooms.getD i zRoom).more ∧ r.getD i 0 * (b.rooms.getD i zRoom).more ≤ 2000000)
  | i, hi => by
    have step : ∀ j, j < r.length → 0 ≤ r.getD j 0 * (b.rooms.getD j zRoom).more ∧ r.getD j 0 * (b.rooms.getD j zRoom).more ≤ 2000000 := fun j hj => by
      have q1 := hr _ (getD_mem 0 r j hj)
      have q2 := (h.room _ (getD_mem zRoom b.rooms j (by omega))).1
      refine ⟨Int.mul_nonneg q1.1 q2.1, ?_⟩
      have := Int.mul_le_mul q1.2 q2.2 q2.1 (by omega : (0 : Int) ≤ 100000)
      omega
    refine ⟨?_, ?_, step i⟩
    · induction i with
      | zero => exact Int.le_refl _
      | succ i ih => rw [extra_next]; have := ih (by omega); have := step i (by omega); omega
    · induction i with
      | zero => exact Int.le_refl _
      | succ i ih => rw [extra_next]; have := ih (by omega); have := step i (by omega); omega
end
noncomputable section
def between (c : Count) (most : Int) (off : Bool) : Span := if off = true then ⟨0, most⟩ else ⟨c.seen, min most (c.seen + c.miss)⟩
def rangeI (lo hi : Int) : List Int := (List.range (hi + 1 - lo).toNat).map fun (k : Nat) => lo + (k : Int)
theorem mem_rangeI {lo hi n : Int} : n ∈ rangeI lo hi ↔ lo ≤ n ∧ n ≤ hi := by
  simp only [rangeI, List.mem_map, List.mem_range]
  constructor
  · rintro ⟨k, hk, rfl⟩; omega
  · intro h; exact ⟨(n - lo).toNat, by omega, by omega⟩
theorem rangeI_len (lo hi : Int) : (rangeI lo hi).length = (hi + 1 - lo).toNat := by simp [rangeI]
def spanAt (b : Book) (D : Day) (all : Int) (off : List Int) (i : Nat) : Span := between (D.rooms.getD i zCount) (min all (b.rooms.getD i zRoom).full) (hasN off (i : Int))
def growL (s : Span) (l : List Int) : List (List Int) := (rangeI s.lo s.hi).map fun n => l ++ [n]
def roomsN (b : Book) (D : Day) (all : Int) (off : List Int) : Nat → List (List Int)
  | 0 => [[]]
  | i + 1 => (roomsN b D all off i).flatMap (growL (spanAt b D all off i))
def inRoomsR (b : Book) (d all : Int) (off : List Int) : List (List Int) := roomsN b (dayOf b d) all off b.rooms.length
theorem spanAt_in {b : Book} (h : OkBook b) {D : Day} (hD : OkDay b D) (all : Int) (off : List Int) {i : Nat} (hi : i < b.rooms.length) : 0 ≤ (spanAt b D all off i).lo ∧ (spanAt b D all off i).lo ≤ 60 ∧ (spanAt b D all off i).hi ≤ 60 := by
  have h1 := hD.room _ (getD_mem zCount D.rooms i (by rw [hD.many]; exact hi))
  have h2 := (h.room _ (getD_mem zRoom b.rooms i hi)).2
  unfold spanAt between
  split
  · simp only; omega
  · simp only; omega
theorem roomsN_in {b : Book} (h : OkBook b) {D : Day} (hD : OkDay b D) (all : Int) (off : List Int) : ∀ i, i ≤ b.rooms.length → ∀ l ∈ roomsN b D all off i, l.length = i ∧ ∀ n ∈ l, 0 ≤ n ∧ n ≤ 60
  | 0, _, l, hl => by simp only [roomsN, List.mem_singleton] at hl; subst hl; simp
  | i + 1, hi, l, hl => by
    simp only [roomsN, List.mem_flatMap, growL, List.mem_map, mem_rangeI] at hl
    obtain ⟨p, hp, n, hn, rfl⟩ := hl
    obtain ⟨h1, h2⟩ := roomsN_in h hD all off i (by omega) p hp
    have h3 := spanAt_in h hD all off (i := i) (by omega)
    refine ⟨by simp [h1], fun k hk => ?_⟩
    rcases List.mem_append.1 hk with q | q
    · exact h2 k q
    · simp only [List.mem_singleton] at q; omega
theorem growL_len {s : Span} (h : 0 ≤ s.lo ∧ s.hi ≤ 60) (l : List Int) : (growL s l).length ≤ 61 := by
  simp only [growL, List.length_map, rangeI_len]; omega
theorem roomsN_len {b : Book} (h : OkBook b) {D : Day} (hD : OkDay b D) (all : Int) (off : List Int) : ∀ i, i ≤ b.rooms.length → (roomsN b D all off i).length ≤ 61 ^ i
  | 0, _ => by simp [roomsN]
  | i + 1, hi => by
    have h1 := spanAt_in h hD all off (i := i) (by omega)
    have h2 := flat_le (l := roomsN b D all off i) (f := growL (spanAt b D all off i)) (b := 61) fun x _ => growL_len ⟨h1.1, h1.2.2⟩ x
    have h3 := roomsN_len h hD all off i (by omega)
    simp only [roomsN, Nat.pow_succ]; omega
theorem rooms_small {b : Book} (h : OkBook b) {D : Day} (hD : OkDay b D) (all : Int) (off : List Int) {i : Nat} (hi : i ≤ b.rooms.length) : (roomsN b D all off i).length ≤ 226981 := by
  have h1 := roomsN_len h hD all off i hi
  have h2 := h.nr
  rcases show i = 0 ∨ i = 1 ∨ i = 2 ∨ i = 3 by omega with rfl | rfl | rfl | rfl <;> simpa using Nat.le_trans h1 (by decide)
theorem scal_int (l : List Int) (r : Nat) : ((List.range 1).all fun j => (rowsOf tint l r j).scalar) = true := rfl
end
noncomputable section
def keyR (t : Truth) : List Int := [t.adults, t.children] ++ t.rooms
theorem tel_cat (xs l : List Int) {m : Nat} {cs : List V} (hm : xs.length = m) (hc : xs.flatMap tint.cells = cs) (r j : Nat) (hj : j < 1) : VLe (appC m (litC 1 m cs) (rowsOf tint l) r j) (rowsOf tint (xs ++ l) r j) := by
  subst hm; subst hc
  obtain rfl : j = 0 := by omega
  unfold appC
  by_cases h : r < xs.length
  · rw [if_pos h, litC_eq h, show (xs.flatMap tint.cells).getD (r * 1 + 0) uU = _ from flatMap_get tint (fun _ => rfl) xs r 0 h (by decide)]
    simp only [rowsOf, List.getD_eq_getElem?_getD, List.getElem?_append_left h]
    exact VLe.refl _
  · rw [if_neg h]
    simp only [rowsOf, List.getD_eq_getElem?_getD, List.getElem?_append_right (Nat.not_lt.1 h)]
    exact VLe.refl _
theorem tel_cat2 (a b : Int) (l : List Int) (r j : Nat) (hj : j < 1) : VLe (appC 2 (litC 1 2 [iI a, iI b]) (rowsOf tint l) r j) (rowsOf tint ([a, b] ++ l) r j) := tel_cat [a, b] l rfl rfl r j hj
theorem tel_len {τ : Type} (E : Ty τ) (l : List τ) {n : Nat} (hn : l.length = n) : VLe (.list E.w n (rowsOf E l)) (E.lst l) := by subst hn; exact VLe.refl _
theorem len2 (a b : Int) (l : List Int) : VLe (.list 1 (2 + l.length) (rowsOf tint ([a, b] ++ l))) (tint.lst ([a, b] ++ l)) := tel_len tint _ (by simp; omega)
inductive P77
  | e
inductive R77
  | r0 (r0 : List Int)
noncomputable def T77 (t : Truth) : P77 → Tr P77 R77
  | .e => let c1 := ([t.adults, t.children] : List Int) ++ t.rooms; let c2 := decide ((2 + t.rooms.length) ≤ (2 + t.rooms.length)); let c3 : V := .list 1 (2 + t.rooms.length) (rowsOf tint c1); (.need ((decide (2 = 2) && decide (2 + t.rooms.length ≤ 4294967296)) && true) (.scal (fun r => (List.range 1).all fun j => ((rowsOf tint t.rooms) r j).scalar) (.telb 1 1 (2 + t.rooms.length) (appC 2 (litC 1 2 [iI t.adults, iI t.children]) (rowsOf tint t.rooms)) (rowsOf tint c1) (.frz 1 (c2 && (c2 && true)) (.vle 2 c3 (tint.lst c1) (.vle 10 c3 (tint.lst c1) (.out (.r0 c1))))))))
noncomputable def g77 (t : Truth) : P77 → List Item × St
  | .e => bd Try.f53 [.agg [iI t.adults, iI t.children, tint.lst t.rooms]] 10
noncomputable def n77 : R77 → Exit × St
  | .r0 r0 => (.ret, ⟨mk 11 [(2, tint.lst r0)], [], []⟩)
noncomputable def v77 : R77 → V
  | .r0 r0 => tint.lst r0
theorem s77 (t : Truth) : Sm 0 (g77 t) (T77 t) (n77)
  | .e => ⟨400, by kernel_rfl⟩
theorem q77 : ∀ r, bodyQ Try.prog Try.f53 (· = v77 r) (n77 r).1 (n77 r).2
  | .r0 r0 => bq (tint.lst r0) (by kernel_rfl)
theorem w77 (t : Truth) {post : V → Prop} (h : WQ (T77 t) v77 post .e) : PC 53 [.agg [iI t.adults, iI t.children, tint.lst t.rooms]] post :=
  PCalls.wq Try.func53 (s77 t) q77 h
theorem c77 (t : Truth) (h : t.rooms.length ≤ 1000) : PC 53 [.agg (tTruth.cells t)] (· = tint.lst (keyR t)) := by
  have h1 : 2 + t.rooms.length ≤ 4294967296 := by omega
  refine w77 t (WP.step ?_)
  simp only [T77, Go, Ends', v77, Tr.sure, SS]
  repeat' with_reducible first | intro _ | apply And.intro
  all_goals first | exact (by with_reducible exact scal_int _ _) | exact (by with_reducible exact tel_cat2 _ _ _ _ _ ‹_›) | exact (by with_reducible exact len2 _ _ _) | (simp [h1, keyR, Go, Ends', v77, -List.getD_eq_getElem?_getD, *]; done)
def doorS (b : Book) (d : Int) : Span := between (dayOf b d).door 60 false
def leftR (b : Book) (d n : Int) (l : List Int) : Int := (dayOf b d).taken - feesD b d - extraR b l - b.price.tdiv 2 * (n - pupilsD b d)
def agreeAt (b : Book) (d n : Int) (l : List Int) : List Truth :=
  if 0 ≤ leftR b d n l ∧ (leftR b d n l).tmod (b.price.tdiv 2) = 0 ∧ (leftR b d n l).tdiv (b.price.tdiv 2) ≤ n - pupilsD b d then [⟨(leftR b d n l).tdiv (b.price.tdiv 2), n - pupilsD b d - (leftR b d n l).tdiv (b.price.tdiv 2), l⟩] else []
def agreeN (b : Book) (d n : Int) : List Truth := (inRoomsR b d n []).flatMap (agreeAt b d n)
def firstN (b : Book) (d : Int) : Int := max (doorS b d).lo (pupilsD b d)
def agreeD (b : Book) (d : Int) : List Truth := (rangeI (firstN b d) (doorS b d).hi).flatMap (agreeN b d)
theorem doorS_in {b : Book} {d : Int} (hd : OkDay b (dayOf b d)) : 0 ≤ (doorS b d).lo ∧ (doorS b d).lo ≤ 60 ∧ (doorS b d).hi ≤ 60 := by
  have h1 := hd.door
  unfold doorS between
  rw [if_neg (by simp)]
  simp only; omega
theorem rangeI_get {lo hi : Int} {i : Nat} (hi' : i < (rangeI lo hi).length) : (rangeI lo hi).getD i 0 = lo + (i : Int) := by
  rw [rangeI_len] at hi'
  simp only [rangeI, List.getD_eq_getElem?_getD, List.getElem?_map, List.getElem?_range hi', Option.map_some, Option.getD_some]
theorem agreeAt_len (b : Book) (d n : Int) (l : List Int) : (agreeAt b d n l).length ≤ 1 := by unfold agreeAt; split <;> simp
theorem inRooms_in {b : Book} {d : Int} (h : OkBook b) (hd : OkDay b (dayOf b d)) (all : Int) (off : List Int) : ∀ l ∈ inRoomsR b d all off, l.length = b.rooms.length ∧ ∀ n ∈ l, 0 ≤ n ∧ n ≤ 60 :=
  roomsN_in h hd all off _ (Nat.le_refl _)
theorem inRooms_len {b : Book} {d : Int} (h : OkBook b) (hd : OkDay b (dayOf b d)) (all : Int) (off : List Int) : (inRoomsR b d all off).length ≤ 226981 := rooms_small h hd all off (Nat.le_refl _)
theorem agreeN_len {b : Book} {d : Int} (h : OkBook b) (hd : OkDay b (dayOf b d)) (n : Int) : (agreeN b d n).length ≤ 226981 := by
  have h1 := flat_le (l := inRoomsR b d n []) (f := agreeAt b d n) (b := 1) fun l _ => agreeAt_len b d n l
  have h2 := inRooms_len h hd n []
  unfold agreeN; omega
theorem extraR_in {b : Book} (h : OkBook b) {l : List Int} (h1 : l.length = b.rooms.length) (h2 : ∀ n ∈ l, 0 ≤ n ∧ n ≤ 60) : 0 ≤ extraR b l ∧ extraR b l ≤ 6000000 := by
  have := extra_in h (r := l) (fun n hn => by have := h2 n hn; omega) (by omega) l.length (Nat.le_refl _)
  have := h.nr
  unfold extraR; omega
theorem half_mul {b : Book} (h : OkBook b) {n : Int} (hn : 0 ≤ n ∧ n ≤ 60) : 0 ≤ b.price.tdiv 2 * n ∧ b.price.tdiv 2 * n ≤ 1800 ∧ 0 ≤ b.price * n ∧ b.price * n ≤ 3600 := by
  have hp := half_in h
  have h1 := h.price
  have q1 := Int.mul_le_mul hp.2.1 hn.2 hn.1 (by omega : (0 : Int) ≤ 30)
  have q2 := Int.mul_le_mul h1.2 hn.2 hn.1 (by omega : (0 : Int) ≤ 60)
  refine ⟨Int.mul_nonneg (by omega) hn.1, by omega, Int.mul_nonneg (by omega) hn.1, by omega⟩
end
noncomputable section
def explainedR (b : Book) (d e : Int) : List Truth × Int := if e ≠ 0 then ([], e) else if (agreeD b d).length = 0 then ([], 8) else (agreeD b d, 0)
theorem explained_cases (b : Book) (d e : Int) : (∃ f, explainedR b d e = ([], f) ∧ f ≠ 0) ∨ (e = 0 ∧ explainedR b d e = (agreeD b d, 0) ∧ 0 < (agreeD b d).length) := by
  unfold explainedR
  by_cases he : e = 0
  · rw [if_neg (fun q => q he)]
    by_cases hz : (agreeD b d).length = 0
    · rw [if_pos hz]; exact .inl ⟨8, rfl, by decide⟩
    · rw [if_neg hz]; exact .inr ⟨he, rfl, by omega⟩
  · rw [if_pos he]; exact .inl ⟨e, rfl, he⟩
theorem agreeD_in {b : Book} {d : Int} (h : OkBook b) (hd : OkDay b (dayOf b d)) : ∀ t ∈ agreeD b d, t.rooms.length = b.rooms.length ∧ (∀ n ∈ t.rooms, 0 ≤ n ∧ n ≤ 60) ∧ (0 ≤ t.adults ∧ t.adults ≤ 60) ∧ 0 ≤ t.children ∧ t.children ≤ 60 := fun t ht => by
  simp only [agreeD, agreeN, List.mem_flatMap, mem_rangeI] at ht
  obtain ⟨n, hn, l, hl, ht⟩ := ht
  obtain ⟨q1, q2⟩ := inRooms_in h hd n [] l hl
  have hdo := doorS_in hd
  have hpu := pupils_in hd
  have hf : pupilsD b d ≤ firstN b d := by unfold firstN; omega
  have hp := half_in h
  unfold agreeAt at ht
  split at ht
  · rename_i hc
    simp only [List.mem_singleton] at ht
    subst ht
    have := Int.tdiv_nonneg hc.1 (by omega : (0 : Int) ≤ b.price.tdiv 2)
    exact ⟨q1, q2, by simp only; omega, by simp only; omega⟩
  · cases ht
theorem agreeD_len {b : Book} {d : Int} (h : OkBook b) (hd : OkDay b (dayOf b d)) : (agreeD b d).length ≤ 14000000 := by
  have h1 := flat_le (l := rangeI (firstN b d) (doorS b d).hi) (f := agreeN b d) (b := 226981) fun n _ => agreeN_len h hd n
  have h2 := doorS_in hd
  have h3 := pupils_in hd
  rw [rangeI_len] at h1
  have h4 : 0 ≤ firstN b d := by unfold firstN; omega
  unfold agreeD; omega
def couldF (b : Book) (d n : Int) (s : Int × Int) (l : List Int) : Int × Int :=
  (if s.1 < 0 ∨ b.price.tdiv 2 * (n - pupilsD b d) + (feesD b d + extraR b l) < s.1 then b.price.tdiv 2 * (n - pupilsD b d) + (feesD b d + extraR b l) else s.1, max s.2 (b.price * (n - pupilsD b d) + (feesD b d + extraR b l)))
def couldN (b : Book) (d : Int) (s : Int × Int) (n : Int) : Int × Int := (inRoomsR b d n []).foldl (couldF b d n) s
def couldD (b : Book) (d : Int) : Int × Int := (rangeI (firstN b d) (doorS b d).hi).foldl (couldN b d) (-1, 0)
def couldR (b : Book) (d : Int) : Span × Int := if askedR b d ≠ 0 then (⟨0, 0⟩, askedR b d) else if (couldD b d).1 < 0 then (⟨0, 0⟩, 8) else (⟨(couldD b d).1, (couldD b d).2⟩, 0)
end
noncomputable section
theorem drop_get {τ : Type} (d : τ) (l : List τ) (i : Nat) : (l.drop 1).getD i d = l.getD (i + 1) d := by
  simp only [List.getD_eq_getElem?_getD, List.getElem?_drop, Nat.add_comm]
def spanF (at_ : Int) (s : Int × Int) (t : Truth) : Int × Int := (min s.1 ((keyR t).getD at_.toNat 0), max s.2 ((keyR t).getD at_.toNat 0))
def spanS (all : List Truth) (at_ : Int) (i : Nat) : Int × Int := ((all.drop 1).take i).foldl (spanF at_) ((keyR (all.getD 0 zTruth)).getD at_.toNat 0, (keyR (all.getD 0 zTruth)).getD at_.toNat 0)
def spanR (all : List Truth) (at_ : Int) : Span := ⟨(spanS all at_ (all.length - 1)).1, (spanS all at_ (all.length - 1)).2⟩
def bestF (best t : Truth) : Truth := if less (keyR t) (keyR best) = true then t else best
def bestS (all : List Truth) (i : Nat) : Truth := ((all.drop 1).take i).foldl bestF (all.getD 0 zTruth)
def bestD (all : List Truth) : Truth := bestS all (all.length - 1)
theorem bestS_next {all : List Truth} {i : Nat} (hi : i + 1 < all.length) : bestS all (i + 1) = bestF (bestS all i) (all.getD (i + 1) zTruth) := by
  unfold bestS
  rw [foldl_take bestF _ zTruth (all.drop 1) i (by simp; omega), drop_get]
theorem bestS_mem {all : List Truth} (h0 : 0 < all.length) : ∀ i, i < all.length → bestS all i ∈ all
  | 0, _ => getD_mem zTruth all 0 h0
  | i + 1, hi => by
    rw [bestS_next hi]
    unfold bestF
    split
    · exact getD_mem zTruth all (i + 1) hi
    · exact bestS_mem h0 i (by omega)
theorem bestD_mem {all : List Truth} (h0 : 0 < all.length) : bestD all ∈ all := bestS_mem h0 _ (by omega)
def firstT (b : Book) (d : Int) : Truth × Int × Int :=
  if (explainedR b d (askedR b d)).2 ≠ 0 then (⟨0, 0, []⟩, 0, (explainedR b d (askedR b d)).2) else (bestD (agreeD b d), ((agreeD b d).length : Int), 0)
end
noncomputable section
def visR (b : Book) (d : Int) : Span × Span × Int :=
  if (explainedR b d (askedR b d)).2 ≠ 0 then (⟨0, 0⟩, ⟨0, 0⟩, (explainedR b d (askedR b d)).2) else (spanR (agreeD b d) 0, spanR (agreeD b d) 1, 0)
def roomE (b : Book) (d r : Int) : Int := if askedR b d ≠ 0 then askedR b d else if within r 0 ((b.rooms.length : Int) - 1) = true then 0 else 4
def roomR (b : Book) (d r : Int) : Span × Int :=
  if (explainedR b d (roomE b d r)).2 ≠ 0 then (⟨0, 0⟩, (explainedR b d (roomE b d r)).2) else (spanR (agreeD b d) (2 + r), 0)
def splitR (b : Book) (d : Int) : (Nat → Int) × Int :=
  if (firstT b d).2.2 ≠ 0 then (fn4 0 0 0 0, (firstT b d).2.2) else (fn4 (b.price * (firstT b d).1.adults) (b.price.tdiv 2 * (firstT b d).1.children) (feesD b d) (extraR b (firstT b d).1.rooms), 0)
def alikeR (t u : Truth) : Bool := sameI (keyR t) (keyR u)
inductive P24
  | e
inductive R24
  | r0 (r0 : Bool)
noncomputable def T24 (t : Truth) (u : Truth) : P24 → Tr P24 R24
  | .e => (.front [(1, 53, [.agg [iI t.adults, iI t.children, tint.lst t.rooms]], tint.lst (keyR t))] [] true true (.call 53 [.agg [iI u.adults, iI u.children, tint.lst u.rooms]] (tint.lst (keyR u)) true true (.call 52 [tint.lst (keyR t), tint.lst (keyR u)] (.bool (sameI (keyR t) (keyR u))) true true (.out (.r0 (sameI (keyR t) (keyR u)))))))
noncomputable def g24 (t : Truth) (u : Truth) : P24 → List Item × St
  | .e => bd Try.f28 [.agg [iI t.adults, iI t.children, tint.lst t.rooms], .agg [iI u.adults, iI u.children, tint.lst u.rooms]] 8
noncomputable def n24 : R24 → Exit × St
  | .r0 r0 => (.ret, ⟨mk 10 [(4, .bool r0)], [], []⟩)
noncomputable def v24 : R24 → V
  | .r0 r0 => .bool r0
theorem s24 (t : Truth) (u : Truth) : Sm 0 (g24 t u) (T24 t u) (n24)
  | .e => ⟨400, by kernel_rfl⟩
theorem q24 : ∀ r, bodyQ Try.prog Try.f28 (· = v24 r) (n24 r).1 (n24 r).2
  | .r0 r0 => bq (.bool r0) (by kernel_rfl)
theorem w24 (t : Truth) (u : Truth) {post : V → Prop} (h : WQ (T24 t u) v24 post .e) : PC 28 [.agg [iI t.adults, iI t.children, tint.lst t.rooms], .agg [iI u.adults, iI u.children, tint.lst u.rooms]] post :=
  PCalls.wq Try.func28 (s24 t u) q24 h
theorem c24 (t u : Truth) (ht : t.rooms.length ≤ 1000) (hu : u.rooms.length ≤ 1000) : PC 28 [.agg (tTruth.cells t), .agg (tTruth.cells u)] (· = .bool (alikeR t u)) := by
  refine w24 t u (WP.step ?_)
  simp only [T24, Go, Ends', v24, Tr.sure, SS]
  repeat' with_reducible first | intro _ | apply And.intro
  all_goals first | exact (c77 t ht) | exact (c77 u hu) | exact (c52 _ _) | (simp [alikeR, Go, Ends', v24, -List.getD_eq_getElem?_getD, *]; done)
def sameE (p q : List Entry) : Bool := decide (p = q)
inductive P35
  | e
  | l0 (x0_5 : Int)
inductive R35
  | r0 (r0 : Bool)
noncomputable def T35 (p : List Entry) (q : List Entry) : P35 → Tr P35 R35
  | .e => (.br ((p.length : Int) != (q.length : Int)) (.out (.r0 false)) (.go (.l0 0)))
  | .l0 x0_5 => let c1 := q.getD (x0_5).toNat tEntry.zero; let c2 := p.getD (x0_5).toNat tEntry.zero; (.br (decide (x0_5 < (p.length : Int))) (.front [] [] (((decide (0 ≤ x0_5) && decide (x0_5 < (p.length : Int))) && ((decide (0 ≤ x0_5) && decide (x0_5 < (q.length : Int))) && true)) && true) true (.br (!((c2.day == c1.day) && ((c2.of == c1.of) && true))) (.out (.r0 false)) (.need (inR .i64 (x0_5 + (1 : Int))) (.go (.l0 (x0_5 + (1 : Int))))))) (.out (.r0 true)))
noncomputable def g35 (p : List Entry) (q : List Entry) : P35 → List Item × St
  | .e => bd Try.f29 [tEntry.lst p, tEntry.lst q] 24
  | .l0 x0_5 => (cutOf Try.f29 0, ⟨mk 26 [(0, tEntry.lst p), (1, tEntry.lst q), (5, iI x0_5)], [], []⟩)
noncomputable def n35 : R35 → Exit × St
  | .r0 r0 => (.ret, ⟨mk 26 [(4, .bool r0)], [], []⟩)
noncomputable def v35 : R35 → V
  | .r0 r0 => .bool r0
theorem s35 (p : List Entry) (q : List Entry) : Sm 0 (g35 p q) (T35 p q) (n35)
  | .e => ⟨400, by kernel_rfl⟩
  | .l0 _ => ⟨400, by kernel_rfl⟩
theorem q35 : ∀ r, bodyQ Try.prog Try.f29 (· = v35 r) (n35 r).1 (n35 r).2
  | .r0 r0 => bq (.bool r0) (by kernel_rfl)
theorem w35 (p : List Entry) (q : List Entry) {post : V → Prop} (h : WQ (T35 p q) v35 post .e) : PC 29 [tEntry.lst p, tEntry.lst q] post :=
  PCalls.wq Try.func29 (s35 p q) q35 h
theorem e35 : ∀ xs w, (callFunc 29 xs).run Try.prog w = .ok (.enter 29 xs) w := PCalls.enters Try.func29 (c := Try.f29.body.getD .skip) (by kernel_rfl) (by kernel_rfl)
theorem c35 (p q : List Entry) : PC 29 [tEntry.lst p, tEntry.lst q] (· = .bool (sameE p q)) := by
  refine PCalls.assume e35 0 (by simp) .list fun hl => ?_
  by_cases he : p.length = q.length
  · have he' : (p.length : Int) = (q.length : Int) := by omega
    refine w35 p q (WP.step ?_)
    simp only [T35, Go, Ends', v35, Tr.sure, SS, he']
    repeat' with_reducible first | intro _ | apply And.intro
    refine WP.count (fun i => .l0 (i : Int)) rfl p.length (fun i => p.take i = q.take i) rfl (fun i hi hI => ?_) fun hI => ?_
    · have hb : i < q.length := by omega
      have hr := inRi hi hl
      have hi' : (i : Int) < p.length := by omega
      have hb' : (i : Int) < q.length := by omega
      have hce : ∀ x y : Entry, (((x.day == y.day) && ((x.of == y.of) && true)) = true) ↔ x = y := fun x y => by cases x; cases y; simp [Entry.mk.injEq]
      by_cases hx : p.getD i zEntry = q.getD i zEntry
      · have hn := take_eq_snoc zEntry hi hb hI hx
        have hx1 := (hce _ _).2 hx
        have hx2 := hx
        generalize hX : p.getD i zEntry = X at *
        generalize hY : q.getD i zEntry = Y at *
        refine WP.once ?_
        simp only [T35, Tr.sure, SS, hi', hb', z11, hX, hY]
        repeat' with_reducible first | intro _ | apply And.intro
        all_goals first | (simp [hr, hn, hx, Go, Ends', v35, -List.getD_eq_getElem?_getD, *]; done) | (simp_all [hr, hn, hx, Go, Ends', v35, -List.getD_eq_getElem?_getD]; done)
      · have hne : p ≠ q := fun h => hx (by rw [h])
        have hs : sameE p q = false := by simpa [sameE] using hne
        have hx1 := Bool.eq_false_iff.2 (fun h => hx ((hce _ _).1 h))
        generalize hX : p.getD i zEntry = X at *
        generalize hY : q.getD i zEntry = Y at *
        refine WP.once ?_
        simp only [T35, Tr.sure, SS, hi', hb', z11, hX, hY]
        repeat' with_reducible first | intro _ | apply And.intro
        all_goals first | (simp [hr, hs, Go, Ends', v35, -List.getD_eq_getElem?_getD, *]; done) | (simp_all [hr, hs, Go, Ends', v35, -List.getD_eq_getElem?_getD]; done)
    · have heq : p = q := by rw [List.take_length, he, List.take_length] at hI; exact hI
      have hs : sameE p q = true := by simpa [sameE] using heq
      refine WP.step ?_
      simp only [T35, Go, Ends', v35, Tr.sure, SS, Int.lt_irrefl]
      repeat' with_reducible first | intro _ | apply And.intro
      all_goals simp_all [hs, Go, Ends', v35, -List.getD_eq_getElem?_getD]
  · have he' : ¬ (p.length : Int) = (q.length : Int) := by omega
    have hs : sameE p q = false := by simp only [sameE, decide_eq_false_iff_not]; exact fun h => he (by rw [h])
    refine w35 p q (WP.step ?_)
    simp only [T35, Go, Ends', v35, Tr.sure, SS, he']
    repeat' with_reducible first | intro _ | apply And.intro
    all_goals simp [hs, Go, Ends', v35, -List.getD_eq_getElem?_getD, *]
end
noncomputable section
theorem hasN_iff {l : List Int} {n : Int} : hasN l n = true ↔ n ∈ l := by simp [hasN]
def addNew (next : List Int) (x : Int) : List Int := if hasN next x = true then next else next ++ [x]
def addAll (next l : List Int) : List Int := l.foldl addNew next
theorem mem_addNew {l : List Int} {x y : Int} : y ∈ addNew l x ↔ y ∈ l ∨ y = x := by
  unfold addNew
  split
  · rename_i h
    rw [hasN_iff] at h
    exact ⟨.inl, fun q => q.elim id fun e => by rw [e]; exact h⟩
  · simp
theorem mem_addAll {y : Int} : ∀ {l next : List Int}, y ∈ addAll next l ↔ y ∈ next ∨ y ∈ l
  | [], next => by simp [addAll]
  | x :: l, next => by
    show y ∈ addAll (addNew next x) l ↔ _
    rw [mem_addAll, mem_addNew]; simp [or_assoc]
def candL (more : Int) (s : Span) (p : Int) : List Int := (rangeI s.lo s.hi).map fun n => p + n * more
def extN (b : Book) (D : Day) (all : Int) (off : List Int) : Nat → List Int
  | 0 => [0]
  | i + 1 => addAll [] ((extN b D all off i).flatMap (candL (b.rooms.getD i zRoom).more (spanAt b D all off i)))
def extrasR (b : Book) (d all : Int) (off : List Int) : List Int := extN b (dayOf b d) all off b.rooms.length
theorem candL_len {more p : Int} {s : Span} (h : 0 ≤ s.lo ∧ s.hi ≤ 60) : (candL more s p).length ≤ 61 := by simp only [candL, List.length_map, rangeI_len]; omega
theorem flat_snoc {τ υ : Type} (f : τ → List υ) (d : τ) (l : List τ) (i : Nat) (hi : i < l.length) : (l.take (i + 1)).flatMap f = (l.take i).flatMap f ++ f (l.getD i d) := by
  rw [take_snoc d l i hi, List.flatMap_append]; simp
end
noncomputable section
def picks (below : Int) : Nat → List (List Int)
  | 0 => [[]]
  | n + 1 => (picks below n).flatMap fun l => (List.range (below - ((if l.length = 0 then -1 else l.getD (l.length - 1) 0) + 1)).toNat).map fun (k : Nat) => l ++ [(if l.length = 0 then -1 else l.getD (l.length - 1) 0) + 1 + (k : Int)]
def lastI (l : List Int) : Int := if l.length = 0 then -1 else l.getD (l.length - 1) 0
def pickF (b : Int) (l : List Int) : List (List Int) := (List.range (b - (lastI l + 1)).toNat).map fun (k : Nat) => l ++ [lastI l + 1 + (k : Int)]
theorem picks_succ (b : Int) (n : Nat) : picks b (n + 1) = (picks b n).flatMap (pickF b) := rfl
theorem lastI_mem {l : List Int} (h : l ≠ []) : lastI l ∈ l := by
  have : l.length ≠ 0 := by simpa using h
  rw [lastI, if_neg this, List.getD_eq_getElem?_getD, List.getElem?_eq_getElem (by omega)]; exact List.getElem_mem _
structure Pick (b : Int) (n : Nat) (l : List Int) : Prop where
  len : l.length = n
  asc : l.Pairwise (· < ·)
  lo : ∀ x ∈ l, 0 ≤ x
  hi : ∀ x ∈ l, x < b
theorem Pick.last {b : Int} {n : Nat} {l : List Int} (h : Pick b n l) : -1 ≤ lastI l := by
  by_cases e : l = []
  · subst e; decide
  · have := h.lo _ (lastI_mem e); omega
theorem le_last {l : List Int} (h : l.Pairwise (· < ·)) : ∀ x ∈ l, x ≤ lastI l := by
  intro x hx
  obtain ⟨i, hi, rfl⟩ := List.getElem_of_mem hx
  have hn : l.length ≠ 0 := by omega
  rw [lastI, if_neg hn, List.getD_eq_getElem?_getD, List.getElem?_eq_getElem (show l.length - 1 < l.length by omega), Option.getD_some]
  rcases Nat.lt_or_ge i (l.length - 1) with q | q
  · exact Int.le_of_lt (List.pairwise_iff_getElem.1 h i (l.length - 1) hi (by omega) q)
  · have : i = l.length - 1 := by omega
    subst this; exact Int.le_refl _
theorem mem_pickF {b : Int} {l m : List Int} : m ∈ pickF b l ↔ ∃ x, lastI l < x ∧ x < b ∧ m = l ++ [x] := by
  simp only [pickF, List.mem_map, List.mem_range]
  constructor
  · rintro ⟨k, hk, rfl⟩; exact ⟨_, by omega, by omega, rfl⟩
  · rintro ⟨x, h1, h2, rfl⟩; exact ⟨(x - (lastI l + 1)).toNat, by omega, by congr 2; omega⟩
theorem picks_ok (b : Int) : ∀ (n : Nat) (l : List Int), l ∈ picks b n ↔ Pick b n l
  | 0, l => by
    simp only [picks, List.mem_singleton]
    exact ⟨fun h => by subst h; exact ⟨rfl, .nil, by simp, by simp⟩, fun h => List.eq_nil_of_length_eq_zero h.len⟩
  | n + 1, l => by
    rw [picks_succ, List.mem_flatMap]
    constructor
    · rintro ⟨m, hm, hl⟩
      obtain ⟨x, h1, h2, rfl⟩ := mem_pickF.1 hl
      have hp := (picks_ok b n m).1 hm
      refine ⟨by simp [hp.len], ?_, fun y hy => ?_, fun y hy => ?_⟩
      · rw [List.pairwise_append]
        exact ⟨hp.asc, by simp, fun a ha c hc => by simp only [List.mem_singleton] at hc; subst hc; have := le_last hp.asc a ha; omega⟩
      · rcases List.mem_append.1 hy with q | q
        · exact hp.lo y q
        · simp only [List.mem_singleton] at q; subst q; have := hp.last; omega
      · rcases List.mem_append.1 hy with q | q
        · exact hp.hi y q
        · simp only [List.mem_singleton] at q; subst q; exact h2
    · intro h
      have hne : l ≠ [] := by intro e; subst e; have := h.len; simp at this
      obtain ⟨m, x, rfl⟩ : ∃ m x, l = m ++ [x] := ⟨l.dropLast, l.getLast hne, (List.dropLast_concat_getLast hne).symm⟩
      have hp := List.pairwise_append.1 h.asc
      have hm : Pick b n m := ⟨by have := h.len; simp at this; exact this, hp.1, fun y hy => h.lo y (List.mem_append_left _ hy), fun y hy => h.hi y (List.mem_append_left _ hy)⟩
      refine ⟨m, (picks_ok b n m).2 hm, mem_pickF.2 ⟨x, ?_, h.hi x (by simp), rfl⟩⟩
      by_cases e : m = []
      · subst e
        have := h.lo x (by simp)
        simp [lastI]; omega
      · exact hp.2.2 _ (lastI_mem e) x (by simp)
def payOk (b : Book) (d n p : Int) : Bool :=
  decide (0 ≤ (dayOf b d).taken - feesD b d - p - b.price.tdiv 2 * (n - pupilsD b d)) && (decide (((dayOf b d).taken - feesD b d - p - b.price.tdiv 2 * (n - pupilsD b d)).tmod (b.price.tdiv 2) = 0) && decide (((dayOf b d).taken - feesD b d - p - b.price.tdiv 2 * (n - pupilsD b d)).tdiv (b.price.tdiv 2) ≤ n - pupilsD b d))
def doorO (b : Book) (d : Int) (off : List Int) : Span := between (dayOf b d).door 60 (hasN off (-1))
def firstO (b : Book) (d : Int) (off : List Int) : Int := max (doorO b d off).lo (pupilsD b d)
def explAt (b : Book) (d : Int) (off : List Int) (n : Int) : Bool := (decide (0 < (extrasR b d n off).length) && hasN off 3) || (extrasR b d n off).any (payOk b d n)
def explainsR (b : Book) (d : Int) (off : List Int) : Bool := (rangeI (firstO b d off) (doorO b d off).hi).any (explAt b d off)
end
noncomputable section
theorem VLe.at {v v' : V} (h : VLe v v') (pre suf : List V) (j : Nat) : VLe ((pre ++ v :: suf).getD j uU) ((pre ++ v' :: suf).getD j uU) := by
  rcases Nat.lt_trichotomy j pre.length with q | q | q
  · simp only [List.getD_eq_getElem?_getD, List.getElem?_append_left q]; exact VLe.refl _
  · subst q; simpa [List.getD_eq_getElem?_getD] using h
  · obtain ⟨d, rfl⟩ : ∃ d, j = pre.length + d + 1 := ⟨j - pre.length - 1, by omega⟩
    rw [show pre.length + d + 1 = pre.length + (d + 1) by omega]
    simp only [List.getD_eq_getElem?_getD, List.getElem?_append_right (Nat.le_add_right _ _), Nat.add_sub_cancel_left, List.getElem?_cons_succ]; exact VLe.refl _
def entriesR (b : Book) : List Int := -1 :: ((List.range b.rooms.length).map fun (k : Nat) => (k : Int)) ++ [3]
theorem entries_len (b : Book) : (entriesR b).length = b.rooms.length + 2 := by simp [entriesR]
def missC (more : Int) (c : Count) : Count := ⟨c.seen, c.miss + more⟩
def missD (more : Int) (D : Day) : Day := ⟨D.schools, missC more D.door, D.rooms.map (missC more), D.taken⟩
def missingR (b : Book) (d more : Int) : Book := ⟨b.price, b.rooms, b.days.set d.toNat (missD more (dayOf b d))⟩
end
noncomputable section
def missedR (b : Book) (d : Int) : Int × Int :=
  if askedR b d ≠ 0 then (0, askedR b d) else match firstI (fun (m : Nat) => explainsR (missingR b d m) d []) 0 (List.range 61) with
    | some m => ((m : Int), 0)
    | none => (0, 9)
def allP (k : Int) (n : Nat) : List (List Int) := (List.range n).flatMap fun m => picks k m
theorem find_firstI {τ : Type} (p : τ → Bool) (d : τ) : ∀ (l : List τ) (i j : Nat), firstI p i l = some j → ∃ q, j = i + q ∧ l.find? p = some (l.getD q d)
  | [], _, _, h => by cases h
  | x :: l, i, j, h => by
    simp only [firstI] at h
    by_cases hx : p x = true
    · rw [if_pos hx] at h; cases h
      exact ⟨0, rfl, by rw [List.find?_cons_of_pos hx]; rfl⟩
    · rw [if_neg hx] at h
      obtain ⟨q, h1, h2⟩ := find_firstI p d l (i + 1) j h
      exact ⟨q + 1, by omega, by rw [List.find?_cons_of_neg hx, h2]; rfl⟩
theorem find_none {τ : Type} (p : τ → Bool) (l : List τ) (h : firstI p 0 l = none) : l.find? p = none := by
  rw [List.find?_eq_none]; intro x hx hp
  have := any_of_none h
  rw [List.any_eq_false] at this
  exact this x hx hp
def offOf (b : Book) (l : List Int) : List Int := l.map fun i => (entriesR b).getD i.toNat 0
def offR (b : Book) (d : Int) : List Int := match (allP (entriesR b).length (entriesR b).length).find? fun l => explainsR b d (offOf b l) with
  | some l => offOf b l
  | none => entriesR b
theorem offOf_len (b : Book) (l : List Int) : (offOf b l).length = l.length := by simp [offOf]
theorem off_len (b : Book) (d : Int) (h : OkBook b) : (offR b d).length ≤ 5 := by
  have h3 := h.nr
  have hl := entries_len b
  unfold offR
  split
  · rename_i l hl
    have hm := List.mem_of_find?_eq_some hl
    simp only [allP, List.mem_flatMap, List.mem_range] at hm
    obtain ⟨m, hm1, hm2⟩ := hm
    have := ((picks_ok _ m l).1 hm2).len
    rw [offOf_len]; omega
  · omega
def entE (d : Int) (l : List Int) : List Entry := l.map fun o => (⟨d, o⟩ : Entry)
def wrongAll (b : Book) (n : Nat) : List Entry := (List.range n).flatMap fun (d : Nat) => entE d (offR b d)
def wrongR (b : Book) : List Entry × Int := if (bookCheck b).2.2 ≠ 0 then ([], (bookCheck b).2.2) else (wrongAll b b.days.length, 0)
theorem wrongAll_succ (b : Book) (n : Nat) : (wrongAll b (n + 1)).reverse = (entE n (offR b n)).reverse ++ (wrongAll b n).reverse := by simp [wrongAll, List.range_succ]
theorem wrongAll_len (b : Book) (h : OkBook b) : ∀ n : Nat, (wrongAll b n).length ≤ 5 * n
  | 0 => by simp [wrongAll]
  | n + 1 => by
    have h1 := wrongAll_len b h n
    have h2 := off_len b n h
    have h3 := congrArg List.length (wrongAll_succ b n)
    simp only [List.length_append, List.length_reverse, entE, List.length_map] at h3
    omega
end
end Go.Proofs.Ytfgmckfomckliaa
