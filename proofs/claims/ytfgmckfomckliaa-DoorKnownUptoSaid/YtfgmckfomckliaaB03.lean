/-
  Part of the proof of the law DoorKnown. Conditions: those that stand in each theorem.
-/
import Derived.OrdersIn
import Derived.Laws.AppendOwn
import Derived.ArgAppend
import Derived.Test.YtfgmckfomckliaaB02
set_option linter.unusedSimpArgs false
set_option linter.unusedVariables false
namespace Ab
open Go
structure KeepsIn (G : Kept) (w : World) : Prop where
  at_ : ∀ b o, G b = some o → w.heap[b]? = some o
  amb : G.amb.ok w
instance (G : Kept) (w : World) : CoeFun (KeepsIn G w) (fun _ => ∀ b o, G b = some o → w.heap[b]? = some o) := ⟨KeepsIn.at_⟩
def PCalls (P : Program) (f : FuncId) (args : List V) (post : V → Prop) : Prop :=
  (∀ xs w, (callFunc f xs).run P w = .ok (.enter f xs) w) ∧
  ∀ G w (xs : Array Value), KeepsIn G w → args.length = xs.size → (∀ j, j < args.length → Rel G [] (args.getD j .undef) (xs.getD j Go.undef)) →
    Calls P f xs w fun e w' => ∃ v x G', e = .returned x ∧ G.le G' ∧ KeepsIn G' w' ∧ (∀ b o, G' b = some o → G b = some o ∨ w.heap.size ≤ b) ∧
      (∀ b, b < w.heap.size → w'.heap[b]? = w.heap[b]?) ∧ w.heap.size ≤ w'.heap.size ∧ Rel G' [] v x ∧ post v
theorem PCalls.tight {P : Program} {f : FuncId} {args : List V} {post : V → Prop} (hc : PCalls P f args post) (G : Kept) (w : World) (xs : Array Value) (hk : KeepsIn G w) (hl : args.length = xs.size)
    (hr : ∀ j, j < args.length → Rel G [] (args.getD j .undef) (xs.getD j Go.undef)) :
    Calls P f xs w fun e w' => (∃ v x G', e = .returned x ∧ G.le G' ∧ KeepsIn G' w' ∧ (∀ b o, G' b = some o → G b = some o ∨ w.heap.size ≤ b) ∧
      (∀ b, b < w.heap.size → w'.heap[b]? = w.heap[b]?) ∧ w.heap.size ≤ w'.heap.size ∧ Rel G' [] v x ∧ post v) ∧ Mild w w' := by
  refine (hc.2 ⟨G.f, ambOf w⟩ w xs ⟨hk.at_, ambOf_ok w⟩ hl (fun j hj => Rel.monoF (G := G) (G' := ⟨G.f, ambOf w⟩) (fun _ _ h => h) (hr j hj) (Homes.le_refl _))).mono ?_
  rintro e w' ⟨v, x, G', h1, h2, h3, h4, h5, h6, h7, h8⟩
  have hm : Mild w w' := Mild.of_amb (by have := h3.amb; rwa [← h2.same] at this)
  exact ⟨⟨v, x, ⟨G'.f, G.amb⟩, h1, ⟨h2.sub, rfl⟩, ⟨h3.at_, hk.amb.mild hm⟩, h4, h5, h6, Rel.monoF (G := G') (G' := ⟨G'.f, G.amb⟩) (fun _ _ h => h) h7 (Homes.le_refl _), h8⟩, hm⟩
inductive Snap (h : List Blk) : V → V → Prop where
  | imm {v} (hv : v.imm = true) : Snap h v v
  | undef (v) : Snap h v .undef
  | row {i n e w m c} (hi : h[i]? = some (.rows e w m c)) (hn : n ≤ m) : Snap h (.row i n) (.list w n c)
  | ref {i off n} {cs : List V} {c : Nat → V} (hi : h[i]? = some (.cells cs)) (hn : off + n ≤ cs.length) (hc : ∀ j, j < n → Snap h (cs.getD (off + j) .undef) (c j)) : Snap h (.ref i 0 off) (.cref n c)
  | refrow {i r off n e w m c} {c' : Nat → V} (hi : h[i]? = some (.rows e w m c)) (hr : r < m) (hn : off + n ≤ w) (hc : ∀ j, j < n → c' j = c r (off + j)) : Snap h (.ref i r off) (.cref n c')
  | agg {vs us : List V} (hl : vs.length = us.length) (hc : ∀ j, j < vs.length → Snap h (vs.getD j .undef) (us.getD j .undef)) : Snap h (.agg vs) (.agg us)
  | tuple {vs us : List V} (hl : vs.length = us.length) (hc : ∀ j, j < vs.length → Snap h (vs.getD j .undef) (us.getD j .undef)) : Snap h (.tuple vs) (.tuple us)
  | func {fn} {f c f' c' : List V} (hf : f.length = f'.length) (hl : c.length = c'.length) (hc : ∀ j, j < f.length → Snap h (f.getD j .undef) (f'.getD j .undef)) (hc' : ∀ j, j < c.length → Snap h (c.getD j .undef) (c'.getD j .undef)) :
      Snap h (.func fn f c) (.func fn f' c')
  | iface {t v u} (hv : Snap h v u) : Snap h (.iface t v) (.iface t u)
  | sub {i r w n e m c} {c' : Nat → Nat → V} (hi : h[i]? = some (.rows e w m c)) (hn : r + n ≤ m) (hc : ∀ a j, a < n → j < w → c' a j = c (r + a) j) : Snap h (.sub i r 0 w n) (.list w n c')
  | subrow {i r off w n e w' m c} {c' : Nat → Nat → V} (hi : h[i]? = some (.rows e w' m c)) (hr : r < m) (hn : off + n * w ≤ w') (hc : ∀ a j, a < n → j < w → c' a j = c r (off + (a * w + j))) : Snap h (.sub i r off w n) (.list w n c')
  | subcells {i off w n} {cs : List V} {c' : Nat → Nat → V} (hi : h[i]? = some (.cells cs)) (hn : off + n * w ≤ cs.length) (hc : ∀ a j, a < n → j < w → Snap h (cs.getD (off + (a * w + j)) .undef) (c' a j)) : Snap h (.sub i 0 off w n) (.list w n c')
  | weak {v u u'} (hv : Snap h v u) (hl : VLe u u') : Snap h v u'
open Classical in
noncomputable def allF (β : Homes) (G : Kept) (h : List Blk) (w : World) (b : Nat) : Option Obj :=
  match G b with
  | some o => some o
  | none => if ∃ (i : Nat) (x : Home) (k : Blk), h[i]? = some k ∧ k ≠ .gone ∧ β[i]? = some (.lie x) ∧ x.b = b then w.heap[b]? else none
noncomputable def allOf (β : Homes) (G : Kept) (h : List Blk) (w : World) : Kept := ⟨allF β G h w, G.amb⟩
theorem allOf_le (β : Homes) (G : Kept) (h : List Blk) (w : World) : G.le (allOf β G h w) := ⟨fun b o hb => by simp [allOf, allF, hb], rfl⟩
theorem RH.gamb {β : Homes} {G K : Kept} {h : List Blk} {w : World} (r : RH β G K h w) : G.amb.ok w := by rw [r.gk.same]; exact r.amb
theorem RH.keeps {β : Homes} {G K : Kept} {h : List Blk} {w : World} (r : RH β G K h w) : KeepsIn G w := ⟨fun _ _ hb => r.keep _ _ (r.gk _ _ hb), r.gamb⟩
theorem allOf_new {β : Homes} {G K : Kept} {h : List Blk} {w : World} (r : RH β G K h w) : ∀ b o, allOf β G h w b = some o → G b = some o ∨ K b = none := fun b o hb => by
  change allF β G h w b = some o at hb
  unfold allF at hb
  split at hb
  · rename_i o' hG; left; rw [hG]; exact hb
  · split at hb
    · rename_i hex
      obtain ⟨i, x, k, h1, h2, h3, rfl⟩ := hex
      right; exact (r.sep i x k h1 h2 h3).1
    · cases hb
theorem allOf_keeps {β : Homes} {G K : Kept} {h : List Blk} {w : World} (r : RH β G K h w) : KeepsIn (allOf β G h w) w where
  at_ b o hb := by
    change allF β G h w b = some o at hb
    unfold allF at hb
    split at hb
    · rename_i o' hG; cases hb; exact r.keep _ _ (r.gk _ _ hG)
    · split at hb
      · exact hb
      · cases hb
  amb := r.gamb
theorem allOf_home {β : Homes} {G K : Kept} {h : List Blk} {w : World} (r : RH β G K h w) {i : Nat} {k : Blk} {x : Home} {o : Obj} (hi : h[i]? = some k) (hk : k ≠ .gone) (hb : β[i]? = some (.lie x)) (ho : w.heap[x.b]? = some o) : allOf β G h w x.b = some o := by
  have hG : G x.b = none := by
    cases hG : G x.b with
    | none => rfl
    | some o' => have := r.gk _ _ hG; rw [(r.sep i x k hi hk hb).1] at this; cases this
  show allF β G h w x.b = some o
  unfold allF
  rw [hG]
  simp only
  rw [if_pos ⟨i, x, k, hi, hk, hb, rfl⟩]; exact ho
theorem snap_rel {β : Homes} {G K : Kept} {h : List Blk} {w : World} (r : RH β G K h w) {v u : V} (hs : Snap h v u) : ∀ {x : Value}, Rel G β v x → Rel (allOf β G h w) [] u x := by
  induction hs with
  | imm hv => intro x hx; exact (hx.imm hv).mono (allOf_le _ _ _ _) (Homes.le_refl _)
  | undef v => intro x _; exact .undef x
  | row hi hn =>
    intro x hx
    have hB := r.blk _ _ hi
    cases hx with
    | row0 hb => exact .list0
    | row hb hc0 hcc hm =>
      rw [hb] at hB
      have hc := Nat.le_trans hc0 hcc
      obtain ⟨hw, h0, hcm, c, hh, hsz, hmc, hmx, hr⟩ := hB
      subst hw
      refine .list (allOf_home r hi (by simp) hb hh) ?_ hc0 hm fun i j hi' hj => ?_
      · rw [hsz, Nat.zero_add]; exact Nat.mul_le_mul_right _ hc
      · rw [Nat.zero_add]; exact (hr i j (by omega) hj).mono (allOf_le _ _ _ _) (Homes.le_refl _)
  | ref hi hn hc ih =>
    intro x hx
    have hB := r.blk _ _ hi
    cases hx with
    | ref hb =>
      rw [hb] at hB
      obtain ⟨c, e, hh, hsz, hr⟩ := hB
      rw [Nat.zero_mul, Nat.zero_add]
      exact .cref (allOf_home r hi (by simp) hb hh) (by omega) fun j hj => ih j hj (hr _ (by omega))
  | refrow hi hr hn hc =>
    intro x hx
    have hB := r.blk _ _ hi
    cases hx with
    | ref hb =>
      rename_i i rr off n e w' m c c' y
      rw [hb] at hB
      obtain ⟨hw, h0, hcm, ca, hh, hsz, hmc, hmx, hrr⟩ := hB
      subst hw
      have room : rr * y.w + y.w ≤ y.cap * y.w := by
        have : (rr + 1) * y.w ≤ y.cap * y.w := Nat.mul_le_mul_right _ (by omega)
        rw [Nat.succ_mul] at this; exact this
      refine .cref (allOf_home r hi (by simp) hb hh) (by omega) fun j hj => ?_
      rw [hc j hj, Nat.add_assoc]
      exact (hrr rr (off + j) hr (by omega)).mono (allOf_le _ _ _ _) (Homes.le_refl _)
  | agg hl hc ih =>
    intro x hx
    cases hx with
    | agg hs hr => exact .agg (by omega) fun j hj => ih j (by omega) (hr j (by omega))
  | tuple hl hc ih =>
    intro x hx
    cases hx with
    | tuple hs hr => exact .tuple (by omega) fun j hj => ih j (by omega) (hr j (by omega))
  | func hf hl hc hc' ih ih' =>
    intro x hx
    cases hx with
    | func q1 q2 q3 q4 => exact .func (by omega) (by omega) (fun j hj => ih j (by omega) (q3 j (by omega))) fun j hj => ih' j (by omega) (q4 j (by omega))
  | iface hv ih =>
    intro x hx
    cases hx with
    | iface hr => exact .iface (ih hr)
  | weak hv hl ih => intro x hx; exact hl _ _ _ (ih hx)
  | sub hi hn hc =>
    intro x hx
    have hB := r.blk _ _ hi
    cases hx with
    | sub0 => exact .list0
    | sub hb hcap hm =>
      rename_i i rr w' n e m c c' cap y
      rw [hb] at hB
      obtain ⟨hw, h0, hcm, ca, hh, hsz, hmc, hmx, hrr⟩ := hB
      subst hw
      refine .list (allOf_home r hi (by simp) hb hh) ?_ hcap hm fun a j ha hj => ?_
      · rw [hsz, Nat.add_zero, ← Nat.add_mul]; exact Nat.mul_le_mul_right _ (by omega)
      · rw [hc a j ha hj, Nat.add_zero, ← Nat.add_assoc, ← Nat.add_mul]; exact (hrr (rr + a) j (by omega) hj).mono (allOf_le _ _ _ _) (Homes.le_refl _)
  | subrow hi hr hn hc =>
    intro x hx
    have hB := r.blk _ _ hi
    cases hx with
    | sub0 => exact .list0
    | sub hb hcap hm =>
      rename_i i rr off w n e w' m c c' cap y
      rw [hb] at hB
      obtain ⟨hw, h0, hcm, ca, hh, hsz, hmc, hmx, hrr⟩ := hB
      subst hw
      have room : rr * y.w + y.w ≤ y.cap * y.w := by
        have : (rr + 1) * y.w ≤ y.cap * y.w := Nat.mul_le_mul_right _ (by omega)
        rw [Nat.succ_mul] at this; exact this
      refine .list (allOf_home r hi (by simp) hb hh) (by omega) hcap hm fun a j ha hj => ?_
      have hlt : a * w + j < n * w := by
        have : (a + 1) * w ≤ n * w := Nat.mul_le_mul_right _ ha
        rw [Nat.succ_mul] at this; omega
      rw [hc a j ha hj, Nat.add_assoc]; exact (hrr rr (off + (a * w + j)) hr (by omega)).mono (allOf_le _ _ _ _) (Homes.le_refl _)
  | subcells hi hn hc ih =>
    intro x hx
    have hB := r.blk _ _ hi
    cases hx with
    | sub0 => exact .list0
    | sub hb hcap hm =>
      rename_i i off w n cs c' cap y
      rw [hb] at hB
      obtain ⟨c, e, hh, hsz, hr⟩ := hB
      refine .list (allOf_home r hi (by simp) hb hh) (by omega) hcap hm fun a j ha hj => ?_
      have hlt : a * w + j < n * w := by
        have : (a + 1) * w ≤ n * w := Nat.mul_le_mul_right _ ha
        rw [Nat.succ_mul] at this; omega
      rw [Nat.zero_mul, Nat.zero_add]
      exact ih a j ha hj (hr _ (by omega))
mutual
def V.plain : V → Bool
  | .undef | .bool _ | .int _ _ | .str _ | .nil | .nils | .nilfunc | .nilmap | .niliface => true
  | .agg vs => plainL vs
  | .tuple vs => plainL vs
  | .iface _ v => v.plain
  | .arr w n c => (List.range n).all fun r => (List.range w).all fun j => (c r j).plain
  | _ => false
def plainL : List V → Bool
  | [] => true
  | v :: vs => v.plain && plainL vs
end
theorem plainL_getD : ∀ {vs : List V} (_ : plainL vs = true) (j : Nat), (vs.getD j .undef).plain = true
  | [], _, j => by simp [V.plain]
  | v :: vs, h, 0 => by simp only [plainL, Bool.and_eq_true] at h; simpa using h.1
  | v :: vs, h, j + 1 => by
    simp only [plainL, Bool.and_eq_true] at h
    simpa using plainL_getD h.2 j
theorem Rel.plain {G : Kept} {β : Homes} {v : V} {x : Value} (h : Rel G β v x) : v.plain = true → ∀ (G' : Kept) (β' : Homes), Rel G' β' v x := by
  induction h with
  | undef x => intros; exact .undef x
  | bool b => intros; exact .bool b
  | int k n => intros; exact .int k n
  | str s => intros; exact .str s
  | nil => intros; exact .nil
  | nils => intros; exact .nils
  | nilfunc => intros; exact .nilfunc
  | nilmap => intros; exact .nilmap
  | niliface => intros; exact .niliface
  | agg hs h ih => intro hp G' β'; exact .agg hs fun j hj => ih j hj (plainL_getD hp j) G' β'
  | tuple hs h ih => intro hp G' β'; exact .tuple hs fun j hj => ih j hj (plainL_getD hp j) G' β'
  | iface h ih => intro hp G' β'; exact .iface (ih hp G' β')
  | arr hs h ih =>
    intro hp G' β'
    simp only [V.plain, List.all_eq_true, List.mem_range] at hp
    exact .arr hs fun r j hr hj => ih r j hr hj (hp r hr j hj) G' []
  | _ => intro hp; simp [V.plain] at hp
theorem RH.kept {β : Homes} {G K G' : Kept} {h : List Blk} {w w' : World} (r : RH β G K h w) (hG : G.le G') (hk : KeepsIn G' w') (hn : ∀ b o, G' b = some o → G b = some o ∨ w.heap.size ≤ b)
    (hw : ∀ b, b < w.heap.size → w'.heap[b]? = w.heap[b]?) (hs : w.heap.size ≤ w'.heap.size) (hm : Mild w w') :
    ∃ K', K.le K' ∧ G.ext K G' ∧ RH β G' K' h w' := by
  have ha : K.amb.ok w' := r.amb.mild hm
  have r1 := r.congr hw hs hm
  have knone : ∀ b, w.heap.size ≤ b → K b = none := fun b hb => by
    cases hK : K b with
    | none => rfl
    | some o => have := (Array.getElem?_eq_some_iff.1 (r.keep _ _ hK)).1; omega
  refine ⟨⟨fun b => match K b with | some o => some o | none => G' b, K.amb⟩, ⟨fun b o hb => by simp [hb], rfl⟩, ⟨hG, fun b o hb => (hn b o hb).imp id (knone b)⟩, ?_⟩
  refine ⟨r1.len, fun i k hk' => ?_, r1.inj, fun i x k h1 h2 h3 => ?_, fun b o hb => ?_, ⟨fun b o hb => ?_, hG.same.symm.trans r.gk.same⟩, ha, fun i X tr hi => ?_⟩
  · by_cases hg : k = .gone
    · subst hg; cases (β[i]?.getD .void) <;> trivial
    · exact (r1.blk i k hk').mono hG (Homes.le_refl _) fun _ _ => rfl
  · have := r1.sep i x k h1 h2 h3
    refine ⟨?_, this.2⟩
    simp only [this.1]
    have hlt := (r.sep i x k h1 h2 h3).2
    cases hb : G' x.b with
    | none => rfl
    | some o =>
      rcases hn _ _ hb with q | q
      · have := r.gk _ _ q; rw [(r.sep i x k h1 h2 h3).1] at this; cases this
      · omega
  · simp only at hb
    cases hK : K b with
    | some o' => rw [hK] at hb; cases hb; exact r1.keep _ _ hK
    | none => rw [hK] at hb; exact hk _ _ hb
  · cases hK : K b with
    | some o' =>
      simp only [hK]
      rw [← hk _ _ hb, ← r1.keep _ _ hK]
    | none => simp only [hK]; exact hb
  · obtain ⟨l, E, h1, h2, hbs, h3⟩ := r.ext i X tr hi
    refine ⟨l, E, h1, X.stable h2 (fun b o hb => by
      have q := X.keeps h2 b o hb
      rw [hw b (Array.getElem?_eq_some_iff.1 q).1]; exact q) (fun b o hb => by
      have q := r.keep b o (hbs b o hb)
      rw [hw b (Array.getElem?_eq_some_iff.1 q).1]; exact q) hs hm, ⟨fun b o hb => by simp only [hbs b o hb], hbs.same⟩, fun b hE => ⟨?_, (h3 b hE).2⟩⟩
    have hKb := (h3 b hE).1
    simp only [hKb]
    have hlt := Ext.lt h2 hE
    cases hb : G' b with
    | none => rfl
    | some o =>
      rcases hn _ _ hb with q | q
      · have := r.gk _ _ q; rw [hKb] at this; cases this
      · omega
def fnOf : V → Option (FuncId × List V × List V)
  | .func (.func f) a b => some (f, a, b)
  | _ => none
theorem getD_append_left {α : Type} {d : α} {l l' : List α} {j : Nat} (h : j < l.length) : (l ++ l').getD j d = l.getD j d := by
  simp [List.getD_eq_getElem?_getD, List.getElem?_append_left h]
theorem getD_append_right {α : Type} {d : α} {l l' : List α} {j : Nat} (h : l.length ≤ j) : (l ++ l').getD j d = l'.getD (j - l.length) d := by
  simp [List.getD_eq_getElem?_getD, List.getElem?_append_right h]
theorem agetD_append_left {d : Value} {l l' : Array Value} {j : Nat} (h : j < l.size) : (l ++ l').getD j d = l.getD j d := by
  simp [Array.getD_eq_getD_getElem?, Array.getElem?_append_left h]
theorem agetD_append_right {d : Value} {l l' : Array Value} {j : Nat} (h : l.size ≤ j) : (l ++ l').getD j d = l'.getD (j - l.size) d := by
  simp [Array.getD_eq_getD_getElem?, Array.getElem?_append_right h]
theorem rel_append {G : Kept} {β : Homes} {l l' : List V} {a a' : Array Value} (hl : l.length = a.size) (hl' : l'.length = a'.size) (h : ∀ j, j < l.length → Rel G β (l.getD j .undef) (a.getD j Go.undef))
    (h' : ∀ j, j < l'.length → Rel G β (l'.getD j .undef) (a'.getD j Go.undef)) : ∀ j, j < (l ++ l').length → Rel G β ((l ++ l').getD j .undef) ((a ++ a').getD j Go.undef) := fun j hj => by
  rcases Nat.lt_or_ge j l.length with hlt | hge
  · rw [getD_append_left hlt, agetD_append_left (by omega)]; exact h j hlt
  · rw [getD_append_right hge, agetD_append_right (by omega), hl]; simp at hj; rw [← hl]; exact h' _ (by omega)
def callArgs (S : St) (first caps : List V) (args : Array Operand) : List V := first ++ args.toList.map S.eval ++ caps
section
variable {P : Program} {ro : Env} {ops : Array Oper} {S : St} {Q : Exit → St → Prop}
theorem AOps.call_snap {i : Nat} {is : List Nat} {o : Oper} {fo : Operand} {args : Array Operand} {ts : Array TypeId} {g : FuncId} {first caps us : List V} {post : V → Prop} (hi : ops[i]? = some o) (hw : wantedV ops S o = some true)
    (ho : o.op = .call { callee := .value fo, args := args, argTypes := ts }) (hf : fnOf (S.eval fo) = some (g, first, caps)) (hl : (callArgs S first caps args).length = us.length)
    (hs : ∀ j, j < us.length → Snap S.h ((callArgs S first caps args).getD j .undef) (us.getD j .undef)) (hc : PCalls P g us post)
    (hp : us = callArgs S first caps args ∧ underL 0 us = true ∨ ∀ v, post v → v.plain = true)
    (rest : ∀ v, post v → AOps P ro ops is (S.put o.dst v) Q) : AOps P ro ops (i :: is) S Q := fun β G K a w r => by
  simp only [wpOpsIn, hi, wanted_ok r hw, if_true, Oper.wpIn]
  refine ⟨fun _ _ => trivial, ?_⟩
  have hfv := r.eval fo
  obtain ⟨f', c', hfe, hfl, hcl, hff, hcc⟩ : ∃ f' c', a.eval fo = .func (.func g) f' c' ∧ first.length = f'.size ∧ caps.length = c'.size ∧ (∀ j, j < first.length → Rel G β (first.getD j .undef) (f'.getD j Go.undef)) ∧ (∀ j, j < caps.length → Rel G β (caps.getD j .undef) (c'.getD j Go.undef)) := by
    unfold fnOf at hf
    split at hf
    · rename_i f a1 b1 he
      cases hf
      rw [he] at hfv
      generalize a.eval fo = x at hfv
      cases hfv with
      | func h1 h2 h3 h4 => exact ⟨_, _, rfl, h1, h2, h3, h4⟩
    · cases hf
  have hsem : (o.semAt ro.ro a.eval).run P w = .ok (.enter g (f' ++ args.map a.eval ++ c')) w := by
    rw [Oper.semAt_eq _ _ _ (by rw [ho]; simp)]
    simp only [execOp, ho, resolve, hfe, Deferred.ofValue, Sem.run_bind, Sem.run_pure, Result.andThen_ok, invoke, hc.1]
  rw [hsem]
  refine ⟨fun h => by simp [wide, Fence.wide] at h, ?_⟩
  have hrel : ∀ j, j < (callArgs S first caps args).length → Rel G β ((callArgs S first caps args).getD j .undef) ((f' ++ args.map a.eval ++ c').getD j Go.undef) := by
    refine rel_append (by simp [hfl]) hcl (rel_append hfl (by simp) hff fun j hj => ?_) hcc
    have hj' : j < args.size := by simpa using hj
    simpa [List.getD_eq_getElem?_getD, Array.getD_eq_getD_getElem?, hj'] using r.eval args[j]
  have hlen : us.length = (f' ++ args.map a.eval ++ c').size := by rw [← hl]; simp [callArgs, hfl, hcl]
  rcases hp with ⟨rfl, himm⟩ | hplain
  · have hcalls := hc.tight G w (f' ++ args.map a.eval ++ c') r.h.keeps hlen (fun j hj => (hrel j hj).imm (underL_getD himm j))
    refine (callsIn_wide (n := 0 - 1)).2 (hcalls.mono ?_)
    rintro e w' ⟨⟨v, x, G', rfl, h2, h3, h4, h5, h6, h7, h8⟩, hmild⟩
    obtain ⟨K', hK, hG, hr⟩ := r.h.kept h2 h3 h4 h5 h6 hmild
    have r1 : RS β G' K' S a w' := ⟨hr, r.size, fun j => (r.tmp j).mono h2 (Homes.le_refl _), r.marks, r.mark⟩
    have := rest v h8 β G' K' _ w' (r1.put (h7.up β) o.dst)
    exact mono_ops (fun e a w hp => hp.up (Homes.low_refl _ _) hG hK) this
  · have hcalls := hc.tight (allOf β G S.h w) w (f' ++ args.map a.eval ++ c') (allOf_keeps r.h) hlen (fun j hj => snap_rel r.h (hs j hj) (hrel j (by rw [hl]; exact hj)))
    refine (callsIn_wide (n := 0 - 1)).2 (hcalls.mono ?_)
    rintro e w' ⟨⟨v, x, G', rfl, h2, h3, h4, h5, h6, h7, h8⟩, hmild⟩
    have r1 : RS β G K S a w' := ⟨r.h.congr h5 h6 hmild, r.size, r.tmp, r.marks, r.mark⟩
    exact rest v h8 β G K _ w' (r1.put (h7.plain (hplain v h8) G β) o.dst)
end
theorem Mild.putObj (w : World) (b : Nat) (o : Obj) : Mild w (w.putObj b o) := ⟨rfl, rfl, rfl, Nat.le_refl _⟩
def resV (P : Program) (S : St) : ResultVar → Option V
  | .tmp t => some (S.t.getD t .undef)
  | .cell a t =>
    if hasT P t = true then
      match loadA P S.h t (S.t.getD a .undef) with
      | some v => some v
      | none =>
        match loadV P S.h t (S.t.getD a .undef) with
        | some (true, v) => some v
        | _ => none
    else none
def resVs (P : Program) (S : St) : List ResultVar → Option (List V)
  | [] => some []
  | r :: rs =>
    match resV P S r, resVs P S rs with
    | some v, some vs => some (v :: vs)
    | _, _ => none
def resultV (P : Program) (fn : Func) (S : St) : Option V :=
  match resVs P S fn.results.toList with
  | some [v] => some v
  | some vs => some (.tuple vs)
  | none => none
def resS (tm : Array Value) : ResultVar → Sem Value
  | .tmp t => pure (tm.getD t Go.undef)
  | .cell a t => do loadVar t (← asAddr (tm.getD a Go.undef))
theorem resVs_ok {P : Program} {β : Homes} {G K : Kept} {S : St} {tm : Array Value} {w : World} (r : RH β G K S.h w) (ht : ∀ j, Rel G β (S.t.getD j .undef) (tm.getD j Go.undef)) :
    ∀ (rs : List ResultVar) (vs : List V), resVs P S rs = some vs → ∃ xs : List Value, Sem.run P (rs.mapM (resS tm)) w = .ok xs w ∧ xs.length = vs.length ∧
      ∀ j, Rel G β (vs.getD j .undef) (xs.getD j Go.undef) := by
  intro rs
  induction rs with
  | nil => intro vs h; simp only [resVs, Option.some.injEq] at h; subst h; exact ⟨[], by simp, rfl, fun j => by simp; exact .undef _⟩
  | cons x rs ih =>
    intro vs h
    simp only [resVs] at h
    split at h
    · rename_i v us hv hus
      cases h
      obtain ⟨xs, h1, h2, h3⟩ := ih us hus
      have hx : ∃ y, Sem.run P (resS tm x) w = .ok y w ∧ Rel G β v y := by
        cases x with
        | tmp t => simp only [resV, Option.some.injEq] at hv; subst hv; exact ⟨_, rfl, ht t⟩
        | cell a t =>
          simp only [resV] at hv
          split at hv
          · rename_i hT
            split at hv
            · rename_i u hl
              cases hv
              obtain ⟨y, q1, q2⟩ := loadA_ok r hT (ht a) hl
              refine ⟨y, ?_, q2⟩
              have hra := ht a
              generalize hva : S.t.getD a .undef = va at hl hra
              generalize hxa : tm.getD a Go.undef = xa at hra q1
              cases hra with
              | ref _ => simpa only [Instr.loadAt, Instr.sureAddr, asAddr, hxa, resS] using q1
              | _ => unfold loadA at hl; split at hl <;> simp at hl
            split at hv
            · rename_i u hl
              cases hv
              obtain ⟨y, q1, q2⟩ := load_ok r hT (ht a) hl
              refine ⟨y, ?_, q2⟩
              have hra := ht a
              generalize hva : S.t.getD a .undef = va at hl hra
              generalize hxa : tm.getD a Go.undef = xa at hra q1
              cases hra with
              | cref _ _ _ => simpa only [Instr.loadAt, Instr.sureAddr, asAddr, hxa, resS] using q1
              | ref _ => simpa only [Instr.loadAt, Instr.sureAddr, asAddr, hxa, resS] using q1
              | _ => simp [loadV] at hl
            · cases hv
          · cases hv
      obtain ⟨y, q1, q2⟩ := hx
      refine ⟨y :: xs, ?_, by simp [h2], fun j => ?_⟩
      · rw [List.mapM_cons, Sem.run_bind, q1, Result.andThen_ok, Sem.run_bind, h1, Result.andThen_ok, Sem.run_pure]
      · cases j with
        | zero => simpa using q2
        | succ j => simpa using h3 j
    · cases h
theorem resultV_ok {P : Program} {β : Homes} {G K : Kept} {S : St} {tm : Array Value} {w : World} (r : RH β G K S.h w) (ht : ∀ j, Rel G β (S.t.getD j .undef) (tm.getD j Go.undef)) {fn : Func} {v : V} (h : resultV P fn S = some v) :
    ∃ x, (results fn tm).run P w = .ok x w ∧ Rel G β v x := by
  unfold resultV at h
  have conv : ∀ xs : List Value, Sem.run P (fn.results.toList.mapM (resS tm)) w = .ok xs w →
      (results fn tm).run P w = .ok (if h : xs.toArray.size = 1 then xs.toArray[0] else .tuple xs.toArray) w := fun xs hx => by
    have hres : results fn tm = (do let vs ← fn.results.mapM (resS tm); pure (if h : vs.size = 1 then vs[0] else .tuple vs)) := by
      unfold results
      congr 1
    rw [hres, Array.mapM_eq_mapM_toList]
    simp only [Sem.run_bind, Sem.run_map, hx, Result.andThen_ok, Sem.run_pure]
  split at h
  · rename_i u hu
    cases h
    obtain ⟨xs, h1, h2, h3⟩ := resVs_ok r ht _ _ hu
    match xs, h2 with
    | [x], _ => exact ⟨x, by rw [conv _ h1]; simp, by simpa using h3 0⟩
  · rename_i us hus hne
    cases h
    obtain ⟨xs, h1, h2, h3⟩ := resVs_ok r ht _ _ hne
    refine ⟨.tuple xs.toArray, ?_, .tuple (by simp [h2]) fun j _ => by simpa [List.getD_eq_getElem?_getD, Array.getD_eq_getD_getElem?] using h3 j⟩
    rw [conv _ h1, dif_neg]
    simp only [List.size_toArray]
    intro hl
    match us, h2, hus with
    | [u], _, hus => exact hus u rfl
    | [], h2, _ => rw [hl] at h2; cases h2
    | _ :: _ :: _, h2, _ => rw [hl] at h2; simp at h2
  · cases h
def shut : List Nat → List Blk → List Blk
  | [], h => h
  | j :: js, h => shut js (h.set j (.obj (.deferred none)))
def bodyQ (P : Program) (fn : Func) (post : V → Prop) (e : Exit) (S : St) : Prop :=
  (e = .normal ∨ e = .ret) ∧ S.d.Nodup ∧ ∃ v u, resultV P fn { S with h := shut S.d S.h } = some v ∧ Snap (shut S.d S.h) v u ∧ post u
theorem take_marks {P : Program} {fn : Func} {R : Ending → World → Prop} : ∀ (d : List Nat) (ds : List Deferred) (β : Homes) (G K : Kept) (h : List Blk) (tm : Array Value) (w : World), RH β G K h w → ds.length = d.length → d.Nodup →
    (∀ j, j < d.length → ∃ x : Home, β[d.getD j 0]? = some (.lie x) ∧ ds[j]? = some { target := .collected x.b, args := #[] } ∧ h[d.getD j 0]? = some (.obj (.deferred (some [])))) →
    (∀ w', RH β G K (shut d h) w' → ∃ v, (results fn tm).run P w' = .ok v w' ∧ R (.returned v) w') → LeavesInM (wide ⟨none, 0⟩) 0 P fn tm R ds .returning w := by
  intro d
  induction d with
  | nil =>
    intro ds β G K h tm w r hl _ _ hR
    have : ds = [] := List.eq_nil_of_length_eq_zero hl
    subst this
    exact hR w r
  | cons j d ih =>
    intro ds β G K h tm w r hl hnd hm hR
    obtain ⟨x, h1, h2, h3⟩ := hm 0 (by simp)
    simp at h1 h3
    cases ds with
    | nil => simp at hl
    | cons dd ds =>
      simp at h2
      subst h2
      have hB := r.blk j _ h3
      rw [h1] at hB
      have hh : w.heap[x.b]? = some (.deferred (some [])) := hB
      refine ⟨by simp, .inl ⟨x.b, w.putObj x.b (.deferred none), rfl, run_takeDeferred hh, ?_⟩⟩
      have hlt := (Array.getElem?_eq_some_iff.1 hh).1
      have r1 : RH β G K (h.set j (.obj (.deferred none))) (w.putObj x.b (.deferred none)) :=
        r.write h3 (by simp) h1 (fun b hb => World.putObj_heap_other hb) (by simp) (World.putObj_heap_same hlt) (Mild.putObj _ _ _)
      refine ih ds β G K _ tm _ r1 (by simpa using hl) (List.nodup_cons.1 hnd).2 (fun i hi => ?_) hR
      obtain ⟨y, q1, q2, q3⟩ := hm (i + 1) (by simpa using hi)
      simp at q1 q2 q3
      refine ⟨y, by simpa using q1, q2, ?_⟩
      rw [List.getElem?_set_ne]
      · simpa using q3
      · intro e
        apply (List.nodup_cons.1 hnd).1
        have hi' : i < d.length := hi
        rw [e, List.getD_eq_getElem?_getD, List.getElem?_eq_getElem hi']
        exact List.getElem_mem hi'
theorem PCalls.of_body {P : Program} {f : FuncId} {fn : Func} {c : Code} {args : List V} {post : V → Prop} (hf : P.funcs[f]? = some fn) (hb : fn.body = some c) (hn : (fn.name == "runtime.NumGoroutine") = false)
    (h : AWP P ⟨none, 0⟩ c { t := args ++ List.replicate (fn.ntmps - args.length) .undef, h := [], d := [] } (bodyQ P fn post)) : PCalls P f args post := by
  have hn' : ¬ fn.name = "runtime.NumGoroutine" := by simpa using hn
  refine ⟨fun xs w => by simp [callFunc, hf, hn', hb], fun G w xs hk hl hr => ?_⟩
  have hcalls : CallsIn Fence.wide 0 P f xs w fun e w' => ∃ v x G', e = .returned x ∧ G.le G' ∧ KeepsIn G' w' ∧ (∀ b o, G' b = some o → G b = some o ∨ w.heap.size ≤ b) ∧
      (∀ b, b < w.heap.size → w'.heap[b]? = w.heap[b]?) ∧ w.heap.size ≤ w'.heap.size ∧ Rel G' [] v x ∧ post v := by
    refine callsIn_of_wp_marks hf hb trivial ?_
    have r : RS [] G ⟨fun b => w.heap[b]?, G.amb⟩ { t := args ++ List.replicate (fn.ntmps - args.length) .undef, h := [], d := [] } { tmps := xs ++ Array.replicate (fn.ntmps - xs.size) Go.undef, defers := [] } w := by
      refine ⟨⟨rfl, by simp, by simp, by simp, fun b o h => h, ⟨hk.at_, rfl⟩, hk.amb, by simp⟩, by simp [hl], fun j => ?_, rfl, by simp⟩
      rcases Nat.lt_or_ge j args.length with h1 | h1
      · rw [getD_append_left h1, agetD_append_left (by omega)]; exact hr j h1
      · rw [getD_append_right h1, agetD_append_right (by omega)]
        have : (List.replicate (fn.ntmps - args.length) V.undef).getD (j - args.length) .undef = .undef := by
          rw [List.getD_eq_getElem?_getD, List.getElem?_replicate]; split <;> rfl
        rw [this]; exact .undef _
    refine wpIn_mono (h [] G _ _ w r) fun e a' w' hp => ?_
    obtain ⟨S, β, G', K', -, hG, hK, r', he, hnd, v, u, hv, hs, hpost⟩ := hp
    have leaves : LeavesInM (wide ⟨none, 0⟩) 0 P fn a'.tmps (fun e w' => ∃ v x G', e = .returned x ∧ G.le G' ∧ KeepsIn G' w' ∧ (∀ b o, G' b = some o → G b = some o ∨ w.heap.size ≤ b) ∧
      (∀ b, b < w.heap.size → w'.heap[b]? = w.heap[b]?) ∧ w.heap.size ≤ w'.heap.size ∧ Rel G' [] v x ∧ post v) a'.defers .returning w' := by
      refine take_marks S.d a'.defers β G' K' S.h a'.tmps w' r'.h r'.marks hnd r'.mark fun w2 r2 => ?_
      obtain ⟨x, hx, hrx⟩ := resultV_ok (S := { S with h := shut S.d S.h }) r2 r'.tmp hv
      refine ⟨x, hx, u, x, allOf β G' (shut S.d S.h) w2, rfl, hG.1.trans (allOf_le _ _ _ _), allOf_keeps r2, fun b o hb => ?_, fun b hb => ?_, ?_, snap_rel r2 hs hrx, hpost⟩
      · have fresh : K' b = none → w.heap.size ≤ b := fun hkb => by
          rcases Nat.lt_or_ge b w.heap.size with q | q
          · have := hK b w.heap[b] (Array.getElem?_eq_getElem q); rw [hkb] at this; cases this
          · exact q
        rcases allOf_new r2 b o hb with q | q
        · rcases hG.2 b o q with q' | q'
          · exact .inl q'
          · right
            rcases Nat.lt_or_ge b w.heap.size with z | z
            · simp [Array.getElem?_eq_getElem z] at q'
            · exact z
        · exact .inr (fresh q)
      · have := r2.keep b w.heap[b] (hK b _ (Array.getElem?_eq_getElem hb))
        rw [this, Array.getElem?_eq_getElem hb]
      · rcases Nat.lt_or_ge w2.heap.size w.heap.size with z | z
        · have hz : w2.heap.size < w.heap.size := z
          have := r2.keep _ _ (hK w2.heap.size w.heap[w2.heap.size] (Array.getElem?_eq_getElem hz))
          simp at this
        · exact z
    rcases he with rfl | rfl
    · exact leaves
    · exact leaves
  exact callsIn_wide.1 hcalls
def AStep (P : Program) (ro : Env) (ops : Array Oper) (i : Nat) (S S' : St) : Prop :=
  ∀ β G K a w (Kc : Act → World → Prop) (Qc : Exit → Act → World → Prop), RS β G K S a w → (∀ β' G' K' a' w', Homes.low ro.m β β' → G.ext K G' → K.le K' → RS β' G' K' S' a' w' → Kc a' w') → wpOpIn (wide ro) 0 P ops Qc i Kc a w
def unl (l : Array Bool) : Nat → Nat
  | 0 => 0
  | k + 1 => unl l k + if l.getD k false = true then 0 else 1
theorem unl_pos (l : Array Bool) (i : Nat) (h : l.getD i false = false) : ∀ k, i < k → 0 < unl l k := by
  intro k
  induction k with
  | zero => intro hk; omega
  | succ k ih =>
    intro hk
    simp only [unl]
    by_cases e : i = k
    · subst e; rw [h]; simp
    · have := ih (by omega); omega
theorem unl_set (l : Array Bool) (i : Nat) (hi : i < l.size) (h : l.getD i false = false) : ∀ k, unl (l.setIfInBounds i true) k = if i < k then unl l k - 1 else unl l k := by
  intro k
  induction k with
  | zero => simp [unl]
  | succ k ih =>
    simp only [unl, ih]
    by_cases e : i = k
    · subst e
      have : (l.setIfInBounds i true).getD i false = true := by simp [hi]
      rw [this, h]
      simp
    · rw [getD_set_ne false e]
      by_cases hk : i < k
      · have pos := unl_pos l i h k hk
        rw [if_pos hk, if_pos (show i < k + 1 by omega)]
        split <;> omega
      · rw [if_neg hk, if_neg (show ¬ i < k + 1 by omega)]
theorem unl_zero (l : Array Bool) : ∀ k, unl l k = 0 → ∀ i, i < k → l.getD i false = true := by
  intro k
  induction k with
  | zero => intro _ i hi; omega
  | succ k ih =>
    intro h i hi
    simp only [unl] at h
    have h1 : unl l k = 0 := by omega
    by_cases e : i = k
    · subst e
      cases hc : l.getD i false with
      | true => rfl
      | false => rw [hc] at h; simp at h
    · exact ih h1 i (by omega)
def reach (ops : Array Oper) : Nat → Nat → Nat → Bool
  | 0, _, _ => false
  | f + 1, i, j =>
    match ops[j]? with
    | some o => (o.after.any fun e => e.on == i && Region.binds .any e) || o.after.any fun e => Region.binds .any e && reach ops f i e.on
    | none => false
def tailAt (ops : Array Oper) (j : Nat) : Bool :=
  match ops[j]? with
  | some _ => (List.range j).all fun i => reach ops 9 i j
  | none => false
def Closed (ops : Array Oper) (l : Array Bool) : Prop := ∀ j, l.getD j false = true → ∀ o, ops[j]? = some o → ∀ e ∈ o.after, Region.binds .any e = true → l.getD e.on false = true
theorem reach_done {ops : Array Oper} {l : Array Bool} (hc : Closed ops l) : ∀ (f i j : Nat), reach ops f i j = true → (∀ o, ops[j]? = some o → ∀ e ∈ o.after, Region.binds .any e = true → l.getD e.on false = true) → l.getD i false = true := by
  intro f
  induction f with
  | zero => intro i j h; simp [reach] at h
  | succ f ih =>
    intro i j h hj
    simp only [reach] at h
    split at h
    · rename_i o ho
      rw [Bool.or_eq_true] at h
      rcases h with h | h
      · rw [Array.any_eq_true] at h
        obtain ⟨q, hq, hb⟩ := h
        simp only [Bool.and_eq_true, beq_iff_eq] at hb
        have := hj o ho o.after[q] (Array.getElem_mem hq) hb.2
        rwa [hb.1] at this
      · rw [Array.any_eq_true] at h
        obtain ⟨q, hq, hb⟩ := h
        simp only [Bool.and_eq_true] at hb
        have hd := hj o ho o.after[q] (Array.getElem_mem hq) hb.1
        exact ih i _ hb.2 fun o' ho' e he hbe => hc _ hd o' ho' e he hbe
    · cases h
theorem tailAt_ready {ops : Array Oper} {j : Nat} {l : Array Bool} (hc : Closed ops l) (h : tailAt ops j = true) (hr : j ∈ Region.ready .any ops l) : ∀ i, i < j → l.getD i false = true := by
  rw [mem_ready] at hr
  obtain ⟨_, o, ho, hall⟩ := hr
  intro i hi
  simp only [tailAt, ho, List.all_eq_true, List.mem_range] at h
  refine reach_done hc 9 i j (h i hi) fun o' ho' e he hb => ?_
  rw [ho] at ho'; cases ho'
  exact hall e he hb
theorem Closed.set {ops : Array Oper} {l : Array Bool} (hc : Closed ops l) {i : Nat} (hr : i ∈ Region.ready .any ops l) : Closed ops (l.setIfInBounds i true) := by
  rw [mem_ready] at hr
  obtain ⟨_, o, ho, hall⟩ := hr
  have up : ∀ k, l.getD k false = true → (l.setIfInBounds i true).getD k false = true := fun k hk => by
    by_cases e : k = i
    · subst e
      have : k < l.size := by
        rcases Nat.lt_or_ge k l.size with z | z
        · exact z
        · simp [Array.getD_eq_getD_getElem?, Array.getElem?_eq_none z] at hk
      simp [this]
    · rw [getD_set_ne false (Ne.symm e)]; exact hk
  intro j hj o' ho' e he hb
  by_cases q : j = i
  · subst q
    rw [ho] at ho'; cases ho'
    exact up _ (hall e he hb)
  · rw [getD_set_ne false (Ne.symm q)] at hj
    exact up _ (hc j hj o' ho' e he hb)
def backOK (ops : Array Oper) : Bool := (List.range ops.size).all fun j => match ops[j]? with | some o => o.after.all fun e => !Region.binds .any e || decide (e.on < j) | none => true
theorem backOK_spec {ops : Array Oper} (h : backOK ops = true) {j : Nat} {o : Oper} (ho : ops[j]? = some o) : ∀ e ∈ o.after, Region.binds .any e = true → e.on < j := by
  have hlt := (Array.getElem?_eq_some_iff.1 ho).1
  simp only [backOK, List.all_eq_true, List.mem_range] at h
  have := h j hlt
  rw [ho] at this
  simp only [Array.all_eq_true_iff_forall_mem, Bool.or_eq_true, Bool.not_eq_true', decide_eq_true_eq] at this
  intro e he hb
  rcases this e he with q | q
  · rw [hb] at q; cases q
  · exact q
theorem least_ready {ops : Array Oper} (hb : backOK ops = true) {l : Array Bool} (hl : l.size = ops.size) {q : Nat} (hq : q < ops.size) (h1 : ∀ i, i < q → l.getD i false = true) (h2 : l.getD q false = false) : q ∈ Region.ready .any ops l := by
  rw [mem_ready]
  refine ⟨?_, ops[q], Array.getElem?_eq_getElem hq, fun e he hbd => h1 _ (backOK_spec hb (Array.getElem?_eq_getElem hq) e he hbd)⟩
  have e : l.getD q true = l.getD q false := by simp [Array.getD_eq_getD_getElem?, show q < l.size by omega]
  rw [e]; exact h2
theorem tail_any {P : Program} {ro : Env} {ops : Array Oper} {Q : Exit → Act → World → Prop} {m : Nat} (hback : backOK ops = true) (ht : ∀ j, m ≤ j → j < ops.size → tailAt ops j = true) :
    ∀ (k q fuel : Nat) (l : Array Bool) (a : Act) (w : World), q + k = ops.size → m ≤ q → k ≤ fuel → l.size = ops.size → (∀ i, i < q → l.getD i false = true) → (∀ i, q ≤ i → i < ops.size → l.getD i false = false) →
      wpOpsIn (wide ro) 0 P ops Q (List.range' q k) a w → wpAnyIn (wide ro) 0 P .any ops Q fuel l a w := by
  intro k
  induction k with
  | zero =>
    intro q fuel l a w hq hm hf hl h1 h2 h
    have hr : Region.ready .any ops l = [] := by
      apply List.eq_nil_iff_forall_not_mem.2
      intro i hi
      rw [mem_ready] at hi
      obtain ⟨h0, o, ho, _⟩ := hi
      have hlt := (Array.getElem?_eq_some_iff.1 ho).1
      have := h1 i (by omega)
      have e : l.getD i true = l.getD i false := by simp [Array.getD_eq_getD_getElem?, show i < l.size by omega]
      rw [e, this] at h0; cases h0
    cases fuel with
    | zero => exact ⟨hr, h⟩
    | succ f => exact ⟨fun _ => h, fun i hi => by rw [hr] at hi; cases hi⟩
  | succ k ih =>
    intro q fuel l a w hq hm hf hl h1 h2 h
    obtain ⟨f, rfl⟩ : ∃ f, fuel = f + 1 := ⟨fuel - 1, by omega⟩
    have only : ∀ i, i ∈ Region.ready .any ops l → i = q := fun i hi => by
      have hi' := hi
      rw [mem_ready] at hi'
      obtain ⟨h0, o, ho, _⟩ := hi'
      have hlt := (Array.getElem?_eq_some_iff.1 ho).1
      have e : l.getD i true = l.getD i false := by simp [Array.getD_eq_getD_getElem?, show i < l.size by omega]
      rcases Nat.lt_trichotomy i q with z | z | z
      · have := h1 i z; rw [e, this] at h0; cases h0
      · exact z
      · have hcl : Closed ops l := fun j hj o' ho' e' he' hb' => by
          have hjl := (Array.getElem?_eq_some_iff.1 ho').1
          have hjq : j < q := by
            rcases Nat.lt_or_ge j q with y | y
            · exact y
            · have := h2 j y hjl; rw [this] at hj; cases hj
          exact h1 _ (Nat.lt_trans (backOK_spec hback ho' e' he' hb') hjq)
        have := tailAt_ready hcl (ht i (by omega) hlt) hi q z
        rw [h2 q (Nat.le_refl _) (by omega)] at this; cases this
    refine ⟨fun hnil => ?_, fun i hi => ?_⟩
    · have := least_ready hback hl (q := q) (by omega) h1 (h2 q (Nat.le_refl _) (by omega))
      rw [hnil] at this; cases this
    · have := only i hi
      subst this
      rw [List.range'_succ, wpOpsIn_cons] at h
      refine wpOpIn_mono (fun a' w' h' => ih (i + 1) f _ a' w' (by omega) (by omega) (by omega) (by simp [hl]) (fun i' hi' => ?_) (fun i' hi' hs => ?_) h') h
      · by_cases e : i' = i
        · subst e; simp [show i' < l.size by omega]
        · rw [getD_set_ne false (Ne.symm e)]; exact h1 i' (by omega)
      · rw [getD_set_ne false (by omega)]; exact h2 i' (by omega) hs
theorem any_mono {F : Fence} {n : Nat} {P : Program} {md : Region.Mode} {ops : Array Oper} {Q Q' : Exit → Act → World → Prop} (hq : ∀ e a w, Q e a w → Q' e a w) : ∀ {fuel : Nat} {l : Array Bool} {a : Act} {w : World},
    wpAnyIn F n P md ops Q fuel l a w → wpAnyIn F n P md ops Q' fuel l a w := by
  intro fuel
  induction fuel with
  | zero => intro l a w h; exact ⟨h.1, hq _ _ _ h.2⟩
  | succ f ih =>
    intro l a w h
    refine ⟨fun hn => hq _ _ _ (h.1 hn), fun i hi => ?_⟩
    have := h.2 i hi
    unfold wpOpIn at this ⊢
    cases ho : ops[i]? with
    | none => simp only [ho] at this; exact ih this
    | some o =>
      simp only [ho] at this ⊢
      by_cases hw : Region.wanted o (yielded ops a.tmps) = true
      · simp only [hw, if_true] at this ⊢
        exact ⟨this.1, uponIn_mono (fun _ _ => ih) hq _ this.2⟩
      · simp only [hw, if_false, Bool.false_eq_true] at this ⊢
        exact ⟨this.1, ih this.2⟩
theorem AWP.region_any {P : Program} {ro : Env} {id : Nat} {ops : Array Oper} {S : St} {Q : Exit → St → Prop} (m : Nat) (hmx : P.follows .mixedOrders = true) (hback : backOK ops = true) (hm : m ≤ ops.size)
    (ht : ∀ j, m ≤ j → j < ops.size → tailAt ops j = true) (inv : Array Bool → St) (h0 : ∀ β G K a w, RS β G K S a w → ∃ β', β.le β' ∧ RS β' G K (inv (Array.replicate ops.size false)) a w)
    (step : ∀ (l : Array Bool) (i : Nat), l.size = ops.size → i < m → l.getD i false = false → (∀ j, m ≤ j → l.getD j false = false) → i ∈ Region.ready .any ops l → AStep P ro ops i (inv l) (inv (l.setIfInBounds i true)))
    (last : ∀ (l : Array Bool), l.size = ops.size → (∀ i, i < m → l.getD i false = true) → (∀ j, m ≤ j → l.getD j false = false) → AOps P ro ops (List.range' m (ops.size - m)) (inv l) Q) : AWP P ro (.region id ops true) S Q := fun β G K a w r => by
  refine wpIn_region_any hmx ?_
  have key : ∀ (fuel : Nat) (l : Array Bool) β G K a w, l.size = ops.size → unl l m + (ops.size - m) ≤ fuel → (∀ j, m ≤ j → l.getD j false = false) → Closed ops l → RS β G K (inv l) a w → wpAnyIn (wide ro) 0 P .any ops (Post ro.m Q β G K) fuel l a w := by
    intro fuel
    induction fuel with
    | zero =>
      intro l β G K a w hl hf hj hcl r
      have h1 := unl_zero l m (by omega)
      exact tail_any hback ht (ops.size - m) m 0 l a w (by omega) (Nat.le_refl _) (by omega) hl h1 (fun i hi _ => hj i hi) (last l hl h1 hj β G K a w r)
    | succ fuel ih =>
      intro l β G K a w hl hf hj hcl r
      by_cases hz : unl l m = 0
      · have h1 := unl_zero l m hz
        exact tail_any hback ht (ops.size - m) m (fuel + 1) l a w (by omega) (Nat.le_refl _) (by omega) hl h1 (fun i hi _ => hj i hi) (last l hl h1 hj β G K a w r)
      ·
        have ex : ∃ q, q < m ∧ l.getD q false = false ∧ ∀ i, i < q → l.getD i false = true := by
          clear ih hf r step last
          have : ∀ k, unl l k ≠ 0 → ∃ q, q < k ∧ l.getD q false = false ∧ ∀ i, i < q → l.getD i false = true := by
            intro k
            induction k with
            | zero => intro h; simp [unl] at h
            | succ k ihk =>
              intro h
              by_cases hk : unl l k = 0
              · refine ⟨k, by omega, ?_, unl_zero l k hk⟩
                cases hc : l.getD k false with
                | false => rfl
                | true => simp [unl, hk, hc] at h
              · obtain ⟨q, q1, q2, q3⟩ := ihk hk
                exact ⟨q, by omega, q2, q3⟩
          exact this m hz
        obtain ⟨q, q1, q2, q3⟩ := ex
        refine ⟨fun hnil => ?_, fun i hi => ?_⟩
        · have := least_ready hback hl (q := q) (by omega) q3 q2
          rw [hnil] at this; cases this
        · have hi' := hi
          rw [mem_ready] at hi'
          obtain ⟨e0, o, ho, _⟩ := hi'
          have hlt := (Array.getElem?_eq_some_iff.1 ho).1
          have e : l.getD i true = l.getD i false := by simp [Array.getD_eq_getD_getElem?, show i < l.size by omega]
          rw [e] at e0
          have him : i < m := by
            rcases Nat.lt_or_ge i m with z | z
            · exact z
            · have := tailAt_ready hcl (ht i z hlt) hi q (by omega)
              rw [q2] at this; cases this
          refine step l i hl him e0 hj hi β G K a w _ _ r fun β' G' K' a' w' hL hG hK r' => ?_
          have hu := unl_set l i (by omega) e0 m
          rw [if_pos him] at hu
          have hpos := unl_pos l i e0 m him
          have := ih (l.setIfInBounds i true) β' G' K' a' w' (by simp [hl]) (by omega) (fun j hj' => by rw [getD_set_ne false (by omega)]; exact hj j hj') (hcl.set hi) r'
          exact any_mono (fun e a w hp => hp.up hL hG hK) this
  obtain ⟨β', hle, r'⟩ := h0 β G K a w r
  refine any_mono (fun e a w hp => hp.up (hle.low _) (G.ext_refl K) K.le_refl) (key ops.size _ β' G K a _ (by simp) ?_ (fun j _ => ?_) (fun j hj => ?_) r'.drew)
  · have : ∀ k, unl (Array.replicate ops.size false) k ≤ k := by
      intro k
      induction k with
      | zero => simp [unl]
      | succ k ih => simp only [unl]; split <;> omega
    have := this m
    omega
  · simp only [Array.getD_eq_getD_getElem?, Array.getElem?_replicate]; split <;> rfl
  · exfalso
    have : (Array.replicate ops.size false).getD j false = false := by simp only [Array.getD_eq_getD_getElem?, Array.getElem?_replicate]; split <;> rfl
    rw [this] at hj; cases hj
def isRead : Op → Bool
  | .alloc _ | .box _ _ | .buildSlice _ _ _ | .store _ _ _ | .makeSlice _ _ _ => false
  | _ => true
theorem loadV_app {P : Program} {h : List Blk} {t : TypeId} {v : V} {r : Bool × V} (l : List Blk) (he : loadV P h t v = some r) : loadV P (h ++ l) t v = some r := by
  cases v with
  | ref i rr off =>
    simp only [loadV] at he ⊢
    cases hk : h[i]? with
    | none => rw [hk] at he; simp at he
    | some k => rw [List.getElem?_append_left (List.getElem?_eq_some_iff.1 hk).1, hk]; rw [hk] at he; exact he
  | _ => exact he
theorem loadA_app {P : Program} {h : List Blk} {t : TypeId} {v u : V} (l : List Blk) (he : loadA P h t v = some u) : loadA P (h ++ l) t v = some u := by
  unfold loadA at he ⊢
  split at he
  · cases v with
    | ref i rr off =>
      simp only at he ⊢
      cases hk : h[i]? with
      | none => rw [hk] at he; simp at he
      | some k => rw [List.getElem?_append_left (List.getElem?_eq_some_iff.1 hk).1, hk]; rw [hk] at he; exact he
    | _ => exact he
  · cases he
theorem loadA_none_app {P : Program} {h : List Blk} {t : TypeId} {v : V} {r : Bool × V} (l : List Blk) (hn : loadA P h t v = none) (he : loadV P h t v = some r) : loadA P (h ++ l) t v = none := by
  cases v with
  | ref i rr off =>
    cases hk : h[i]? with
    | none => simp [loadV, hk] at he
    | some k =>
      unfold loadA at hn ⊢
      simp only [List.getElem?_append_left (List.getElem?_eq_some_iff.1 hk).1] at hn ⊢
      exact hn
  | _ => unfold loadA; split <;> rfl
theorem there_app {h : List Blk} {v : V} (l : List Blk) (he : there h v = true) : there (h ++ l) v = true := by
  cases v <;> first | rfl | skip
  simp only [there, decide_eq_true_eq] at he ⊢
  simp; omega
theorem rowsAt_app {h : List Blk} {v : V} {n : Nat} (l : List Blk) (he : there h v = true) : rowsAt (h ++ l) n v = rowsAt h n v := by
  cases v <;> first | rfl | skip
  simp only [there, decide_eq_true_eq] at he
  simp only [rowsAt, List.getElem?_append_left he]
theorem indexAddrV_app {P : Program} {h : List Blk} {t : TypeId} {x i : V} {r : Bool × V} (l : List Blk) (he : indexAddrV P h t x i = some r) : indexAddrV P (h ++ l) t x i = some r := by
  unfold indexAddrV at he ⊢
  split at he
  · exact he
  · rename_i e b n k j hu
    cases hk : h[b]? with
    | none => rw [hk] at he; simp at he
    | some q => rw [List.getElem?_append_left (List.getElem?_eq_some_iff.1 hk).1, hk]; rw [hk] at he; exact he
  · rename_i len e k j hu
    split at he
    · rename_i hc
      rw [if_pos ⟨hc.1, there_app l hc.2⟩, rowsAt_app l hc.2]; exact he
    · cases he
  · cases he
theorem sliceH_app {P : Program} {h : List Blk} {t : TypeId} {x lo hi : V} {l0 : Bool} {r : Bool × V} (l : List Blk) (he : sliceH P h t x lo hi l0 = some r) : sliceH P (h ++ l) t x lo hi l0 = some r := by
  unfold sliceH at he ⊢
  split at he
  · rename_i e b n k lv k' u hu
    cases hk : h[b]? with
    | none => rw [hk] at he; simp at he
    | some q => rw [List.getElem?_append_left (List.getElem?_eq_some_iff.1 hk).1, hk]; rw [hk] at he; exact he
  · rename_i len e b rr off k lv k' u hu
    split at he
    · rename_i hc
      have ht : there h (.ref b rr off) = true := by simp [there, hc.2.2]
      rw [if_pos ⟨hc.1, hc.2.1, by simp; omega⟩, rowsAt_app l ht]
      cases hra : rowsAt h (szOf P e) (.ref b rr off) with
      | none => rw [hra] at he; exact he
      | some b' =>
        rw [hra] at he
        have hb : b' = b := by
          unfold rowsAt at hra
          simp only at hra
          split at hra
          · split at hra
            · simpa using hra.symm
            · cases hra
          · cases hra
        subst hb
        cases l0
        · exact he
        · simp only [List.getElem?_append_left hc.2.2]
          exact he
    · cases he
  · exact he
  · cases he
theorem sliceH_none_app {P : Program} {h : List Blk} {t : TypeId} {x lo hi lo' hi' : V} {l0 : Bool} {r : Bool × V} (l : List Blk) (hn : sliceH P h t x lo hi l0 = none) (he : sliceV P t x lo' hi' = some r) : sliceH P (h ++ l) t x lo hi l0 = none := by
  unfold sliceV at he
  split at he
  · unfold sliceH; split <;> first | rfl | simp_all
  · unfold sliceH; split <;> first | rfl | simp_all
  · cases he
theorem evalOp_app' {P : Program} {ρ : Operand → V} {h : List Blk} {op : Op} (hr : isRead op = true) (h1 : ∀ t a, op ≠ .load t a) (h2 : ∀ t x i, op ≠ .indexAddr t x i) (h3 : ∀ t x lo hi mx, op ≠ .slice t x lo hi mx) (l : List Blk) :
    evalOp P ρ (h ++ l) op = (evalOp P ρ h op).map fun (b, v, _) => (b, v, h ++ l) := by
  cases op
  case load t a => exact absurd rfl (h1 t a)
  case indexAddr t x i => exact absurd rfl (h2 t x i)
  case slice t x lo hi mx => exact absurd rfl (h3 t x lo hi mx)
  case call c =>
    obtain ⟨cal, args, ts⟩ := c
    cases cal with
    | builtin bb => cases bb <;> simp only [evalOp] <;> (repeat' (first | rfl | split))
    | value f => rfl
    | invoke a b => rfl
  all_goals first
    | (simp [isRead] at hr; done)
    | (simp only [evalOp] <;> (repeat' (first | rfl | split)))
theorem evalOp_slice_app {P : Program} {ρ : Operand → V} {h h' : List Blk} {t : TypeId} {x : Operand} {lo hi mx : Option Operand} {b : Bool} {v : V} (l : List Blk) (he : evalOp P ρ h (.slice t x lo hi mx) = some (b, v, h')) :
    h' = h ∧ evalOp P ρ (h ++ l) (.slice t x lo hi mx) = some (b, v, h ++ l) := by
  have two : ∀ (q : Option (Bool × V)) (a1 a2 a3 a4 : V) (l0 : Bool), q = sliceV P t (ρ x) a1 a2 →
      (match sliceH P h t (ρ x) a3 a4 l0 with | some (ob, v) => some (ob, v, h) | none => match q with | some (ob, v) => some (ob, v, h) | none => none) = some (b, v, h') →
      h' = h ∧ (match sliceH P (h ++ l) t (ρ x) a3 a4 l0 with | some (ob, v) => some (ob, v, h ++ l) | none => match q with | some (ob, v) => some (ob, v, h ++ l) | none => none) = some (b, v, h ++ l) := by
    intro q a1 a2 a3 a4 l0 hq hh
    cases hs : sliceH P h t (ρ x) a3 a4 l0 with
    | some r =>
      rw [hs] at hh
      rw [sliceH_app l hs]
      simp only [Option.some.injEq, Prod.mk.injEq] at hh ⊢
      exact ⟨hh.2.2.symm, hh.1, hh.2.1, trivial⟩
    | none =>
      rw [hs] at hh
      cases q with
      | none => cases hh
      | some r =>
        rw [sliceH_none_app l hs hq.symm]
        simp only [Option.some.injEq, Prod.mk.injEq] at hh ⊢
        exact ⟨hh.2.2.symm, hh.1, hh.2.1, trivial⟩
  cases lo with
  | none =>
    cases hi with
    | none =>
      cases mx with
      | some _ => simp [evalOp] at he
      | none =>
        simp only [evalOp] at he ⊢
        cases hs : sliceH P h t (ρ x) (.int .i64 0) (lenAt P t (ρ x)) true with
        | none => rw [hs] at he; cases he
        | some r =>
          rw [hs] at he
          rw [sliceH_app l hs]
          simp only [Option.some.injEq, Prod.mk.injEq] at he ⊢
          exact ⟨he.2.2.symm, he.1, he.2.1, trivial⟩
    | some hi =>
      cases mx with
      | some _ => simp [evalOp] at he
      | none => simp only [evalOp] at he ⊢; exact two _ _ _ _ _ _ rfl he
  | some lo =>
    cases hi with
    | none =>
      cases mx with
      | some _ => simp [evalOp] at he
      | none => simp only [evalOp] at he ⊢; exact two _ _ _ _ _ _ rfl he
    | some hi =>
      cases mx with
      | some _ => simp [evalOp] at he
      | none => simp only [evalOp] at he ⊢; exact two _ _ _ _ _ _ rfl he
theorem evalOp_read_app {P : Program} {ρ : Operand → V} {h h' : List Blk} {op : Op} {b : Bool} {v : V} (hr : isRead op = true) (l : List Blk) (he : evalOp P ρ h op = some (b, v, h')) : h' = h ∧ evalOp P ρ (h ++ l) op = some (b, v, h ++ l) := by
  by_cases h1 : ∃ t a, op = .load t a
  · obtain ⟨t, a, rfl⟩ := h1
    simp only [evalOp] at he ⊢
    split at he
    · rename_i ht
      rw [if_pos ht]
      split at he
      · rename_i u hl
        rw [loadA_app l hl]; simp only [Option.some.injEq, Prod.mk.injEq] at he ⊢; exact ⟨he.2.2.symm, he.1, he.2.1, trivial⟩
      split at he
      · rename_i hn _ ob u hl
        rw [loadA_none_app l hn hl, loadV_app l hl]; simp only [Option.some.injEq, Prod.mk.injEq] at he ⊢; exact ⟨he.2.2.symm, he.1, he.2.1, trivial⟩
      · cases he
    · cases he
  by_cases h2 : ∃ t x i, op = .indexAddr t x i
  · obtain ⟨t, x, i, rfl⟩ := h2
    simp only [evalOp] at he ⊢
    split at he
    · rename_i ob u hl
      rw [indexAddrV_app l hl]; simp only [Option.some.injEq, Prod.mk.injEq] at he ⊢; exact ⟨he.2.2.symm, he.1, he.2.1, trivial⟩
    · cases he
  by_cases h3 : ∃ t x lo hi mx, op = .slice t x lo hi mx
  · obtain ⟨t, x, lo, hi, mx, rfl⟩ := h3
    exact evalOp_slice_app l he
  · have e0 := evalOp_app' (P := P) (ρ := ρ) (h := h) hr (fun t a e => h1 ⟨t, a, e⟩) (fun t x i e => h2 ⟨t, x, i, e⟩) (fun t x lo hi mx e => h3 ⟨t, x, lo, hi, mx, e⟩) []
    rw [List.append_nil, he] at e0
    simp only [Option.map_some, Option.some.injEq, Prod.mk.injEq, true_and] at e0
    refine ⟨e0, ?_⟩
    rw [evalOp_app' hr (fun t a e => h1 ⟨t, a, e⟩) (fun t x i e => h2 ⟨t, x, i, e⟩) (fun t x lo hi mx e => h3 ⟨t, x, lo, hi, mx, e⟩) l, he]; rfl
theorem evalOp_app {P : Program} {ρ : Operand → V} {h h' : List Blk} {op : Op} {b : Bool} {v : V} (hr : isRead op = true) (l : List Blk) (he : evalOp P ρ h op = some (b, v, h')) : evalOp P ρ (h ++ l) op = some (b, v, h ++ l) := (evalOp_read_app hr l he).2
theorem mapV_congr {ρ ρ' : Operand → V} {l : Array (Nat × Operand)} (h : ∀ x ∈ (l.toList.map (·.2)), ρ x = ρ' x) : mapV l ρ = mapV l ρ' := by
  unfold mapV
  apply List.map_congr_left
  intro p hp
  have := h p.2 (List.mem_map_of_mem hp)
  simp [this]
theorem evalOp_congr {P : Program} {ρ ρ' : Operand → V} {h : List Blk} {op : Op} (hρ : ∀ x ∈ op.operands, ρ x = ρ' x) (hr : isRead op = true) : evalOp P ρ h op = evalOp P ρ' h op := by
  cases op
  case build t parts =>
    have : mapV parts ρ = mapV parts ρ' := mapV_congr fun x hx => hρ x (by simpa [Op.operands] using hx)
    simp only [evalOp, this]
  case slice t x lo hi mx =>
    have hx := hρ x (by simp [Op.operands])
    cases lo <;> cases hi <;> cases mx <;> simp only [evalOp, hx] <;> (try rfl)
    · rename_i hi; rw [hρ hi (by simp [Op.operands])]
    · rename_i lo; rw [hρ lo (by simp [Op.operands])]
    · rename_i lo hi; rw [hρ lo (by simp [Op.operands]), hρ hi (by simp [Op.operands])]
  case makeFunc fn first caps =>
    have h1 : first.toList.map ρ = first.toList.map ρ' := List.map_congr_left fun x hx => hρ x (by simp [Op.operands] at hx ⊢; exact .inl hx)
    have h2 : caps.toList.map ρ = caps.toList.map ρ' := List.map_congr_left fun x hx => hρ x (by simp [Op.operands] at hx ⊢; exact .inr hx)
    simp only [evalOp, h1, h2]
  case call c =>
    obtain ⟨cal, args, ts⟩ := c
    cases cal with
    | builtin bb =>
      cases bb <;> simp only [evalOp]
      case len =>
        have : args.size = 1 → ρ (args.getD 0 (.const (.bool true))) = ρ' (args.getD 0 (.const (.bool true))) := fun hs => by
          apply hρ
          obtain ⟨x, rfl⟩ := size_one args hs
          simp [Op.operands, Call.operands]
        by_cases hs : args.size = 1
        · rw [this hs]
        · simp only [hs, false_and, if_false]
          split <;> split <;> rfl
      all_goals
        split
        · rename_i x y hxy
          have e1 := hρ x (by simp only [Op.operands, Call.operands, Array.mem_append]; right; rw [← Array.mem_toList_iff, hxy]; simp)
          have e2 := hρ y (by simp only [Op.operands, Call.operands, Array.mem_append]; right; rw [← Array.mem_toList_iff, hxy]; simp)
          rw [e1, e2]
        · rfl
    | value f => rfl
    | invoke a b => rfl
  all_goals first
    | (simp [isRead] at hr; done)
    | rfl
    | (have h1 := hρ _ (show _ ∈ Op.operands _ by simp [Op.operands]; exact .inl rfl); simp only [evalOp, h1]; done)
    | skip
  all_goals simp only [evalOp]
  case pick c a b => rw [hρ c (by simp [Op.operands]), hρ a (by simp [Op.operands]), hρ b (by simp [Op.operands])]
  all_goals first
    | (rw [hρ _ (by simp [Op.operands])]; done)
    | (rename_i x y; rw [hρ x (by simp [Op.operands]), hρ y (by simp [Op.operands])]; done)
    | (rename_i x y _; rw [hρ x (by simp [Op.operands]), hρ y (by simp [Op.operands])]; done)
    | (rename_i x _; rw [hρ x (by simp [Op.operands])]; done)
abbrev FR := Bool × V × Option Blk × Option (FuncId × List V)
def frOp (P : Program) (h0 : List Blk) (nb : Nat) (cr : Nat → V) (S : St) (i : Nat) (o : Oper) : Option FR :=
  match o.op with
  | .alloc t =>
    match zeroCs P t with
    | some zs => some (true, .ref (h0.length + nb) 0 0, some (zeroBlk P t zs).1, none)
    | none => none
  | .box t x =>
    match cellsOf P t (S.eval x) with
    | some vs => some (true, .ref (h0.length + nb) 0 0, some (newBlk P t (S.eval x) vs).1, none)
    | none => none
  | .buildSlice t len parts =>
    match P.underlying t with
    | some (.slice e) =>
      if hasT P e = true ∧ 0 < szOf P e ∧ len * szOf P e ≤ 16777216 then
        match zeroCs P e with
        | some zs =>
          if zs.length = szOf P e then
            match fillV P (fun i => some (i * szOf P e, e)) ((List.range (len * szOf P e)).map fun q => zs.getD (q % szOf P e) .undef) (mapV parts S.eval) with
            | some cs => if underL 0 cs = true then some (true, (if len = 0 then .nils else .list (szOf P e) len (litC (szOf P e) len cs)), none, none) else none
            | none => none
          else none
        | none => none
      else none
    | _ => none
  | .call { callee := .value f, args := args, argTypes := _ } =>
    match fnOf (S.eval f) with
    | some (g, first, caps) => some (true, cr i, none, some (g, callArgs S first caps args))
    | none => none
  | .call { callee := .builtin .append, args := ⟨[s, x]⟩, argTypes := ⟨[t, t']⟩ } =>
    match P.underlying t, S.eval s, S.eval x with
    | some (.slice e), .nils, .list w k c =>
      match zeroCs P e with
      | some zs =>
        if t = t' ∧ hasT P e = true ∧ szOf P e = w ∧ 0 < w ∧ zs.length = w ∧ P.bytesOf e ≤ 32768 then
          some (decide (k ≤ 4294967296) && (List.range k).all fun r => (List.range w).all fun j => (c r j).scalar, .row (h0.length + nb) k, some (.rows e w k c), none)
        else none
      | none => none
    | _, _, _ => none
  | op =>
    if isRead op = true then
      match evalOp P S.eval h0 op with
      | some (b, v, _) => some (b, v, none, none)
      | none => none
    else none
def ovr (ov : List (Nat × Bool)) (i : Nat) (r : FR) : FR :=
  match ov.lookup i, r.2.1 with
  | some c, .bool b => (r.1 && (b == c), .bool c, r.2.2)
  | _, _ => r
theorem ovr_eq {ov : List (Nat × Bool)} {i : Nat} {r : FR} (h : (ovr ov i r).1 = true) : r = ovr ov i r := by
  unfold ovr at h ⊢
  split
  · rename_i c b _ hb
    rename_i hl
    simp only [hl, hb, Bool.and_eq_true, beq_iff_eq] at h
    obtain ⟨h1, rfl⟩ := h
    obtain ⟨r1, r2, r3⟩ := r
    simp only at hb h1 ⊢
    subst hb; subst h1
    simp
  · rfl
def frRun (P : Program) (ops : Array Oper) (h0 : List Blk) (cr : Nat → V) (ov : List (Nat × Bool)) : List Nat → Nat → St → Option (List FR)
  | [], _, _ => some []
  | i :: is, nb, S =>
    match ops[i]? with
    | none => none
    | some o =>
      match wantedV ops S o with
      | some false =>
        match frRun P ops h0 cr ov is nb (S.put o.dst (.tuple [])) with
        | some rs => some ((true, .tuple [], none, none) :: rs)
        | none => none
      | some true =>
        match frOp P h0 nb cr S i o with
        | some r =>
          match frRun P ops h0 cr ov is (if (ovr ov i r).2.2.1.isSome = true then nb + 1 else nb) (S.put o.dst (ovr ov i r).2.1) with
          | some rs => some (ovr ov i r :: rs)
          | none => none
        | none => none
      | none => none
abbrev fr0 : FR := (true, .tuple [], none, none)
def dstOf (ops : Array Oper) (j : Nat) : Option Tmp := (ops[j]?).bind (·.dst)
def who (ops : Array Oper) (m : Nat) (l : Nat → Bool) (x : Nat) : Option Nat := (List.range m).find? fun j => l j && (dstOf ops j == some x)
def tAt (ops : Array Oper) (m : Nat) (rs : List FR) (l : Nat → Bool) (t0 : List V) : List V :=
  (List.range t0.length).map fun x => match who ops m l x with | some j => (rs.getD j fr0).2.1 | none => t0.getD x .undef
def frontOK (ops : Array Oper) (m : Nat) : Bool :=
  (List.range m).all fun i =>
    ((List.range m).all fun j => i == j || (dstOf ops i).isNone || dstOf ops i != dstOf ops j) &&
    match ops[i]? with
    | none => true
    | some o => (o.looksAt ops).all fun x => (List.range m).all fun j => dstOf ops j != some x || (decide (j < i) && o.after.any fun e => e.on == j && Region.binds .any e)
section
variable {P : Program} {ops : Array Oper} {m : Nat} {rs : List FR} {t0 : List V}
theorem front_dst (hf : frontOK ops m = true) {i j : Nat} (hi : i < m) (hj : j < m) {d : Tmp} (h1 : dstOf ops i = some d) (h2 : dstOf ops j = some d) : i = j := by
  simp only [frontOK, List.all_eq_true, List.mem_range, Bool.and_eq_true] at hf
  have := (hf i hi).1 j hj
  simp only [Bool.or_eq_true, beq_iff_eq, bne_iff_ne, h1, h2, Option.isNone_some, Bool.false_eq_true, or_false, ne_eq, not_true_eq_false] at this
  exact this
theorem front_look (hf : frontOK ops m = true) {i j : Nat} (hi : i < m) (hj : j < m) {o : Oper} (ho : ops[i]? = some o) {x : Tmp} (hx : x ∈ o.looksAt ops) (hd : dstOf ops j = some x) : j < i ∧ ∃ e ∈ o.after, e.on = j ∧ Region.binds .any e = true := by
  simp only [frontOK, List.all_eq_true, List.mem_range, Bool.and_eq_true] at hf
  have := (hf i hi).2
  rw [ho] at this
  simp only [List.all_eq_true, List.mem_range] at this
  have := this x hx j hj
  simp only [hd, Bool.or_eq_true, bne_iff_ne, ne_eq, not_true_eq_false, false_or, Bool.and_eq_true, decide_eq_true_eq] at this
  refine ⟨this.1, ?_⟩
  rw [Array.any_eq_true] at this
  obtain ⟨q, hq, hb⟩ := this.2
  simp only [Bool.and_eq_true, beq_iff_eq] at hb
  exact ⟨_, Array.getElem_mem hq, hb.1, hb.2⟩
theorem tAt_len (l : Nat → Bool) : (tAt ops m rs l t0).length = t0.length := by simp [tAt]
theorem tAt_getD (l : Nat → Bool) (x : Nat) (hx : x < t0.length) : (tAt ops m rs l t0).getD x .undef = match who ops m l x with | some j => (rs.getD j fr0).2.1 | none => t0.getD x .undef := by
  unfold tAt
  rw [getD_ofFn _ _ hx]
theorem who_none {l : Nat → Bool} {x : Nat} : who ops m l x = none ↔ ∀ j, j < m → l j = true → dstOf ops j ≠ some x := by
  unfold who
  rw [List.find?_eq_none]
  constructor
  · intro h j hj hl hd
    have := h j (List.mem_range.2 hj)
    simp [hl, hd] at this
  · intro h j hj
    have := h j (List.mem_range.1 hj)
    simp only [Bool.and_eq_true, beq_iff_eq, not_and]
    exact fun hl => this hl
theorem who_some (hf : frontOK ops m = true) {l : Nat → Bool} {x j : Nat} (hj : j < m) (hl : l j = true) (hd : dstOf ops j = some x) : who ops m l x = some j := by
  cases h : who ops m l x with
  | none => exact absurd hd (who_none.1 h j hj hl)
  | some k =>
    have h1 := List.find?_some h
    have h2 := List.mem_of_find?_eq_some h
    simp only [Bool.and_eq_true, beq_iff_eq] at h1
    rw [front_dst hf (List.mem_range.1 h2) hj h1.2 hd]
theorem tAt_set (hf : frontOK ops m = true) {l l' : Nat → Bool} {i : Nat} (hi : i < m) (hli : l i = false) (hl' : ∀ j, j < m → l' j = (l j || j == i)) : tAt ops m rs l' t0 = match dstOf ops i with | some d => (tAt ops m rs l t0).set d (rs.getD i fr0).2.1 | none => tAt ops m rs l t0 := by
  have hlen : ∀ q, (tAt ops m rs q t0).length = t0.length := fun q => tAt_len q
  have pt : ∀ x, x < t0.length → dstOf ops i ≠ some x → (tAt ops m rs l' t0).getD x .undef = (tAt ops m rs l t0).getD x .undef := fun x hx hne => by
    rw [tAt_getD _ _ hx, tAt_getD _ _ hx]
    have : who ops m l' x = who ops m l x := by
      cases h : who ops m l x with
      | none =>
        rw [who_none] at h ⊢
        intro j hj hlj
        rw [hl' j hj] at hlj
        simp only [Bool.or_eq_true, beq_iff_eq] at hlj
        rcases hlj with q | q
        · exact h j hj q
        · subst q; exact hne
      | some k =>
        have h1 := List.find?_some h
        have h2 := List.mem_range.1 (List.mem_of_find?_eq_some h)
        simp only [Bool.and_eq_true, beq_iff_eq] at h1
        exact who_some hf h2 (by rw [hl' k h2, h1.1]; rfl) h1.2
    rw [this]
  apply List.ext_getElem?
  intro x
  have conv : ∀ (q : List V), q.length = t0.length → x < t0.length → q[x]? = some (q.getD x .undef) := fun q hq hx => by
    rw [List.getD_eq_getElem?_getD, List.getElem?_eq_getElem (by omega)]; rfl
  rcases Nat.lt_or_ge x t0.length with hx | hx
  · cases hd : dstOf ops i with
    | none =>
      simp only
      rw [conv _ (hlen _) hx, conv _ (hlen _) hx, pt x hx (by rw [hd]; simp)]
    | some d =>
      simp only
      by_cases e : d = x
      · subst e
        rw [List.getElem?_set_self (by rw [hlen]; exact hx), conv _ (hlen _) hx, tAt_getD _ _ hx, who_some hf hi (by rw [hl' i hi]; simp) hd]
      · rw [List.getElem?_set_ne e, conv _ (hlen _) hx, conv _ (hlen _) hx, pt x hx (by rw [hd]; simp [e])]
  · rw [List.getElem?_eq_none (by rw [hlen]; exact hx)]
    cases hd : dstOf ops i with
    | none => simp only; rw [List.getElem?_eq_none (by rw [hlen]; exact hx)]
    | some d => simp only; rw [List.getElem?_eq_none (by simp [hlen]; exact hx)]
theorem tAt_none {l : Nat → Bool} (h : ∀ j, j < m → l j = false) : tAt ops m rs l t0 = t0 := by
  apply List.ext_getElem?
  intro x
  rcases Nat.lt_or_ge x t0.length with hx | hx
  · have h1 : (tAt ops m rs l t0)[x]? = some ((tAt ops m rs l t0).getD x .undef) := by
      rw [List.getD_eq_getElem?_getD, List.getElem?_eq_getElem (by rw [tAt_len]; exact hx)]; rfl
    rw [h1, tAt_getD _ _ hx]
    have : who ops m l x = none := who_none.2 fun j hj hl => by rw [h j hj] at hl; cases hl
    rw [this]
    simp only
    rw [List.getD_eq_getElem?_getD, List.getElem?_eq_getElem hx]; rfl
  · rw [List.getElem?_eq_none (by rw [tAt_len]; exact hx), List.getElem?_eq_none hx]
def rank (rs : List FR) : Nat → Nat
  | 0 => 0
  | i + 1 => rank rs i + if (rs.getD i fr0).2.2.1.isSome = true then 1 else 0
def bl (rs : List FR) (l : Nat → Bool) : Nat → List Blk
  | 0 => []
  | i + 1 => bl rs l i ++ match (rs.getD i fr0).2.2.1 with | some k => [if l i = true then k else .void] | none => []
theorem bl_len (l : Nat → Bool) : ∀ k, (bl rs l k).length = rank rs k := by
  intro k
  induction k with
  | zero => rfl
  | succ k ih =>
    simp only [bl, rank, List.length_append, ih]
    cases (rs.getD k fr0).2.2.1 <;> simp
theorem rank_mono {i k : Nat} (h : i ≤ k) : rank rs i ≤ rank rs k := by
  induction k with
  | zero => have : i = 0 := by omega
            subst this; exact Nat.le_refl _
  | succ k ih =>
    by_cases e : i = k + 1
    · subst e; exact Nat.le_refl _
    · simp only [rank]; have := ih (by omega); omega
theorem bl_set {l l' : Nat → Bool} {i : Nat} (hl : ∀ j, j ≠ i → l' j = l j) (hi : l' i = true) : ∀ k, bl rs l' k = if i < k then (match (rs.getD i fr0).2.2.1 with | some b => (bl rs l k).set (rank rs i) b | none => bl rs l k) else bl rs l k := by
  intro k
  induction k with
  | zero => simp [bl]
  | succ k ih =>
    simp only [bl, ih]
    by_cases e : k = i
    · subst e
      rw [if_neg (Nat.lt_irrefl _), if_pos (Nat.lt_succ_self _)]
      cases hb : (rs.getD k fr0).2.2.1 with
      | none => simp
      | some b =>
        simp only [hi, if_true]
        rw [List.set_append_right _ _ (by rw [bl_len]; exact Nat.le_refl _), bl_len, Nat.sub_self]
        rfl
    · rw [hl k e]
      by_cases hk : i < k
      · rw [if_pos hk, if_pos (by omega)]
        cases hb : (rs.getD i fr0).2.2.1 with
        | none => rfl
        | some b =>
          simp only
          rw [List.set_append_left]
          rw [bl_len]
          have h1 : rank rs (i + 1) ≤ rank rs k := rank_mono hk
          simp only [rank, hb, Option.isSome_some, if_true] at h1
          omega
      · rw [if_neg hk, if_neg (by omega)]
theorem bl_get {l : Nat → Bool} {i k : Nat} (hik : i < k) {b : Blk} (hb : (rs.getD i fr0).2.2.1 = some b) : (bl rs l k)[rank rs i]? = some (if l i = true then b else .void) := by
  induction k with
  | zero => omega
  | succ k ih =>
    simp only [bl]
    by_cases e : k = i
    · subst e
      rw [List.getElem?_append_right (by rw [bl_len]; exact Nat.le_refl _), bl_len, Nat.sub_self, hb]; rfl
    · have hk : i < k := by omega
      rw [List.getElem?_append_left]
      · exact ih hk
      · rw [bl_len]
        have h1 : rank rs (i + 1) ≤ rank rs k := rank_mono hk
        simp only [rank, hb, Option.isSome_some, if_true] at h1
        omega
theorem bl_none {l : Nat → Bool} (h : ∀ j, l j = false) : ∀ k, bl rs l k = List.replicate (rank rs k) .void := by
  intro k
  induction k with
  | zero => rfl
  | succ k ih =>
    simp only [bl, rank, ih, h]
    cases (rs.getD k fr0).2.2.1 with
    | none => simp
    | some b => simp [List.replicate_succ']
end
theorem rep_get {α : Type} {n i : Nat} {a k : α} (h : (List.replicate n a)[i]? = some k) : k = a := by
  rw [List.getElem?_replicate] at h
  split at h
  · cases h; rfl
  · cases h
theorem RH.reserve {β : Homes} {G K : Kept} {h : List Blk} {w : World} (r : RH β G K h w) (n : Nat) : RH (β ++ List.replicate n Hm.void) G K (h ++ List.replicate n Blk.void) w := by
  have hl := r.len
  have home : ∀ {i : Nat} {x : Home}, (β ++ List.replicate n Hm.void)[i]? = some (.lie x) → i < h.length ∧ β[i]? = some (.lie x) := fun {i x} hb => by
    rcases Nat.lt_or_ge i h.length with hlt | hge
    · rw [List.getElem?_append_left (by omega)] at hb; exact ⟨hlt, hb⟩
    · rw [List.getElem?_append_right (by omega)] at hb; have := rep_get hb; cases this
  refine ⟨by simp [hl], fun i k hk => ?_, fun i j x y k k' hi hj g g' hbi hbj hxy => ?_, fun i x k hi g hb => ?_, r.keep, r.gk, r.amb, fun i X tr hi => ?_⟩
  · rcases Nat.lt_or_ge i h.length with hlt | hge
    · rw [List.getElem?_append_left hlt] at hk
      rw [List.getElem?_append_left (by omega)]
      by_cases hg : k = .gone
      · subst hg; cases (β[i]?.getD .void) <;> trivial
      exact (r.blk i k hk).mono (Kept.le_refl _) (Homes.le_append _ _) fun _ _ => rfl
    · rw [List.getElem?_append_right hge] at hk
      have e := rep_get hk
      subst e
      rw [List.getElem?_append_right (by omega)]
      have : (List.replicate n Hm.void)[i - β.length]?.getD .void = .void := by
        rw [List.getElem?_replicate]; split <;> rfl
      rw [this]; trivial
  · obtain ⟨l1, b1⟩ := home hbi
    obtain ⟨l2, b2⟩ := home hbj
    rw [List.getElem?_append_left l1] at hi
    rw [List.getElem?_append_left l2] at hj
    exact r.inj i j x y k k' hi hj g g' b1 b2 hxy
  · obtain ⟨l1, b1⟩ := home hb
    rw [List.getElem?_append_left l1] at hi
    exact r.sep i x k hi g b1
  · have lt : i < h.length := by
      rcases Nat.lt_or_ge i h.length with q | q
      · exact q
      · rw [List.getElem?_append_right q] at hi
        have := rep_get hi; cases this
    rw [List.getElem?_append_left lt] at hi
    obtain ⟨l, E, h1, h2, hbs, h3⟩ := r.ext i X tr hi
    refine ⟨l, E, Homes.le_append _ _ _ _ (by simp) h1, h2, hbs, fun b hE => ⟨(h3 b hE).1, fun j y k1 hj g hbj => ?_⟩⟩
    obtain ⟨l1, b1⟩ := home hbj
    rw [List.getElem?_append_left l1] at hj
    exact (h3 b hE).2 j y k1 hj g b1
theorem le_set_void {β : Homes} {i : Nat} {x : Hm} (h : β[i]? = some .void) : β.le (β.set i x) := fun j y hy hj => by
  by_cases e : i = j
  · subst e; rw [h] at hj; cases hj; exact absurd rfl hy
  · rw [List.getElem?_set_ne e]; exact hj
theorem RH.void_home {β : Homes} {G K : Kept} {h : List Blk} {w : World} (r : RH β G K h w) {i : Nat} (hi : h[i]? = some .void) : β[i]? = some .void := by
  have hlt : i < β.length := by rw [r.len]; exact (List.getElem?_eq_some_iff.1 hi).1
  have := r.blk i _ hi
  rw [List.getElem?_eq_getElem hlt] at this ⊢
  cases hb : β[i] with
  | void => rfl
  | nil => rw [hb] at this; exact this.elim
  | lie x => rw [hb] at this; exact this.elim
  | ext l => rw [hb] at this; exact this.elim
theorem RH.fill {β : Homes} {G K : Kept} {h : List Blk} {w : World} (r : RH β G K h w) {o : Obj} {k : Blk} {x : Home} {i : Nat} (hi : h[i]? = some .void) (hx : x.b = w.heap.size)
    (hk : BlkOK G (β.set i (.lie x)) (w.alloc o) k (.lie x)) : RH (β.set i (.lie x)) G K (h.set i k) (w.alloc o) := by
  have hv := r.void_home hi
  have hr := r.alloc o
  have hil : i < h.length := (List.getElem?_eq_some_iff.1 hi).1
  have hib : i < β.length := by rw [r.len]; exact hil
  have knone : K w.heap.size = none := by
    cases hk : K w.heap.size with
    | none => rfl
    | some o' => have := (Array.getElem?_eq_some_iff.1 (r.keep _ _ hk)).1; omega
  have hself : (β.set i (.lie x))[i]? = some (.lie x) := List.getElem?_set_self hib
  refine ⟨by simp [r.len], fun j kj hj => ?_, fun a b xa xb ka kb ha hb ga gb hba hbb hxy => ?_, fun j y kj hj g hb => ?_, hr.keep, r.gk, hr.amb, fun j X tr hj => ?_⟩
  · by_cases e : i = j
    · subst e
      rw [List.getElem?_set_self hil] at hj; simp only [Option.some.injEq] at hj; subst hj
      rw [hself]; exact hk
    · rw [List.getElem?_set_ne e] at hj
      rw [List.getElem?_set_ne e]
      by_cases hg : kj = .gone
      · subst hg; cases (β[j]?.getD .void) <;> trivial
      exact (hr.blk j kj hj).mono (Kept.le_refl _) (le_set_void hv) fun _ _ => rfl
  · by_cases ea : i = a
    · subst ea
      by_cases eb : i = b
      · exact eb
      · rw [hself] at hba; simp only [Option.some.injEq, Hm.lie.injEq] at hba; subst hba
        rw [List.getElem?_set_ne eb] at hb hbb
        have := (r.sep b xb kb hb gb hbb).2; omega
    · by_cases eb : i = b
      · subst eb
        rw [hself] at hbb; simp only [Option.some.injEq, Hm.lie.injEq] at hbb; subst hbb
        rw [List.getElem?_set_ne ea] at ha hba
        have := (r.sep a xa ka ha ga hba).2; omega
      · rw [List.getElem?_set_ne ea] at ha hba
        rw [List.getElem?_set_ne eb] at hb hbb
        exact r.inj a b xa xb ka kb ha hb ga gb hba hbb hxy
  · by_cases e : i = j
    · subst e
      rw [hself] at hb; simp only [Option.some.injEq, Hm.lie.injEq] at hb; subst hb
      rw [hx]; exact ⟨knone, by simp⟩
    · rw [List.getElem?_set_ne e] at hj hb
      exact hr.sep j y kj hj g hb
  · by_cases e : i = j
    · subst e
      rw [List.getElem?_set_self hil] at hj; simp only [Option.some.injEq] at hj; subst hj
      exact hk.elim
    · rw [List.getElem?_set_ne e] at hj
      obtain ⟨l, E, h1, h2, hbs, h3⟩ := r.ext j X tr hj
      refine ⟨l, E, by rw [List.getElem?_set_ne e]; exact h1, X.stable h2 (fun b o hb => by
        have q := X.keeps h2 b o hb
        rw [heap_alloc_lt w _ (Array.getElem?_eq_some_iff.1 q).1]; exact q) (fun b o hb => by
        have q := r.keep b o (hbs b o hb)
        rw [heap_alloc_lt w _ (Array.getElem?_eq_some_iff.1 q).1]; exact q) (by simp) (Mild.alloc w _), hbs, fun b hE => ⟨(h3 b hE).1, fun q y k1 hq g hbq => ?_⟩⟩
      by_cases e2 : i = q
      · subst e2
        rw [hself] at hbq; simp only [Option.some.injEq, Hm.lie.injEq] at hbq; subst hbq
        have := Ext.lt h2 hE; omega
      · rw [List.getElem?_set_ne e2] at hq hbq
        exact (h3 b hE).2 q y k1 hq g hbq
theorem uponIn_mono' {F : Fence} {n : Nat} {P : Program} {o : Oper} {a : Act} {next next' : Act → World → Prop} {Q Q' : Exit → Act → World → Prop} (hn : ∀ a w, next a w → next' a w) (hq : ∀ e a w, e ≠ .normal → Q e a w → Q' e a w) (x : Result Next)
    (h : o.uponIn F n P a next Q x) : o.uponIn F n P a next' Q' x := by
  have lo : LetsOut Q → LetsOut Q' := fun ⟨a, w, h⟩ => ⟨a, w, hq _ _ _ (by simp) h⟩
  cases x with
  | ok nx w =>
    cases nx with
    | value v => exact hn _ _ h
    | skip => exact hn _ _ h
    | defer d => exact hn _ _ h
    | enter f args => exact ⟨h.1, h.2.1, fun cs hr => let ⟨e, w', fr, r, s⟩ := h.2.2 cs hr; ⟨e, w', fr, by cases e with | returned v => exact hn _ _ r | panicked c => exact hq _ _ _ (by simp) r | outgrown => exact lo r, s⟩⟩
    | row row args => exact ⟨h.1, h.2.mono fun v w' r => hn _ _ r⟩
    | round l f t az bo => exact ⟨h.1, h.2.mono fun e w' r => by cases e with | returned v => exact hn _ _ r | panicked c => exact hq _ _ _ (by simp) r | outgrown => exact lo r⟩
    | _ => exact h.elim
  | halt hl w =>
    cases hl with
    | panic v => exact hq _ _ _ (by simp) h
    | _ => exact h.elim
theorem AStep.of_ops {P : Program} {ro : Env} {ops : Array Oper} {i : Nat} {S S' : St} (h : AOps P ro ops [i] S (fun e S2 => e = .normal ∧ S2 = S')) : AStep P ro ops i S S' := fun β G K a w Kc Qc r hK => by
  have h1 := h β G K a w r
  rw [wpOpsIn_cons] at h1
  unfold wpOpIn at h1 ⊢
  cases ho : ops[i]? with
  | none =>
    simp only [ho] at h1 ⊢
    obtain ⟨S2, β', G', K', a0, a1, a2, a3, _, rfl⟩ := h1
    exact hK _ _ _ _ _ a0 a1 a2 a3
  | some o =>
    simp only [ho] at h1 ⊢
    by_cases hw : Region.wanted o (yielded ops a.tmps) = true
    · simp only [hw, if_true] at h1 ⊢
      refine ⟨h1.1, uponIn_mono' (fun a' w' hp => ?_) (fun e a' w' he hp => ?_) _ h1.2⟩
      · obtain ⟨S2, β', G', K', a0, a1, a2, a3, _, rfl⟩ := hp
        exact hK _ _ _ _ _ a0 a1 a2 a3
      · obtain ⟨S2, β', G', K', a0, a1, a2, a3, hn, _⟩ := hp
        exact absurd hn he
    · simp only [hw, if_false, Bool.false_eq_true] at h1 ⊢
      refine ⟨h1.1, ?_⟩
      obtain ⟨S2, β', G', K', a0, a1, a2, a3, _, rfl⟩ := h1.2
      exact hK _ _ _ _ _ a0 a1 a2 a3
theorem AStep.of_val {P : Program} {ro : Env} {ops : Array Oper} {i : Nat} {S S1 : St} {o : Oper} {v : V} (hi : ops[i]? = some o) (hw : wantedV ops S o = some true) (hnd : ∀ c, o.op ≠ .defer c)
    (hh : ∀ β G K a w, RS β G K S a w → ∃ y w' β' G' K', (execOp a.eval o).run P w = .ok (.value y) w' ∧ Homes.low ro.m β β' ∧ G.ext K G' ∧ K.le K' ∧ RS β' G' K' S1 a w' ∧ Rel G' β' v y) : AStep P ro ops i S (S1.put o.dst v) := fun β G K a w Kc Qc r hK => by
  unfold wpOpIn
  simp only [hi, wanted_ok r hw, if_true, Oper.wpIn]
  refine ⟨fun _ _ => trivial, ?_⟩
  obtain ⟨y, w', β', G', K', hrun, h0, h1, h2, h3, h4⟩ := hh β G K a w r
  have hsem : (o.semAt (wide ro).round a.eval).run P w = .ok (.value y) w' := by
    rw [Oper.semAt_eq _ _ _ hnd]; exact hrun
  rw [hsem]
  exact hK _ _ _ _ _ h0 h1 h2 (h3.put h4 o.dst)
theorem tAt_congr {ops : Array Oper} {m : Nat} {rs rs' : List FR} {l l' : Nat → Bool} (t0 : List V) (hl : ∀ j, j < m → l j = l' j) (h : ∀ j, j < m → l j = true → (rs.getD j fr0).2.1 = (rs'.getD j fr0).2.1) : tAt ops m rs l t0 = tAt ops m rs' l' t0 := by
  unfold tAt
  apply List.map_congr_left
  intro x _
  have hw : who ops m l x = who ops m l' x := by
    unfold who
    have : ∀ (js : List Nat), (∀ j ∈ js, j < m) → js.find? (fun j => l j && (dstOf ops j == some x)) = js.find? (fun j => l' j && (dstOf ops j == some x)) := by
      intro js
      induction js with
      | nil => intro _; rfl
      | cons j js ih =>
        intro hj
        simp only [List.find?_cons, hl j (hj j (by simp)), ih fun k hk => hj k (by simp [hk])]
    exact this _ fun j hj => List.mem_range.1 hj
  rw [← hw]
  cases hq : who ops m l x with
  | none => rfl
  | some j =>
    have h1 := List.find?_some hq
    have h2 := List.mem_range.1 (List.mem_of_find?_eq_some hq)
    simp only [Bool.and_eq_true] at h1
    exact h j h2 h1.1
def bef (i : Nat) : Nat → Bool := fun j => decide (j < i)
def atI (ops : Array Oper) (m : Nat) (rs : List FR) (S : St) (i : Nat) : St := { S with t := tAt ops m rs (bef i) S.t }
def FrGave (P : Program) (ops : Array Oper) (h0 : List Blk) (cr : Nat → V) (ov : List (Nat × Bool)) (m : Nat) (S : St) (rs : List FR) (i : Nat) : Prop :=
  ∃ o, ops[i]? = some o ∧ ((wantedV ops (atI ops m rs S i) o = some false ∧ rs.getD i fr0 = fr0) ∨
    (wantedV ops (atI ops m rs S i) o = some true ∧ ∃ r, frOp P h0 (rank rs i) cr (atI ops m rs S i) i o = some r ∧ rs.getD i fr0 = ovr ov i r))
def FrFact (P : Program) (ops : Array Oper) (h0 : List Blk) (cr : Nat → V) (m : Nat) (S : St) (rs : List FR) (i : Nat) : Prop :=
  ∃ o, ops[i]? = some o ∧ ((wantedV ops (atI ops m rs S i) o = some false ∧ rs.getD i fr0 = fr0) ∨
    (wantedV ops (atI ops m rs S i) o = some true ∧ frOp P h0 (rank rs i) cr (atI ops m rs S i) i o = some (rs.getD i fr0)))
theorem FrGave.fact {P : Program} {ops : Array Oper} {h0 : List Blk} {cr : Nat → V} {ov : List (Nat × Bool)} {m : Nat} {S : St} {rs : List FR} {i : Nat} (h : FrGave P ops h0 cr ov m S rs i) (hob : (rs.getD i fr0).1 = true) : FrFact P ops h0 cr m S rs i := by
  obtain ⟨o, ho, h1 | ⟨h1, r, h2, h3⟩⟩ := h
  · exact ⟨o, ho, .inl h1⟩
  · rw [h3] at hob
    exact ⟨o, ho, .inr ⟨h1, by rw [h3, ← ovr_eq hob]; exact h2⟩⟩
theorem rank_congr {rs rs' : List FR} : ∀ k, (∀ j, j < k → (rs.getD j fr0).2.2.1 = (rs'.getD j fr0).2.2.1) → rank rs k = rank rs' k := by
  intro k
  induction k with
  | zero => intro _; rfl
  | succ k ih => intro h; simp only [rank, h k (by omega), ih fun j hj => h j (by omega)]
theorem bef_succ (k j : Nat) : bef (k + 1) j = (bef k j || j == k) := by
  simp only [bef]
  by_cases h1 : j < k
  · simp [h1, show j < k + 1 by omega]
  · by_cases h2 : j = k
    · subst h2; simp
    · have : ¬ j < k + 1 := by omega
      simp [h1, h2, this]
theorem frRun_facts {P : Program} {ops : Array Oper} {m : Nat} (hf : frontOK ops m = true) {h0 : List Blk} {cr : Nat → V} {ov : List (Nat × Bool)} {S : St} : ∀ (n k : Nat) (pre rs2 : List FR), k + n = m → pre.length = k →
    frRun P ops h0 cr ov (List.range' k n) (rank pre k) { S with t := tAt ops m pre (bef k) S.t } = some rs2 → rs2.length = n ∧ ∀ i, k ≤ i → i < m → FrGave P ops h0 cr ov m S (pre ++ rs2) i := by
  intro n
  induction n with
  | zero => intro k pre rs2 hk hp h; simp only [List.range'_zero, frRun, Option.some.injEq] at h; subst h; exact ⟨rfl, fun i h1 h2 => by omega⟩
  | succ n ih =>
    intro k pre rs2 hk hp h
    rw [List.range'_succ] at h
    simp only [frRun] at h
    cases ho : ops[k]? with
    | none => rw [ho] at h; cases h
    | some o =>
      rw [ho] at h
      simp only at h
      have pre_get : ∀ (r : FR) (rs3 : List FR) (j : Nat), j < k → (pre ++ r :: rs3).getD j fr0 = pre.getD j fr0 := fun r rs3 j hj => getD_append_left (by omega)
      have here : ∀ (r : FR) (rs3 : List FR), (pre ++ r :: rs3).getD k fr0 = r := fun r rs3 => by
        rw [getD_append_right (by omega), hp, Nat.sub_self]; rfl
      have same : ∀ (r : FR) (rs3 : List FR), tAt ops m (pre ++ r :: rs3) (bef k) S.t = tAt ops m pre (bef k) S.t := fun r rs3 =>
        tAt_congr _ (fun _ _ => rfl) fun j hj hb => by rw [pre_get r rs3 j (by simpa [bef] using hb)]
      have rk : ∀ (r : FR) (rs3 : List FR), rank (pre ++ r :: rs3) k = rank pre k := fun r rs3 => rank_congr k fun j hj => by rw [pre_get r rs3 j hj]
      have next : ∀ (r : FR), St.put { S with t := tAt ops m pre (bef k) S.t } o.dst r.2.1 = { S with t := tAt ops m (pre ++ [r]) (bef (k + 1)) S.t } := fun r => by
        have h1 := tAt_set (rs := pre ++ [r]) (t0 := S.t) hf (l := bef k) (l' := bef (k + 1)) (i := k) (by omega) (by simp [bef]) fun j _ => bef_succ k j
        have hd : dstOf ops k = o.dst := by simp [dstOf, ho]
        rw [hd, same r [], here r []] at h1
        rw [h1]
        cases o.dst <;> rfl
      have go : ∀ (r : FR) (rs3 : List FR), rs2 = r :: rs3 → frRun P ops h0 cr ov (List.range' (k + 1) n) (rank (pre ++ [r]) (k + 1)) (St.put { S with t := tAt ops m pre (bef k) S.t } o.dst r.2.1) = some rs3 →
          FrGave P ops h0 cr ov m S (pre ++ rs2) k → rs2.length = n + 1 ∧ ∀ i, k ≤ i → i < m → FrGave P ops h0 cr ov m S (pre ++ rs2) i := fun r rs3 e h3 hfk => by
        rw [next r] at h3
        obtain ⟨h4, h5⟩ := ih (k + 1) (pre ++ [r]) rs3 (by omega) (by simp [hp]) h3
        subst e
        refine ⟨by simp [h4], fun i h1 h2 => ?_⟩
        by_cases e : i = k
        · subst e; exact hfk
        · have := h5 i (by omega) h2
          rwa [List.append_assoc] at this
      have rk1 : ∀ (r : FR), rank (pre ++ [r]) (k + 1) = if r.2.2.1.isSome = true then rank pre k + 1 else rank pre k := fun r => by
        simp only [rank, here r [], rk r []]
        split <;> rfl
      split at h
      · rename_i hw
        split at h
        · rename_i rs3 h3
          simp only [Option.some.injEq] at h
          refine go fr0 rs3 h.symm (by rw [rk1]; simpa using h3) ⟨o, ho, .inl ⟨?_, ?_⟩⟩
          · subst h; show wantedV ops { S with t := _ } o = _; rw [same]; exact hw
          · subst h; exact here _ _
        · cases h
      · rename_i hw
        split at h
        · rename_i r hr
          split at h
          · rename_i rs3 h3
            simp only [Option.some.injEq] at h
            refine go (ovr ov k r) rs3 h.symm (by rw [rk1]; exact h3) ⟨o, ho, .inr ⟨?_, r, ?_, ?_⟩⟩
            · subst h; show wantedV ops { S with t := _ } o = _; rw [same]; exact hw
            · subst h
              rw [rk]
              show frOp P h0 _ cr { S with t := _ } k o = _
              rw [same]; exact hr
            · subst h; exact here _ _
          · cases h
        · cases h
      · cases h
structure Drew (w w' : World) : Prop where
  tape : w'.tape = w.tape
  drawn : w.drawn ≤ w'.drawn
theorem Drew.refl (w : World) : Drew w w := ⟨rfl, Nat.le_refl _⟩
theorem Drew.trans {a b c : World} (h : Drew a b) (h' : Drew b c) : Drew a c := ⟨h'.tape.trans h.tape, Nat.le_trans h.drawn h'.drawn⟩
theorem viewStore_drew {P : Program} {w : World} {at_ : Addr} {u : TypeId} {k : Addr} {v : Value} {atomic : Bool} {r : World × List Addr} (h : w.viewStore P at_ u k v atomic = .ok r) : Drew w r.1 := by
  unfold World.viewStore at h
  simp only [bind, Except.bind, pure, Except.pure, _root_.throwThe, MonadExceptOf.throw, MonadExcept.throw] at h
  repeat' split at h
  all_goals first
    | (cases h; exact ⟨rfl, Nat.le_refl _⟩)
    | cases h
theorem farStore_drew {P : Program} {w : World} {a : Addr} {v : Value} {atomic : Bool} {r : World × List Addr} (h : w.farStore P a v atomic = .ok r) : Drew w r.1 := by
  unfold World.farStore at h
  split at h
  · split at h
    · rename_i hv; cases h; exact viewStore_drew hv
    · cases h
  · cases h
theorem ask_drew {α : Type} : ∀ (x : Ask α) (w : World), Drew w (w.ask x).2
  | .done a, w => Drew.refl w
  | .ask what range k, w => by
    unfold World.ask
    simp only
    split
    · exact ask_drew _ w
    · exact Drew.trans (b := { w with drawn := w.drawn + 1 }) ⟨rfl, Nat.le_succ _⟩ (ask_drew _ _)
theorem sys_drew (w : World) (c : Sys) : Drew w (w.sys c).2 := by
  have h := ask_drew (Kernel.perform c w.os) w
  unfold World.sys
  split
  · exact Drew.refl w
  · rename_i hq; rw [hq] at h; exact ⟨h.tape, h.drawn⟩
theorem run_drew {P : Program} {α : Type} (s : Sem α) : ∀ {w w' : World} {a : α}, s.run P w = .ok a w' → Drew w w' := by
  induction s with
  | pure a => intro w w' b h; simp only [Sem.run, Result.ok.injEq] at h; obtain ⟨-, rfl⟩ := h; exact Drew.refl _
  | load m a k ih =>
    intro w w' b h
    simp only [Sem.run] at h
    split at h
    · exact ih _ h
    · split at h
      · exact ih _ h
      · cases h
  | store m a v k ih =>
    intro w w' b h
    cases v
    all_goals simp only [Sem.run] at h
    all_goals first
      | (cases h; done)
      | (split at h
         · split at h
           · cases h
           · exact Drew.trans (b := w.setCell a _) (by unfold World.setCell; exact ⟨rfl, Nat.le_refl _⟩) (ih h)
         · split at h
           · rename_i hf; exact (farStore_drew hf).trans (ih h)
           · cases h)
  | new o k ih => intro w w' b h; exact Drew.trans (b := { w with heap := w.heap.push o }) ⟨rfl, Nat.le_refl _⟩ (ih _ h)
  | shape r k ih => intro w w' b h; exact ih _ h
  | freeze a n k ih => intro w w' b h; exact Drew.trans (b := w.freeze a n) (by unfold World.freeze; split <;> exact ⟨rfl, Nat.le_refl _⟩) (ih h)
  | frozen a k ih => intro w w' b h; exact ih _ h
  | getObj r k ih =>
    intro w w' b h
    simp only [Sem.run] at h
    split at h
    · cases h
    · exact ih _ h
    · cases h
  | setObj r o k ih =>
    intro w w' b h
    simp only [Sem.run] at h
    split at h
    · cases h
    · exact Drew.trans (b := { w with heap := w.heap.setIfInBounds r o }) ⟨rfl, Nat.le_refl _⟩ (ih h)
    · cases h
  | choose q k ih =>
    intro w w' b h
    simp only [Sem.run] at h
    split at h
    · exact ih _ h
    · exact Drew.trans (b := { w with drawn := w.drawn + 1 }) ⟨rfl, Nat.le_succ _⟩ (ih _ h)
  | sys c k ih => intro w w' b h; exact (sys_drew w c).trans (ih _ h)
  | program k ih => intro w w' b h; exact ih _ h
  | mark _ k ih => intro w w' b h; exact ih h
  | halt h => intro w w' b h; cases h
theorem RH.fillG {β : Homes} {G K : Kept} {h : List Blk} {w w' : World} (r : RH β G K h w) (hw : ∀ b, b < w.heap.size → w'.heap[b]? = w.heap[b]?) (hs : w.heap.size ≤ w'.heap.size) {k : Blk} {x : Home} {i : Nat} (hi : h[i]? = some .void) (hx : w.heap.size ≤ x.b) (hx' : x.b < w'.heap.size)
    (hk : BlkOK G (β.set i (.lie x)) w' k (.lie x)) (hm : Mild w w') : RH (β.set i (.lie x)) G K (h.set i k) w' := by
  have hv := r.void_home hi
  have hr := r.congr hw hs hm
  have hil : i < h.length := (List.getElem?_eq_some_iff.1 hi).1
  have hib : i < β.length := by rw [r.len]; exact hil
  have knone : K x.b = none := by
    cases hk : K x.b with
    | none => rfl
    | some o' => have := (Array.getElem?_eq_some_iff.1 (r.keep _ _ hk)).1; omega
  have hself : (β.set i (.lie x))[i]? = some (.lie x) := List.getElem?_set_self hib
  refine ⟨by simp [r.len], fun j kj hj => ?_, fun a b xa xb ka kb ha hb ga gb hba hbb hxy => ?_, fun j y kj hj g hb => ?_, hr.keep, r.gk, hr.amb, fun j X tr hj => ?_⟩
  · by_cases e : i = j
    · subst e
      rw [List.getElem?_set_self hil] at hj; simp only [Option.some.injEq] at hj; subst hj
      rw [hself]; exact hk
    · rw [List.getElem?_set_ne e] at hj
      rw [List.getElem?_set_ne e]
      by_cases hg : kj = .gone
      · subst hg; cases (β[j]?.getD .void) <;> trivial
      exact (hr.blk j kj hj).mono (Kept.le_refl _) (le_set_void hv) fun _ _ => rfl
  · by_cases ea : i = a
    · subst ea
      by_cases eb : i = b
      · exact eb
      · rw [hself] at hba; simp only [Option.some.injEq, Hm.lie.injEq] at hba; subst hba
        rw [List.getElem?_set_ne eb] at hb hbb
        have := (r.sep b xb kb hb gb hbb).2; omega
    · by_cases eb : i = b
      · subst eb
        rw [hself] at hbb; simp only [Option.some.injEq, Hm.lie.injEq] at hbb; subst hbb
        rw [List.getElem?_set_ne ea] at ha hba
        have := (r.sep a xa ka ha ga hba).2; omega
      · rw [List.getElem?_set_ne ea] at ha hba
        rw [List.getElem?_set_ne eb] at hb hbb
        exact r.inj a b xa xb ka kb ha hb ga gb hba hbb hxy
  · by_cases e : i = j
    · subst e
      rw [hself] at hb; simp only [Option.some.injEq, Hm.lie.injEq] at hb; subst hb
      exact ⟨knone, hx'⟩
    · rw [List.getElem?_set_ne e] at hj hb
      exact hr.sep j y kj hj g hb
  · by_cases e : i = j
    · subst e
      rw [List.getElem?_set_self hil] at hj; simp only [Option.some.injEq] at hj; subst hj
      exact hk.elim
    · rw [List.getElem?_set_ne e] at hj
      obtain ⟨l, E, h1, h2, hbs, h3⟩ := r.ext j X tr hj
      refine ⟨l, E, by rw [List.getElem?_set_ne e]; exact h1, X.stable h2 (fun b o hb => by
        have q := X.keeps h2 b o hb
        rw [hw b (Array.getElem?_eq_some_iff.1 q).1]; exact q) (fun b o hb => by
        have q := r.keep b o (hbs b o hb)
        rw [hw b (Array.getElem?_eq_some_iff.1 q).1]; exact q) hs hm, hbs, fun b hE => ⟨(h3 b hE).1, fun q y k1 hq g hbq => ?_⟩⟩
      by_cases e2 : i = q
      · subst e2
        rw [hself] at hbq; simp only [Option.some.injEq, Hm.lie.injEq] at hbq; subst hbq
        have := Ext.lt h2 hE; omega
      · rw [List.getElem?_set_ne e2] at hq hbq
        exact (h3 b hE).2 q y k1 hq g hbq
theorem RH.fillNil {β : Homes} {G K : Kept} {h : List Blk} {w : World} (r : RH β G K h w) {i : Nat} (hi : h[i]? = some .void) {n : Nat} (e : TypeId) (c : Nat → Nat → V) (hn : 0 < n) : RH (β.set i .nil) G K (h.set i (.rows e n 0 c)) w := by
  have hv := r.void_home hi
  have hil : i < h.length := (List.getElem?_eq_some_iff.1 hi).1
  have hib : i < β.length := by rw [r.len]; exact hil
  have hself : (β.set i .nil)[i]? = some .nil := List.getElem?_set_self hib
  have ne : ∀ {j : Nat} {x : Home}, (β.set i .nil)[j]? = some (.lie x) → i ≠ j := fun {j x} hj e => by subst e; rw [hself] at hj; cases hj
  refine ⟨by simp [r.len], fun j kj hj => ?_, fun a b xa xb ka kb ha hb ga gb hba hbb hxy => ?_, fun j y kj hj g hb => ?_, r.keep, r.gk, r.amb, fun j X tr hj => ?_⟩
  · by_cases e : i = j
    · subst e
      rw [List.getElem?_set_self hil] at hj; simp only [Option.some.injEq] at hj; subst hj
      rw [hself]; exact ⟨rfl, hn⟩
    · rw [List.getElem?_set_ne e] at hj
      rw [List.getElem?_set_ne e]
      by_cases hg : kj = .gone
      · subst hg; cases (β[j]?.getD .void) <;> trivial
      exact (r.blk j kj hj).mono (Kept.le_refl _) (le_set_void hv) fun _ _ => rfl
  · have ea := ne hba
    have eb := ne hbb
    rw [List.getElem?_set_ne ea] at ha hba
    rw [List.getElem?_set_ne eb] at hb hbb
    exact r.inj a b xa xb ka kb ha hb ga gb hba hbb hxy
  · have e := ne hb
    rw [List.getElem?_set_ne e] at hj hb
    exact r.sep j y kj hj g hb
  · by_cases e : i = j
    · subst e
      rw [List.getElem?_set_self hil] at hj; cases hj
    · rw [List.getElem?_set_ne e] at hj
      obtain ⟨l, E, h1, h2, hbs, h3⟩ := r.ext j X tr hj
      refine ⟨l, E, by rw [List.getElem?_set_ne e]; exact h1, h2, hbs, fun b hE => ⟨(h3 b hE).1, fun q y k1 hq g hbq => ?_⟩⟩
      have e2 := ne hbq
      rw [List.getElem?_set_ne e2] at hq hbq
      exact (h3 b hE).2 q y k1 hq g hbq
theorem RS.refill {β β' : Homes} {G K : Kept} {a : Act} {w w' : World} {S : St} (r : RS β G K S a w) {i : Nat} {k : Blk} (hi : S.h[i]? = some .void) (hle : β.le β') (hr : RH β' G K (S.h.set i k) w') : RS β' G K { S with h := S.h.set i k } a w' := by
  refine ⟨hr, r.size, fun j => (r.tmp j).mono G.le_refl hle, r.marks, fun j hj => ?_⟩
  obtain ⟨y, h1, h2, h3⟩ := r.mark j hj
  refine ⟨y, hle _ _ (by simp) h1, h2, ?_⟩
  show (S.h.set i k)[S.d.getD j 0]? = _
  rw [List.getElem?_set_ne]
  · exact h3
  · intro e; rw [← e, hi] at h3; cases h3
theorem run_append_nothing {P : Program} {w : World} {t ty e : TypeId} {i : TypeInfo} (ht : P.underlying t = some (.slice e)) (hi : P.info? e = some i) {a a2 : Option Addr} {n cap c : Nat} (hn : n ≤ cap) :
    (Builtin.append_ #[t, t] ty #[.slice a n cap, .slice a2 0 c]).run P w = .ok (.slice a n cap) w := by
  have hfc : (Builtin.firstCells i.size 0 (.slice a2 0 c)).run P w = .ok #[] w := by
    cases a2 with
    | none => exact run_firstCells_none (P := P) w _ _ _ _
    | some ad => exact run_firstCells_some (P := P) w i.size 0 ad 0 c [] (by simp) (by simp)
  cases a <;> simp [Builtin.append_, run_underlying ht, Go.sizeOf, typeInfo, hi, Builtin.lenOf, hn, hfc, storeCells]
theorem run_fresh {P : Program} {t ty e : TypeId} {zs : List V} {w2 k : Nat} {c : Nat → Nat → V} (hu : P.underlying t = some (.slice e)) (hT : hasT P e = true) (hsz : szOf P e = w2) (h0 : 0 < w2) (hz : zeroCs P e = some zs) (hzl : zs.length = w2) (hby : P.bytesOf e ≤ 32768)
    {β : Homes} {G K : Kept} {h : List Blk} {w : World} (r : RH β G K h w) {a0 : Option Addr} {x' : Value} (hx : Rel G β (.list w2 k c) x') (hk : k ≤ 4294967296) (hs : ∀ r, r < k → ∀ j, j < w2 → (c r j).scalar = true) :
    ∃ v' w', (Builtin.append_ #[t, t] ty #[.slice a0 0 0, x']).run P w = .ok v' w' ∧ (∀ b, b < w.heap.size → w'.heap[b]? = w.heap[b]?) ∧ w.heap.size ≤ w'.heap.size ∧ Mild w w' ∧
      ((k = 0 ∧ w' = w ∧ v' = .slice a0 0 0) ∨ (0 < k ∧ ∃ g cap' cur, v' = .slice (some ⟨g, 0, none⟩) k cap' ∧ w.heap.size ≤ g ∧ w'.heap[g]? = some (.cells cur e (0, 0)) ∧ k ≤ cap' ∧ cap' ≤ maxLen ∧ cur.size = cap' * w2 ∧ ∀ r j, r < k → j < w2 → Rel G [] (c r j) (cur.getD (r * w2 + j) Go.undef))) := by
  have hinfo : ∃ inf, P.info? e = some inf := by
    unfold hasT at hT
    cases h : P.info? e with
    | none => simp [h] at hT
    | some q => exact ⟨q, rfl⟩
  obtain ⟨inf, hinf⟩ := hinfo
  have hisz : inf.size = w2 := by rw [← hsz]; simp [szOf, Program.cellsOf, hinf]
  have hiby : inf.bytes ≤ 32768 := by simpa [Program.bytesOf, hinf] using hby
  obtain ⟨z, z1, z2, z3⟩ := zeroCs_ok hz w
  have hiz : inf.zero = some z := by
    cases hq : inf.zero with
    | none => simp [zeroCs, hinf, hq] at hz
    | some z' =>
      have : (zeroValue e).run P w = .ok z' w := by simp only [zeroValue, Sem.run_bind, run_typeInfo' hinf, Result.andThen_ok, hq, Sem.run_pure]
      rw [this] at z1; cases z1; rfl
  have hzs : z.cells.size = inf.size := by rw [z2, hzl, hisz]
  have hbytes : (0 + k) * inf.bytes ≤ 140737488355328 := by
    have : (0 + k) * inf.bytes ≤ 4294967296 * 32768 := Nat.mul_le_mul (by omega) hiby
    omega
  have hml : 0 + k ≤ maxLen := by unfold maxLen; omega
  by_cases hk0 : k = 0
  · subst hk0
    cases hx with
    | list0 => exact ⟨_, w, run_append_nothing hu hinf (Nat.le_refl _), fun _ _ => rfl, Nat.le_refl _, Mild.refl _, .inl ⟨rfl, rfl, rfl⟩⟩
    | list _ _ _ _ _ => exact ⟨_, w, run_append_nothing hu hinf (Nat.le_refl _), fun _ _ => rfl, Nat.le_refl _, Mild.refl _, .inl ⟨rfl, rfl, rfl⟩⟩
  · cases hx with
    | list0 => exact absurd rfl hk0
    | list hG hsz' hcap hmn hc =>
      rename_i b off cap cs e' fz
      have hb := r.keep _ _ (r.gk _ _ hG)
      obtain ⟨news, hnews⟩ : ∃ news : List Value, news = (cs.toList.drop off).take (k * w2) := ⟨_, rfl⟩
      have hln : news.length = k * w2 := by rw [hnews]; simp; omega
      have get : ∀ q, q < k * w2 → news[q]? = some (cs.getD (off + q) Go.undef) := fun q hq => by
        rw [hnews, List.getElem?_take_of_lt hq, List.getElem?_drop, Array.getElem?_toList, Array.getD_eq_getD_getElem?, Array.getElem?_eq_getElem (by omega)]; rfl
      have hcell : ∀ j u, news[j]? = some u → w.cell? ((Addr.mk b off none).add j) = some u := fun j u hj => by
        have hlt : j < k * w2 := by rw [← hln]; exact (List.getElem?_eq_some_iff.1 hj).1
        rw [get j hlt] at hj; cases hj
        rw [addr_add, cell_of_heap hb _ (by omega)]
      have hrel : ∀ r j, r < k → j < w2 → Rel G [] (c r j) (news.getD (r * w2 + j) Go.undef) := fun r j hr hj => by
        have hlt : r * w2 + j < k * w2 := by
          have : (r + 1) * w2 ≤ k * w2 := Nat.mul_le_mul_right _ (by omega)
          rw [Nat.succ_mul] at this; omega
        rw [List.getD_eq_getElem?_getD, get _ hlt]; exact hc r j hr hj
      have hone : ∀ u ∈ news, u.oneCell' = true := fun u hu' => by
        obtain ⟨q, hq, rfl⟩ := List.mem_iff_getElem.1 hu'
        have hmod : q % w2 < w2 := Nat.mod_lt _ h0
        have hdiv : q / w2 < k := Nat.div_lt_of_lt_mul (by rw [Nat.mul_comm, ← hln]; exact hq)
        have hr := hrel (q / w2) (q % w2) hdiv hmod
        rw [Nat.div_add_mod'] at hr
        have := (hr.scalar (hs _ hdiv _ hmod)).2
        rw [List.getD_eq_getElem?_getD, List.getElem?_eq_getElem hq] at this
        exact this
      have fin : ∀ {v' : Value} {w' : World}, w'.ownsRow w.heap.size e w2 v' (0 + k) ([] ++ news) → ∃ g cap' cur, v' = .slice (some ⟨g, 0, none⟩) k cap' ∧ w.heap.size ≤ g ∧ w'.heap[g]? = some (.cells cur e (0, 0)) ∧ k ≤ cap' ∧ cap' ≤ maxLen ∧ cur.size = cap' * w2 ∧ ∀ r j, r < k → j < w2 → Rel G [] (c r j) (cur.getD (r * w2 + j) Go.undef) := fun {v' w'} how => by
        obtain ⟨ol, oc⟩ := how
        rcases oc with ⟨_, hzero⟩ | ⟨g, cap', cur, rfl, hge, hcur, hnc, hcm, hcsz, htake⟩
        · omega
        · rw [Nat.zero_add] at hnc htake ⊢
          refine ⟨g, cap', cur, rfl, hge, hcur, hnc, hcm, hcsz, fun r j hr hj => ?_⟩
          have hlt : r * w2 + j < k * w2 := by
            have : (r + 1) * w2 ≤ k * w2 := Nat.mul_le_mul_right _ (by omega)
            rw [Nat.succ_mul] at this; omega
          have : cur.getD (r * w2 + j) Go.undef = news.getD (r * w2 + j) Go.undef := by
            have e2 : cur.toList.take (k * w2) = news := by simpa using htake
            rw [← e2, List.getD_eq_getElem?_getD, List.getElem?_take_of_lt hlt, Array.getElem?_toList, Array.getD_eq_getD_getElem?]
          rw [this]; exact hrel r j hr hj
      cases a0 with
      | none =>
        obtain ⟨v', w', q1, q2, q3, -⟩ := run_append_own (P := P) w w.heap.size t ty e inf z w2 inf.bytes hu hinf hiz hisz rfl (by rw [hzs, hisz]) h0 (.slice none 0 0) 0 [] (World.ownsRow_nil w _ e w2) ⟨b, off, none⟩ k cap news hln hcell hone hml hbytes (Nat.le_refl _)
        exact ⟨v', w', q1, fun b' hb' => q3.block b' hb' (show ¬ some b' = none by simp), q3.size, ⟨q3.os, q3.output, q3.tape, (run_drew _ q1).drawn⟩, .inr ⟨by omega, fin q2⟩⟩
      | some b0 =>
        obtain ⟨v', w', q1, q2, q3⟩ := run_append_arg_grows (P := P) w t ty e inf z w2 inf.bytes hu hinf hiz hisz rfl (by rw [hzs, hisz]) h0 b0 0 0 [] (by simp) (by simp) ⟨b, off, none⟩ k cap news hln hcell (by omega) hml hbytes
        exact ⟨v', w', q1, fun b' hb' => q3.block b' hb' (show ¬ some b' = none by simp), q3.size, ⟨q3.os, q3.output, q3.tape, (run_drew _ q1).drawn⟩, .inr ⟨by omega, fin q2⟩⟩
end Ab
