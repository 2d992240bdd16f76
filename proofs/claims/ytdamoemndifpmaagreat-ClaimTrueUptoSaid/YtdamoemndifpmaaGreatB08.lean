/-
  Part of the proof of the Claim laws. Conditions: those that stand in each theorem.
-/
import Derived.Laws.RangeAny
import Derived.Test.YtdamoemndifpmaaGreatB07
set_option linter.unusedSimpArgs false
set_option linter.unusedVariables false
set_option maxRecDepth 100000
namespace Go.Proofs.YtdamoemndifpmaaGreat
open Ab Go
def eqC (f g : Nat → Cast) : Bool := ((f 0).mould == (g 0).mould && ((f 0).number == (g 0).number && true)) && (((f 1).mould == (g 1).mould && ((f 1).number == (g 1).number && true)) && (((f 2).mould == (g 2).mould && ((f 2).number == (g 2).number && true)) && (((f 3).mould == (g 3).mould && ((f 3).number == (g 3).number && true)) && true)))
theorem cast_ext {a b : Cast} (h : (a.mould == b.mould && (a.number == b.number && true)) = true) : a = b := by
  obtain ⟨x, y⟩ := a; obtain ⟨z, w⟩ := b
  simp at h; simp [h]
theorem and_two {a b : Bool} (h : (a && b) = true) : a = true ∧ b = true := by simpa using h
theorem eqC_eq {f g : Nat → Cast} (h : eqC f g = true) (hf : ∀ i, 4 ≤ i → f i = zCast) (hg : ∀ i, 4 ≤ i → g i = zCast) : f = g := by
  unfold eqC at h
  obtain ⟨g0, h⟩ := and_two h
  obtain ⟨g1, h⟩ := and_two h
  obtain ⟨g2, h⟩ := and_two h
  obtain ⟨g3, _⟩ := and_two h
  funext i
  rcases Nat.lt_or_ge i 4 with q | q
  · rcases show i = 0 ∨ i = 1 ∨ i = 2 ∨ i = 3 by omega with e | e | e | e
    · rw [e]; exact cast_ext g0
    · rw [e]; exact cast_ext g1
    · rw [e]; exact cast_ext g2
    · rw [e]; exact cast_ext g3
  · rw [hf i q, hg i q]
def keysL (M : List (Int × Int)) : List Int := M.map (·.1)
theorem keys_setM (k v : Int) : ∀ M, keysL (setM M k v) = if k ∈ keysL M then keysL M else keysL M ++ [k]
  | [] => by simp [setM, keysL]
  | (a, b) :: M => by
    have ih := keys_setM k v M
    unfold keysL at ih ⊢
    by_cases e : a = k
    · subst e; simp [setM]
    · have hb : (a == k) = false := by simpa using e
      have e2 : ¬ k = a := fun h => e h.symm
      simp only [setM, hb, cond_false, List.map_cons, ih, List.mem_cons, e2, false_or]
      split <;> simp
theorem getM_setM (k v b : Int) : ∀ M, getM (setM M k v) b = if b = k then v else getM M b
  | [] => by
    by_cases e : b = k
    · subst e; simp [setM, getM]
    · have : (k == b) = false := by simp; exact fun h => e h.symm
      simp [setM, getM, this, e]
  | (x, y) :: M => by
    have ih := getM_setM k v b M
    by_cases e : x = k
    · subst e
      simp only [setM, beq_self_eq_true, cond_true, getM]
      by_cases e2 : b = x
      · subst e2; simp
      · have : (x == b) = false := by simp; exact fun h => e2 h.symm
        simp [this, e2]
    · have hb : (x == k) = false := by simpa using e
      simp only [setM, hb, cond_false, getM, ih]
      by_cases e2 : b = k
      · subst e2
        have : (x == b) = false := by simpa using e
        simp [this]
      · simp [e2]
def countM (l : List Int) (M : List (Int × Int)) : List (Int × Int) := l.foldl (fun M s => setM M s (getM M s + 1)) M
theorem countM_keys : ∀ (l : List Int) (M : List (Int × Int)), (keysL M).Nodup → (keysL (countM l M)).Nodup ∧ ∀ x, x ∈ keysL (countM l M) ↔ x ∈ keysL M ∨ x ∈ l
  | [], M, h => ⟨h, fun x => by simp [countM]⟩
  | s :: l, M, h => by
    have hn : (keysL (setM M s (getM M s + 1))).Nodup := by
      rw [keys_setM]
      split
      · exact h
      · rename_i hs
        rw [List.nodup_append]
        exact ⟨h, by simp, fun a ha b hb e => by simp only [List.mem_singleton] at hb; subst hb; subst e; exact hs ha⟩
    obtain ⟨g1, g2⟩ := countM_keys l _ hn
    refine ⟨g1, fun x => ?_⟩
    have : countM (s :: l) M = countM l (setM M s (getM M s + 1)) := rfl
    rw [this, g2, keys_setM]
    split
    · rename_i hs
      simp only [List.mem_cons]
      constructor
      · rintro (h | h)
        · exact .inl h
        · exact .inr (.inr h)
      · rintro (h | rfl | h)
        · exact .inl h
        · exact .inl hs
        · exact .inr h
    · simp only [List.mem_append, List.mem_cons, List.not_mem_nil, or_false, or_assoc]
theorem countM_le : ∀ (l : List Int) (M : List (Int × Int)) (n : Int), (∀ k, 0 ≤ getM M k ∧ getM M k ≤ n) → ∀ k, 0 ≤ getM (countM l M) k ∧ getM (countM l M) k ≤ n + l.length
  | [], M, n, h, k => by have := h k; simp [countM]; omega
  | s :: l, M, n, h, k => by
    have := countM_le l (setM M s (getM M s + 1)) (n + 1) (fun b => by
      rw [getM_setM]
      split
      · have := h s; omega
      · have := h b; omega) k
    have e : countM (s :: l) M = countM l (setM M s (getM M s + 1)) := rfl
    rw [e]; simp only [List.length_cons]; omega
theorem countM_take (l : List Int) (M : List (Int × Int)) {i : Nat} (hi : i < l.length) : countM (l.take (i + 1)) M = setM (countM (l.take i) M) (l.getD i 0) (getM (countM (l.take i) M) (l.getD i 0) + 1) := by
  unfold countM
  rw [take_snoc 0 l i hi, List.foldl_append]; rfl
abbrev MC : Type := List (Int × Int) × (Nat → Cast)
def roundM (c : Case) (p : MC) (f : Nat → Cast) : MC := if eqC f p.2 = true ∧ 0 < p.1.length then p else (countM (casesA c f) p.1, f)
def keysTo (c : Case) (k : Nat) : MC := ((leavesH c.shop 0 fun _ => zCast).take k).foldl (roundM c) ([], fun _ => zCast)
theorem keysTo_0 (c : Case) : keysTo c 0 = ([], fun _ => zCast) := rfl
theorem keysTo_succ (c : Case) {k : Nat} {f : Nat → Cast} (hf : (leavesH c.shop 0 fun _ => zCast)[k]? = some f) : keysTo c (k + 1) = roundM c (keysTo c k) f := by
  unfold keysTo
  obtain ⟨hk, he⟩ := List.getElem?_eq_some_iff.1 hf
  rw [List.take_succ_eq_append_getElem hk, List.foldl_append, he]; rfl
theorem keysTo_le {c : Case} (h : OkCase c) : ∀ k, ∀ s, 0 ≤ getM (keysTo c k).1 s ∧ getM (keysTo c k).1 s ≤ k * 5764801
  | 0, s => by simp [keysTo_0, getM]
  | k + 1, s => by
    have ih := keysTo_le h k
    cases hf : (leavesH c.shop 0 fun _ => zCast)[k]? with
    | none =>
      have hl := List.getElem?_eq_none_iff.1 hf
      have : keysTo c (k + 1) = keysTo c k := by unfold keysTo; rw [List.take_of_length_le hl, List.take_of_length_le (by omega)]
      rw [this]; have := ih s; omega
    | some f =>
      rw [keysTo_succ c hf]
      unfold roundM
      split
      · have := ih s; omega
      · have h1 := countM_le (casesA c f) (keysTo c k).1 _ ih s
        have h2 : (casesA c f).length ≤ 5764801 := Nat.le_trans (mouldA_le h.shop f _ (Nat.le_refl _)) (by
          have := h.shop.nm
          rcases show c.shop.moulds.length = 0 ∨ c.shop.moulds.length = 1 ∨ c.shop.moulds.length = 2 by omega with e | e | e <;> rw [e] <;> decide)
        simp only; omega
theorem leaf_ok {c : Case} {k : Nat} {f : Nat → Cast} (hf : (leavesH c.shop 0 fun _ => zCast)[k]? = some f) : (∀ i, i < c.shop.heads.length → CastOk c.shop (f i)) ∧ ∀ i, c.shop.heads.length ≤ i → f i = zCast :=
  leaves_ok c.shop.heads.length 0 (fun _ => zCast) (by omega) (fun i hi => absurd hi (Nat.not_lt_zero i)) (fun _ _ => rfl) f (List.mem_of_getElem? hf)
theorem leaf_num {c : Case} (h : OkCase c) {k : Nat} {f : Nat → Cast} (hf : (leavesH c.shop 0 fun _ => zCast)[k]? = some f) (i : Nat) : 0 ≤ (f i).number ∧ (f i).number ≤ 4 := by
  obtain ⟨h1, h2⟩ := leaf_ok hf
  rcases Nat.lt_or_ge i c.shop.heads.length with q | q
  · have := castOk_le h.shop (h1 i q); omega
  · rw [h2 i q]; simp [zCast]
structure KeysOk (c : Case) (k : Nat) : Prop where
  nd : (keysL (keysTo c k).1).Nodup
  mem : ∀ x, x ∈ keysL (keysTo c k).1 ↔ ∃ f ∈ (leavesH c.shop 0 fun _ => zCast).take k, x ∈ casesA c f
  last : ∀ i, 4 ≤ i → (keysTo c k).2 i = zCast
  met : 0 < (keysTo c k).1.length → (keysTo c k).2 ∈ (leavesH c.shop 0 fun _ => zCast).take k
theorem keysOk {c : Case} (h : OkCase c) : ∀ k, KeysOk c k
  | 0 => ⟨by simp [keysTo_0, keysL], fun x => by simp [keysTo_0, keysL], fun _ _ => rfl, fun h => by simp [keysTo_0] at h⟩
  | k + 1 => by
    have ih := keysOk h k
    cases hf : (leavesH c.shop 0 fun _ => zCast)[k]? with
    | none =>
      have hl := List.getElem?_eq_none_iff.1 hf
      have e1 : (leavesH c.shop 0 fun _ => zCast).take (k + 1) = (leavesH c.shop 0 fun _ => zCast).take k := by rw [List.take_of_length_le hl, List.take_of_length_le (by omega)]
      have e2 : keysTo c (k + 1) = keysTo c k := by unfold keysTo; rw [e1]
      exact ⟨by rw [e2]; exact ih.nd, by rw [e2, e1]; exact ih.mem, by rw [e2]; exact ih.last, by rw [e2, e1]; exact ih.met⟩
    | some f =>
      obtain ⟨hk, he⟩ := List.getElem?_eq_some_iff.1 hf
      have ht : (leavesH c.shop 0 fun _ => zCast).take (k + 1) = (leavesH c.shop 0 fun _ => zCast).take k ++ [f] := by rw [List.take_succ_eq_append_getElem hk, he]
      have h4 := h.shop.nh
      have hf4 : ∀ i, 4 ≤ i → f i = zCast := fun i hi => (leaf_ok hf).2 i (by omega)
      rw [show KeysOk c (k + 1) ↔ KeysOk c (k + 1) from Iff.rfl]
      have hr := keysTo_succ c hf
      by_cases hq : eqC f (keysTo c k).2 = true ∧ 0 < (keysTo c k).1.length
      · have hs : keysTo c (k + 1) = keysTo c k := by rw [hr, roundM, if_pos hq]
        have hfe : f = (keysTo c k).2 := eqC_eq hq.1 hf4 ih.last
        have hmem := ih.met hq.2
        refine ⟨by rw [hs]; exact ih.nd, fun x => ?_, by rw [hs]; exact ih.last, fun _ => by rw [hs, ht]; exact List.mem_append_left _ hmem⟩
        rw [hs, ih.mem, ht]
        constructor
        · rintro ⟨g, hg, hx⟩; exact ⟨g, List.mem_append_left _ hg, hx⟩
        · rintro ⟨g, hg, hx⟩
          rcases List.mem_append.1 hg with q | q
          · exact ⟨g, q, hx⟩
          · simp only [List.mem_singleton] at q
            subst q
            exact ⟨_, hmem, by rw [← hfe]; exact hx⟩
      · have hs : keysTo c (k + 1) = (countM (casesA c f) (keysTo c k).1, f) := by rw [hr, roundM, if_neg hq]
        obtain ⟨g1, g2⟩ := countM_keys (casesA c f) (keysTo c k).1 ih.nd
        refine ⟨by rw [hs]; exact g1, fun x => ?_, by rw [hs]; exact hf4, fun _ => by rw [hs, ht]; exact List.mem_append_right _ (by simp)⟩
        rw [hs, g2, ih.mem, ht]
        constructor
        · rintro (⟨g, hg, hx⟩ | hx)
          · exact ⟨g, List.mem_append_left _ hg, hx⟩
          · exact ⟨f, List.mem_append_right _ (by simp), hx⟩
        · rintro ⟨g, hg, hx⟩
          rcases List.mem_append.1 hg with q | q
          · exact .inl ⟨g, q, hx⟩
          · simp only [List.mem_singleton] at q
            subst q
            exact .inr hx
def metM (c : Case) : List (Int × Int) := (keysTo c (leavesH c.shop 0 fun _ => zCast).length).1
theorem metM_keys {c : Case} (h : OkCase c) : (keysL (metM c)).Nodup ∧ ∀ x, x ∈ keysL (metM c) ↔ x ∈ caseSets c := by
  have k := keysOk h (leavesH c.shop 0 fun _ => zCast).length
  refine ⟨k.nd, fun x => ?_⟩
  rw [metM, k.mem, List.take_length, mem_caseSets h.five, ← truths_A h.shop]
  simp only [List.mem_map]
  constructor
  · rintro ⟨f, hf, hx⟩
    obtain ⟨i, hi, rfl⟩ := List.getElem_of_mem hf
    obtain ⟨h1, h2⟩ := leaf_ok (c := c) (List.getElem?_eq_getElem hi)
    exact ⟨_, ⟨_, hf, rfl⟩, (mem_casesA h (fun i hi => castOk_ne (h1 i hi)) h2 x).1 hx⟩
  · rintro ⟨l, ⟨f, hf, rfl⟩, hx⟩
    obtain ⟨i, hi, rfl⟩ := List.getElem_of_mem hf
    obtain ⟨h1, h2⟩ := leaf_ok (c := c) (List.getElem?_eq_getElem hi)
    exact ⟨_, hf, (mem_casesA h (fun i hi => castOk_ne (h1 i hi)) h2 x).2 hx⟩
theorem sorted_keys {c : Case} (h : OkCase c) {l : List Int} (hn : l.Nodup) (hm : ∀ x, x ∈ l ↔ x ∈ keysL (metM c)) : sortZ l = caseSets c :=
  asc_eq (sortZ_asc hn) (caseSets_asc c) fun x => by rw [mem_sortZ, hm, (metM_keys h).2]
end Go.Proofs.YtdamoemndifpmaaGreat
namespace Go.Proofs.YtdamoemndifpmaaGreat
open Ab
noncomputable section
theorem data_len (s : ByteArray) : s.data.toList.length = s.size := rfl
end
noncomputable section
theorem PCalls.arg {P : Program} {f : FuncId} {pre suf : List V} {a a' : V} {post : V → Prop} (h : PCalls P f (pre ++ a :: suf) post) (hv : VLe a' a) : PCalls P f (pre ++ a' :: suf) post := by
  refine h.vle (by simp) fun j hj => ?_
  by_cases h1 : j < pre.length
  · simp only [List.getD_eq_getElem?_getD, List.getElem?_append_left h1]; exact VLe.refl _
  · by_cases h2 : j = pre.length
    · subst h2; simpa using hv
    · obtain ⟨k, hk⟩ : ∃ k, j - pre.length = k + 1 := ⟨j - pre.length - 1, by omega⟩
      simp only [List.getD_eq_getElem?_getD, List.getElem?_append_right (Nat.le_of_not_lt h1), hk, List.getElem?_cons_succ]; exact VLe.refl _
end
noncomputable section
inductive P121
  | e
inductive R121
  | r0 (r0 : Bool)
noncomputable def T121 (n : Int) (lo : Int) (hi : Int) : P121 → Tr P121 R121
  | .e => (.br (decide (n < lo)) (.out (.r0 true)) (.out (.r0 (decide (n > hi)))))
noncomputable def g121 (n : Int) (lo : Int) (hi : Int) : P121 → List Item × St
  | .e => bd Tryz.f121 [iI n, rR (iI lo), rR (iI hi)] 10
noncomputable def n121 : R121 → Exit × St
  | .r0 r0 => (.ret, ⟨mk 13 [(4, .bool r0)], [], []⟩)
noncomputable def v121 : R121 → V
  | .r0 r0 => .bool r0
theorem s121 (n : Int) (lo : Int) (hi : Int) : Sm 0 (g121 n lo hi) (T121 n lo hi) (n121)
  | .e => ⟨400, by kernel_rfl⟩
theorem q121 : ∀ r, bodyQ Tryz.prog Tryz.f121 (· = v121 r) (n121 r).1 (n121 r).2
  | .r0 r0 => bq (.bool r0) (by kernel_rfl)
theorem w121 (n : Int) (lo : Int) (hi : Int) {post : V → Prop} (h : WQ (T121 n lo hi) v121 post .e) : PC 121 [iI n, rR (iI lo), rR (iI hi)] post :=
  PCalls.wq Tryz.func121 (s121 n lo hi) q121 h
theorem c121 (n lo hi : Int) : PC 121 [iI n, rR (iI lo), rR (iI hi)] (· = .bool (!within n lo hi)) := by
  refine w121 _ _ _ (WP.step ?_)
  simp only [T121, Go, Ends', v121, Tr.sure, SS]
  repeat' with_reducible first | intro _ | apply And.intro
  all_goals first | (simp [within, Go, Ends', v121, -List.getD_eq_getElem?_getD, *]; done) | skip
  all_goals (simp only [within, V.bool.injEq]; rw [Bool.eq_iff_iff]; simp; omega)
inductive P153
  | e
inductive R153
  | r0 (r0 : Bool)
noncomputable def T153 (n : Int) (lo : Int) (hi : Int) : P153 → Tr P153 R153
  | .e => (.br (decide (n < lo)) (.out (.r0 true)) (.out (.r0 (decide (n > hi)))))
noncomputable def g153 (n : Int) (lo : Int) (hi : Int) : P153 → List Item × St
  | .e => bd Tryz.f153 [iI n, rR (iI lo), rR (iI hi)] 10
noncomputable def n153 : R153 → Exit × St
  | .r0 r0 => (.ret, ⟨mk 13 [(4, .bool r0)], [], []⟩)
noncomputable def v153 : R153 → V
  | .r0 r0 => .bool r0
theorem s153 (n : Int) (lo : Int) (hi : Int) : Sm 0 (g153 n lo hi) (T153 n lo hi) (n153)
  | .e => ⟨400, by kernel_rfl⟩
theorem q153 : ∀ r, bodyQ Tryz.prog Tryz.f153 (· = v153 r) (n153 r).1 (n153 r).2
  | .r0 r0 => bq (.bool r0) (by kernel_rfl)
theorem w153 (n : Int) (lo : Int) (hi : Int) {post : V → Prop} (h : WQ (T153 n lo hi) v153 post .e) : PC 153 [iI n, rR (iI lo), rR (iI hi)] post :=
  PCalls.wq Tryz.func153 (s153 n lo hi) q153 h
theorem c153 (n lo hi : Int) : PC 153 [iI n, rR (iI lo), rR (iI hi)] (· = .bool (!within n lo hi)) := by
  refine w153 _ _ _ (WP.step ?_)
  simp only [T153, Go, Ends', v153, Tr.sure, SS]
  repeat' with_reducible first | intro _ | apply And.intro
  all_goals first | (simp [within, Go, Ends', v153, -List.getD_eq_getElem?_getD, *]; done) | skip
  all_goals (simp only [within, V.bool.injEq]; rw [Bool.eq_iff_iff]; simp; omega)
def Asks2 (g : Nat) (lo hi : Int) (p : Int → Bool) : Prop := ∀ n, PC g [iI n, rR (iI lo), rR (iI hi)] (· = .bool (p n))
def place (o : Option Nat) : Int := match o with | some i => i | none => -1
theorem place_ge (o : Option Nat) : (0 ≤ place o) ↔ o.isSome = true := by cases o <;> simp [place]
inductive P136
  | e
  | l0 (x0_8 : Int)
inductive R136
  | r0 (r0 : Int)
noncomputable def T136 (g : Nat) (lo : Int) (hi : Int) (p : Int → Bool) (s : List Int) : P136 → Tr P136 R136
  | .e => (.go (.l0 0))
  | .l0 x0_8 => let c1 := s.getD (x0_8).toNat tint.zero; (.br (decide (x0_8 < (s.length : Int))) (.need (decide (0 ≤ x0_8) && decide (x0_8 < (s.length : Int))) (.call g [iI c1, rR (iI lo), rR (iI hi)] (.bool (p c1)) true true (.br (p c1) (.out (.r0 x0_8)) (.need (inR .i64 (x0_8 + (1 : Int))) (.go (.l0 (x0_8 + (1 : Int)))))))) (.out (.r0 (-1))))
noncomputable def g136 (g : Nat) (lo : Int) (hi : Int) (p : Int → Bool) (s : List Int) : P136 → List Item × St
  | .e => bd Tryz.f136 [tint.lst s, .func (.func g) [] [rR (iI lo), rR (iI hi)]] 17
  | .l0 x0_8 => (cutOf Tryz.f136 0, ⟨mk 19 [(0, tint.lst s), (1, .func (.func g) [] [rR (iI lo), rR (iI hi)]), (4, iI 0), (7, iI (s.length : Int)), (8, iI x0_8)], [], []⟩)
noncomputable def n136 : R136 → Exit × St
  | .r0 r0 => (.ret, ⟨mk 19 [(4, iI r0)], [], []⟩)
noncomputable def v136 : R136 → V
  | .r0 r0 => iI r0
theorem s136 (g : Nat) (lo : Int) (hi : Int) (p : Int → Bool) (s : List Int) : Sm 0 (g136 g lo hi p s) (T136 g lo hi p s) (n136)
  | .e => ⟨400, by kernel_rfl⟩
  | .l0 _ => ⟨400, by kernel_rfl⟩
theorem q136 : ∀ r, bodyQ Tryz.prog Tryz.f136 (· = v136 r) (n136 r).1 (n136 r).2
  | .r0 r0 => bq (iI r0) (by kernel_rfl)
theorem w136 (g : Nat) (lo : Int) (hi : Int) (p : Int → Bool) (s : List Int) {post : V → Prop} (h : WQ (T136 g lo hi p s) v136 post .e) : PC 136 [tint.lst s, .func (.func g) [] [rR (iI lo), rR (iI hi)]] post :=
  PCalls.wq Tryz.func136 (s136 g lo hi p s) q136 h
theorem e136 : ∀ xs w, (callFunc 136 xs).run Tryz.prog w = .ok (.enter 136 xs) w := PCalls.enters Tryz.func136 (c := Tryz.f136.body.getD .skip) (by kernel_rfl) (by kernel_rfl)
theorem c136 {g : Nat} {lo hi : Int} {p : Int → Bool} (s : List Int) (hg : Asks2 g lo hi p) : PC 136 [tint.lst s, .func (.func g) [] [rR (iI lo), rR (iI hi)]]
    (· = iI (place (firstI p 0 s))) := by
  refine PCalls.assume e136 0 (by simp) .list fun hs => ?_
  refine w136 g lo hi p s (WP.step ?_)
  simp only [T136, Go, Ends', v136, Tr.sure, SS]
  repeat' with_reducible first | intro _ | apply And.intro
  refine WP.findI (fun i => .l0 i) rfl s 0 p (fun i hi => ?_) fun hI => ?_
  · have hr := inRi hi hs
    refine WP.once ?_
    simp only [T136, Tr.sure, SS, hi, z1]
    repeat' with_reducible first | intro _ | apply And.intro
    all_goals first | exact hg _ | (simp [hr, place, Go, Ends', v136, -List.getD_eq_getElem?_getD, *]; done) | (simp_all [hr, place, Go, Ends', v136, -List.getD_eq_getElem?_getD]; done)
  · refine WP.step ?_
    simp only [T136, Go, Ends', v136, Tr.sure, SS]
    repeat' with_reducible first | intro _ | apply And.intro
    all_goals simp [hI, place, Go, Ends', v136, -List.getD_eq_getElem?_getD, *]
inductive P120
  | e
inductive R120
  | r0 (r0 : Bool)
noncomputable def T120 (g : Nat) (lo : Int) (hi : Int) (p : Int → Bool) (s : List Int) : P120 → Tr P120 R120
  | .e => (.call 136 [tint.lst s, .func (.func g) [] [rR (iI lo), rR (iI hi)]] (iI (place (firstI p 0 s))) true true (.out (.r0 (decide ((place (firstI p 0 s)) ≥ (0 : Int))))))
noncomputable def g120 (g : Nat) (lo : Int) (hi : Int) (p : Int → Bool) (s : List Int) : P120 → List Item × St
  | .e => bd Tryz.f120 [tint.lst s, .func (.func g) [] [rR (iI lo), rR (iI hi)]] 7
noncomputable def n120 : R120 → Exit × St
  | .r0 r0 => (.ret, ⟨mk 9 [(4, .bool r0)], [], []⟩)
noncomputable def v120 : R120 → V
  | .r0 r0 => .bool r0
theorem s120 (g : Nat) (lo : Int) (hi : Int) (p : Int → Bool) (s : List Int) : Sm 0 (g120 g lo hi p s) (T120 g lo hi p s) (n120)
  | .e => ⟨400, by kernel_rfl⟩
theorem q120 : ∀ r, bodyQ Tryz.prog Tryz.f120 (· = v120 r) (n120 r).1 (n120 r).2
  | .r0 r0 => bq (.bool r0) (by kernel_rfl)
theorem w120 (g : Nat) (lo : Int) (hi : Int) (p : Int → Bool) (s : List Int) {post : V → Prop} (h : WQ (T120 g lo hi p s) v120 post .e) : PC 120 [tint.lst s, .func (.func g) [] [rR (iI lo), rR (iI hi)]] post :=
  PCalls.wq Tryz.func120 (s120 g lo hi p s) q120 h
theorem c120 {g : Nat} {lo hi : Int} {p : Int → Bool} (s : List Int) (hg : Asks2 g lo hi p) : PC 120 [tint.lst s, .func (.func g) [] [rR (iI lo), rR (iI hi)]]
    (· = .bool (s.any p)) := by
  have h1 : decide (0 ≤ place (firstI p 0 s)) = s.any p := by rw [← firstI_any p s 0, Bool.eq_iff_iff, decide_eq_true_iff]; exact place_ge _
  refine w120 g lo hi p s (WP.step ?_)
  simp only [T120, Go, Ends', v120, Tr.sure, SS]
  repeat' with_reducible first | intro _ | apply And.intro
  all_goals first | exact c136 s hg | (simp [h1, Go, Ends', v120, -List.getD_eq_getElem?_getD, *]; done)
inductive P58
  | e
inductive R58
  | r0 (r0 : Bool)
noncomputable def T58 (p0 : Int) (p1 : Int) (p2 : List Int) : P58 → Tr P58 R58
  | .e => (.call 120 [tint.lst p2, fG 121 [rR (iI p0), rR (iI p1)]] (.bool (outside p0 p1 p2)) true true (.out (.r0 (outside p0 p1 p2))))
noncomputable def g58 (p0 : Int) (p1 : Int) (p2 : List Int) : P58 → List Item × St
  | .e => bd Tryz.f58 [iI p0, iI p1, tint.lst p2] 7
noncomputable def n58 : R58 → Exit × St
  | .r0 r0 => (.ret, ⟨mk 10 [(6, .bool r0)], [], []⟩)
noncomputable def v58 : R58 → V
  | .r0 r0 => .bool r0
theorem s58 (p0 : Int) (p1 : Int) (p2 : List Int) : Sm 0 (g58 p0 p1 p2) (T58 p0 p1 p2) (n58)
  | .e => ⟨400, by kernel_rfl⟩
theorem q58 : ∀ r, bodyQ Tryz.prog Tryz.f58 (· = v58 r) (n58 r).1 (n58 r).2
  | .r0 r0 => bq (.bool r0) (by kernel_rfl)
theorem w58 (p0 : Int) (p1 : Int) (p2 : List Int) {post : V → Prop} (h : WQ (T58 p0 p1 p2) v58 post .e) : PC 58 [iI p0, iI p1, tint.lst p2] post :=
  PCalls.wq Tryz.func58 (s58 p0 p1 p2) q58 h
theorem c58 (lo hi : Int) (l : List Int) : PC 58 [iI lo, iI hi, tint.lst l] (· = .bool (outside lo hi l)) := by
  refine w58 _ _ _ (WP.step ?_)
  simp only [T58, Go, Ends', v58, Tr.sure, SS]
  repeat' with_reducible first | intro _ | apply And.intro
  all_goals exact c120 l fun n => c121 n lo hi
inductive P109
  | e
inductive R109
  | r0 (r0 : Bool)
noncomputable def T109 (p0 : Int) (p1 : Int) (p2 : List Int) : P109 → Tr P109 R109
  | .e => (.call 120 [tint.lst p2, fG 153 [rR (iI p0), rR (iI p1)]] (.bool (outside p0 p1 p2)) true true (.out (.r0 (outside p0 p1 p2))))
noncomputable def g109 (p0 : Int) (p1 : Int) (p2 : List Int) : P109 → List Item × St
  | .e => bd Tryz.f109 [iI p0, iI p1, tint.lst p2] 7
noncomputable def n109 : R109 → Exit × St
  | .r0 r0 => (.ret, ⟨mk 10 [(6, .bool r0)], [], []⟩)
noncomputable def v109 : R109 → V
  | .r0 r0 => .bool r0
theorem s109 (p0 : Int) (p1 : Int) (p2 : List Int) : Sm 0 (g109 p0 p1 p2) (T109 p0 p1 p2) (n109)
  | .e => ⟨400, by kernel_rfl⟩
theorem q109 : ∀ r, bodyQ Tryz.prog Tryz.f109 (· = v109 r) (n109 r).1 (n109 r).2
  | .r0 r0 => bq (.bool r0) (by kernel_rfl)
theorem w109 (p0 : Int) (p1 : Int) (p2 : List Int) {post : V → Prop} (h : WQ (T109 p0 p1 p2) v109 post .e) : PC 109 [iI p0, iI p1, tint.lst p2] post :=
  PCalls.wq Tryz.func109 (s109 p0 p1 p2) q109 h
theorem c109 (lo hi : Int) (l : List Int) : PC 109 [iI lo, iI hi, tint.lst l] (· = .bool (outside lo hi l)) := by
  refine w109 _ _ _ (WP.step ?_)
  simp only [T109, Go, Ends', v109, Tr.sure, SS]
  repeat' with_reducible first | intro _ | apply And.intro
  all_goals exact c120 l fun n => c153 n lo hi
theorem outside1 (lo hi a : Int) : outside lo hi [a] = !within a lo hi := by simp [outside]
theorem outside2 (lo hi a b : Int) : outside lo hi [a, b] = (!within a lo hi || !within b lo hi) := by simp [outside]
inductive P113
  | e
inductive R113
  | r0 (r0 : ByteArray)
noncomputable def T113 (p0 : Mould) : P113 → Tr P113 R113
  | .e => (.out (.r0 p0.name))
noncomputable def g113 (p0 : Mould) : P113 → List Item × St
  | .e => bd Tryz.f113 [.agg [.str p0.name, iI p0.casts, tSpan.lst p0.lasts]] 4
noncomputable def n113 : R113 → Exit × St
  | .r0 r0 => (.ret, ⟨mk 5 [(2, .str r0)], [], []⟩)
noncomputable def v113 : R113 → V
  | .r0 r0 => .str r0
theorem s113 (p0 : Mould) : Sm 0 (g113 p0) (T113 p0) (n113)
  | .e => ⟨400, by kernel_rfl⟩
theorem q113 : ∀ r, bodyQ Tryz.prog Tryz.f113 (· = v113 r) (n113 r).1 (n113 r).2
  | .r0 r0 => bq (.str r0) (by kernel_rfl)
theorem w113 (p0 : Mould) {post : V → Prop} (h : WQ (T113 p0) v113 post .e) : PC 113 [.agg [.str p0.name, iI p0.casts, tSpan.lst p0.lasts]] post :=
  PCalls.wq Tryz.func113 (s113 p0) q113 h
theorem c113 (m : Mould) : PC 113 [.agg (tMould.cells m)] (· = .str m.name) := by
  refine w113 _ (WP.step ?_)
  simp only [T113, Go, Ends', v113, Tr.sure, SS]
  repeat' with_reducible first | intro _ | apply And.intro
inductive P119
  | e
inductive R119
  | r0 (r0 : ByteArray)
noncomputable def T119 (p0 : Head) : P119 → Tr P119 R119
  | .e => (.out (.r0 p0.name))
noncomputable def g119 (p0 : Head) : P119 → List Item × St
  | .e => bd Tryz.f119 [.agg [.str p0.name, tint.lst p0.shows]] 4
noncomputable def n119 : R119 → Exit × St
  | .r0 r0 => (.ret, ⟨mk 5 [(2, .str r0)], [], []⟩)
noncomputable def v119 : R119 → V
  | .r0 r0 => .str r0
theorem s119 (p0 : Head) : Sm 0 (g119 p0) (T119 p0) (n119)
  | .e => ⟨400, by kernel_rfl⟩
theorem q119 : ∀ r, bodyQ Tryz.prog Tryz.f119 (· = v119 r) (n119 r).1 (n119 r).2
  | .r0 r0 => bq (.str r0) (by kernel_rfl)
theorem w119 (p0 : Head) {post : V → Prop} (h : WQ (T119 p0) v119 post .e) : PC 119 [.agg [.str p0.name, tint.lst p0.shows]] post :=
  PCalls.wq Tryz.func119 (s119 p0) q119 h
theorem c119 (m : Head) : PC 119 [.agg (tHead.cells m)] (· = .str m.name) := by
  refine w119 _ (WP.step ?_)
  simp only [T119, Go, Ends', v119, Tr.sure, SS]
  repeat' with_reducible first | intro _ | apply And.intro
end
end Go.Proofs.YtdamoemndifpmaaGreat
namespace Go.Proofs.YtdamoemndifpmaaGreat
open Ab Go
noncomputable section
theorem VLe.take {τ : Type} (E : Ty τ) (l : List τ) (i n : Nat) (hi : i ≤ l.length) (hn : n = i) : VLe (.list E.w n (fun a j => rowsOf E l a j)) (E.lst (l.take i)) := by
  subst hn
  have hl : (l.take n).length = n := by simp; omega
  show VLe _ (.list E.w (l.take n).length (rowsOf E (l.take n)))
  rw [hl]
  exact VLe.list fun a j ha _ => by simp only [rowsOf, List.getD_eq_getElem?_getD, List.getElem?_take, ha, if_true]
theorem byte_at (s : ByteArray) (i : Nat) (hi : i < s.size) : s[i]'hi = s.data.toList.getD i 0 := by
  simp only [List.getD_eq_getElem?_getD, List.getElem?_eq_getElem (show i < s.data.toList.length from hi), Option.getD_some]; rfl
inductive P154
  | e
  | l0 (o0_0 : Nat)
inductive R154
  | r0 (r0 : Bool)
noncomputable def T154 (p0 : ByteArray) : P154 → Tr P154 R154
  | .e => (.sem (opAt Tryz.f154 1 1) [(.tmp 6, .str p0)] [] (.ref 0 0 0) [.obj (.stringIter p0 0)] true (.go (.l0 0)))
  | .l0 o0_0 => let c2 := Utf8.decode p0 o0_0; let c1 : Tr P154 R154 := .br ((o0_0 : Int) == (0 : Int)) (.lit true (.lit true (.lit true (.out (.r0 false))))) (.br ((c2.1 : Int) != (46 : Int)) (.br (decide ((c2.1 : Int) < (48 : Int))) (.lit true (.lit false (.lit true (.lit true (.out (.r0 false)))))) (.lit true (.lit false (.lit true (.br (decide ((c2.1 : Int) > (57 : Int))) (.out (.r0 false)) (.go (.l0 (o0_0 + c2.2)))))))) (.lit false (.lit false (.lit true (.lit false (.go (.l0 (o0_0 + c2.2)))))))); let c3 : List Blk := [.obj (.stringIter p0 o0_0)]; (.wait 1 (.cas (decide (o0_0 < p0.size)) (.sem (opAt Tryz.f154 2 0) [(.tmp 7, .ref 0 0 0)] c3 (.tuple [.bool true, iI (o0_0 : Int), .int .i32 (c2.1 : Int)]) [.obj (.stringIter p0 (o0_0 + c2.2))] true (.lit true (.br (decide ((97 : Int) ≤ (c2.1 : Int))) (.br (!(decide ((c2.1 : Int) ≤ (122 : Int)))) c1 (.lit false (.lit false (.go (.l0 (o0_0 + c2.2)))))) (.lit true c1)))) (.sem (opAt Tryz.f154 2 0) [(.tmp 7, .ref 0 0 0)] c3 (.tuple [.bool false]) c3 true (.lit false (.br (!(p0.toList == (ByteArray.mk #[]).toList)) (.out (.r0 (decide ((p0.size : Int) ≤ (16 : Int))))) (.out (.r0 false)))))))
noncomputable def g154 (p0 : ByteArray) : P154 → List Item × St
  | .e => bd Tryz.f154 [.str p0] 42
  | .l0 o0_0 => (cutOf Tryz.f154 0, ⟨mk 43 [(0, .str p0), (2, .bool false), (7, .ref 0 0 0)], [.obj (.stringIter p0 o0_0)], []⟩)
noncomputable def n154 : R154 → Exit × St
  | .r0 r0 => (.ret, ⟨mk 43 [(2, .bool r0)], [], []⟩)
noncomputable def v154 : R154 → V
  | .r0 r0 => .bool r0
theorem s154 (p0 : ByteArray) : Sm 0 (g154 p0) (T154 p0) (n154)
  | .e => ⟨400, by kernel_rfl⟩
  | .l0 _ => ⟨400, by kernel_rfl⟩
theorem q154 : ∀ r, bodyQ Tryz.prog Tryz.f154 (· = v154 r) (n154 r).1 (n154 r).2
  | .r0 r0 => bq (.bool r0) (by kernel_rfl)
theorem w154 (p0 : ByteArray) {post : V → Prop} (h : WQ (T154 p0) v154 post .e) : PC 154 [.str p0] post :=
  PCalls.wq Tryz.func154 (s154 p0) q154 h
theorem c154 (s : ByteArray) : PC 154 [.str s] (· = .bool (nameOk s)) := by
  refine w154 _ (WP.step ?_)
  simp only [T154, Go, Ends', v154, Tr.sure, SS]
  repeat' with_reducible first | intro _ | apply And.intro
  all_goals first | exact sem_rangeStr (by kernel_rfl) | skip
  refine WP.count (fun i => .l0 i) rfl s.size (fun i => nameFrom true s.data.toList = nameFrom (i == 0) (s.data.toList.drop i)) rfl (fun i hi hI => ?_) fun hI => ?_
  · have hd := drop_cons 0 s.data.toList i hi
    rw [hd] at hI
    have hb := byte_at s i hi
    have hsem : SemOK Tryz.prog (opAt Tryz.f154 2 0) _ _ _ _ := sem_nextStr (P := Tryz.prog) (x := .tmp 7) (i := 0) (h := [.obj (.stringIter s i)]) rfl hi
    have hgo : (97 ≤ (s.data.toList.getD i 0).toNat ∧ (s.data.toList.getD i 0).toNat ≤ 122 ∨ i ≠ 0 ∧ (48 ≤ (s.data.toList.getD i 0).toNat ∧ (s.data.toList.getD i 0).toNat ≤ 57 ∨ (s.data.toList.getD i 0).toNat = 46)) →
        nameFrom true s.data.toList = nameFrom (i + 1 == 0) (s.data.toList.drop (i + 1)) := fun h => by
      rw [hI]; simp only [nameFrom, letter, other, within]
      have : (decide ((97 : Int) ≤ ((s.data.toList.getD i 0).toNat : Int)) && decide (((s.data.toList.getD i 0).toNat : Int) ≤ 122) || !(i == 0) && (decide ((48 : Int) ≤ ((s.data.toList.getD i 0).toNat : Int)) && decide (((s.data.toList.getD i 0).toNat : Int) ≤ 57) || ((s.data.toList.getD i 0).toNat : Int) == 46)) = true := by
        simp only [Bool.or_eq_true, Bool.and_eq_true, decide_eq_true_eq, Bool.not_eq_eq_eq_not, Bool.not_true, beq_eq_false_iff_ne, beq_iff_eq]; omega
      rw [this]; simp
    have hx : ¬ (97 ≤ (s.data.toList.getD i 0).toNat ∧ (s.data.toList.getD i 0).toNat ≤ 122 ∨ i ≠ 0 ∧ (48 ≤ (s.data.toList.getD i 0).toNat ∧ (s.data.toList.getD i 0).toNat ≤ 57 ∨ (s.data.toList.getD i 0).toNat = 46)) →
        nameOk s = false := fun h => by
      have : nameFrom true s.data.toList = false := by
        rw [hI]; simp only [nameFrom, letter, other, within]
        have : (decide ((97 : Int) ≤ ((s.data.toList.getD i 0).toNat : Int)) && decide (((s.data.toList.getD i 0).toNat : Int) ≤ 122) || !(i == 0) && (decide ((48 : Int) ≤ ((s.data.toList.getD i 0).toNat : Int)) && decide (((s.data.toList.getD i 0).toNat : Int) ≤ 57) || ((s.data.toList.getD i 0).toNat : Int) == 46)) = false := by
          rw [Bool.eq_false_iff]; simp only [ne_eq, Bool.or_eq_true, Bool.and_eq_true, decide_eq_true_eq, Bool.not_eq_eq_eq_not, Bool.not_true, beq_eq_false_iff_ne, beq_iff_eq]; omega
        rw [this]; simp
      simp [nameOk, this]
    have hen : ∀ x : Bool, nameOk s = false → x = false → V.bool x = V.bool (nameOk s) := fun x h1 h2 => by rw [h1, h2]
    by_cases ha : (s.data.toList.getD i 0).toNat < 128
    · have hu := decode_ascii s i hi (by rw [hb]; exact ha)
      rw [hb] at hu
      rw [hu] at hsem
      generalize hg : s.data.toList.getD i 0 = c at *
      refine WP.once ?_
      simp only [T154, Tr.sure, SS, hi, hu]
      repeat' with_reducible first | intro _ | apply And.intro
      all_goals first | exact hsem | exact .inl (hgo (by omega)) | exact .inr (hen _ (hx (by omega)) rfl)
    · have hu := (decode_high s i hi (by rw [hb]; omega)).1
      have hx' := hx (by omega)
      refine WP.once ?_
      simp only [T154, Tr.sure, SS, hi]
      repeat' with_reducible first | intro _ | apply And.intro
      all_goals first | exact hsem | exact .inr (hen _ hx' rfl) | exact (by omega)
      all_goals (exfalso; omega)
  · have he : nameFrom (s.size == 0) (s.data.toList.drop s.size) = true := by rw [← data_len, List.drop_length]; rfl
    have hz : s.toList = (ByteArray.mk #[]).toList ↔ s.size = 0 := by
      rw [ByteArray.toList_eq, ByteArray.toList_eq, ← data_len]
      exact ⟨fun h => by rw [h]; rfl, fun h => List.eq_nil_of_length_eq_zero h⟩
    have h16 : ((s.size : Int) ≤ 16) ↔ s.size ≤ 16 := by omega
    refine WP.step ?_
    simp only [T154, Go, Ends', v154, Tr.sure, SS, Nat.lt_irrefl, hz]
    repeat' with_reducible first | intro _ | apply And.intro
    all_goals first | exact sem_nextStr0 rfl (Nat.lt_irrefl _) | (simp [hI, he, nameOk, hz, h16, Go, Ends', v154, -List.getD_eq_getElem?_getD, *]; done)
inductive P156
  | e
inductive R156
  | r0 (r0 : Bool)
noncomputable def T156 (m : Mould) (own : ByteArray) : P156 → Tr P156 R156
  | .e => (.front [(2, 113, [.agg [.str m.name, iI m.casts, tSpan.lst m.lasts]], .str (Mould.name m))] [] true true (.out (.r0 ((Mould.name m).toList == own.toList))))
noncomputable def g156 (m : Mould) (own : ByteArray) : P156 → List Item × St
  | .e => bd Tryz.f156 [.agg [.str m.name, iI m.casts, tSpan.lst m.lasts], rR (fF 113), rR (.str own)] 7
noncomputable def n156 : R156 → Exit × St
  | .r0 r0 => (.ret, ⟨mk 10 [(4, .bool r0)], [], []⟩)
noncomputable def v156 : R156 → V
  | .r0 r0 => .bool r0
theorem s156 (m : Mould) (own : ByteArray) : Sm 0 (g156 m own) (T156 m own) (n156)
  | .e => ⟨400, by kernel_rfl⟩
theorem q156 : ∀ r, bodyQ Tryz.prog Tryz.f156 (· = v156 r) (n156 r).1 (n156 r).2
  | .r0 r0 => bq (.bool r0) (by kernel_rfl)
theorem w156 (m : Mould) (own : ByteArray) {post : V → Prop} (h : WQ (T156 m own) v156 post .e) : PC 156 [.agg [.str m.name, iI m.casts, tSpan.lst m.lasts], rR (fF 113), rR (.str own)] post :=
  PCalls.wq Tryz.func156 (s156 m own) q156 h
theorem c156 (m : Mould) (own : ByteArray) : PC 156 [.agg (tMould.cells m), rR (fF 113), rR (.str own)] (· = .bool (same m.name own)) := by
  refine w156 _ _ (WP.step ?_)
  simp only [T156, Go, Ends', v156, Tr.sure, SS]
  repeat' with_reducible first | intro _ | apply And.intro
  all_goals first | exact c113 _ | (simp [same, Go, Ends', v156, -List.getD_eq_getElem?_getD, *]; done)
inductive P203
  | e
  | l0 (x0_8 : Int)
inductive R203
  | r0 (r0 : Int)
noncomputable def T203 (own : ByteArray) (s : List Mould) : P203 → Tr P203 R203
  | .e => (.go (.l0 0))
  | .l0 x0_8 => let c1 := s.getD (x0_8).toNat tMould.zero; (.br (decide (x0_8 < (s.length : Int))) (.need (decide (0 ≤ x0_8) && decide (x0_8 < (s.length : Int))) (.call 156 [.agg [.str (c1.name), iI (c1.casts), tSpan.lst (c1.lasts)], rR (fF 113), rR (.str own)] (.bool (same c1.name own)) true true (.br (same c1.name own) (.out (.r0 x0_8)) (.need (inR .i64 (x0_8 + (1 : Int))) (.go (.l0 (x0_8 + (1 : Int)))))))) (.out (.r0 (-1))))
noncomputable def g203 (own : ByteArray) (s : List Mould) : P203 → List Item × St
  | .e => bd Tryz.f203 [tMould.lst s, fG 156 [rR (fF 113), rR (.str own)]] 17
  | .l0 x0_8 => (cutOf Tryz.f203 0, ⟨mk 19 [(0, tMould.lst s), (1, fG 156 [rR (fF 113), rR (.str own)]), (4, iI 0), (7, iI (s.length : Int)), (8, iI x0_8)], [], []⟩)
noncomputable def n203 : R203 → Exit × St
  | .r0 r0 => (.ret, ⟨mk 19 [(4, iI r0)], [], []⟩)
noncomputable def v203 : R203 → V
  | .r0 r0 => iI r0
theorem s203 (own : ByteArray) (s : List Mould) : Sm 0 (g203 own s) (T203 own s) (n203)
  | .e => ⟨400, by kernel_rfl⟩
  | .l0 _ => ⟨400, by kernel_rfl⟩
theorem q203 : ∀ r, bodyQ Tryz.prog Tryz.f203 (· = v203 r) (n203 r).1 (n203 r).2
  | .r0 r0 => bq (iI r0) (by kernel_rfl)
theorem w203 (own : ByteArray) (s : List Mould) {post : V → Prop} (h : WQ (T203 own s) v203 post .e) : PC 203 [tMould.lst s, fG 156 [rR (fF 113), rR (.str own)]] post :=
  PCalls.wq Tryz.func203 (s203 own s) q203 h
theorem c203 (s : List Mould) (own : ByteArray) (hl : s.length ≤ maxn) : PC 203 [tMould.lst s, fG 156 [rR (fF 113), rR (.str own)]] (· = iI (place (firstI (fun m => same m.name own) 0 s))) := by
  refine w203 own s (WP.step ?_)
  simp only [T203, Go, Ends', v203, Tr.sure, SS]
  repeat' with_reducible first | intro _ | apply And.intro
  refine WP.findI (fun i => .l0 i) rfl s zMould (fun m => same m.name own) (fun i hi => ?_) fun hI => ?_
  · have hr := inRi hi hl
    refine WP.once ?_
    simp only [T203, Tr.sure, SS, hi, z2]
    repeat' with_reducible first | intro _ | apply And.intro
    all_goals first | exact c156 _ _ | (simp [hr, place, Go, Ends', v203, -List.getD_eq_getElem?_getD, *]; done) | (simp_all [hr, place, Go, Ends', v203, -List.getD_eq_getElem?_getD]; done)
  · refine WP.step ?_
    simp only [T203, Go, Ends', v203, Tr.sure, SS]
    repeat' with_reducible first | intro _ | apply And.intro
    all_goals simp [hI, place, Go, Ends', v203, -List.getD_eq_getElem?_getD, *]
inductive P155
  | e
inductive R155
  | r0 (r0 : Bool)
noncomputable def T155 (own : ByteArray) (s : List Mould) : P155 → Tr P155 R155
  | .e => (.call 203 [tMould.lst s, fG 156 [rR (fF 113), rR (.str own)]] (iI (place (firstI (fun m => same m.name own) 0 s))) true true (.out (.r0 (decide ((place (firstI (fun m => same m.name own) 0 s)) ≥ (0 : Int))))))
noncomputable def g155 (own : ByteArray) (s : List Mould) : P155 → List Item × St
  | .e => bd Tryz.f155 [tMould.lst s, fG 156 [rR (fF 113), rR (.str own)]] 7
noncomputable def n155 : R155 → Exit × St
  | .r0 r0 => (.ret, ⟨mk 9 [(4, .bool r0)], [], []⟩)
noncomputable def v155 : R155 → V
  | .r0 r0 => .bool r0
theorem s155 (own : ByteArray) (s : List Mould) : Sm 0 (g155 own s) (T155 own s) (n155)
  | .e => ⟨400, by kernel_rfl⟩
theorem q155 : ∀ r, bodyQ Tryz.prog Tryz.f155 (· = v155 r) (n155 r).1 (n155 r).2
  | .r0 r0 => bq (.bool r0) (by kernel_rfl)
theorem w155 (own : ByteArray) (s : List Mould) {post : V → Prop} (h : WQ (T155 own s) v155 post .e) : PC 155 [tMould.lst s, fG 156 [rR (fF 113), rR (.str own)]] post :=
  PCalls.wq Tryz.func155 (s155 own s) q155 h
theorem c155 (s : List Mould) (own : ByteArray) (hl : s.length ≤ maxn) : PC 155 [tMould.lst s, fG 156 [rR (fF 113), rR (.str own)]] (· = .bool ((s.map (·.name)).any fun o => same o own)) := by
  have h1 : decide (0 ≤ place (firstI (fun m => same m.name own) 0 s)) = (s.map (·.name)).any fun o => same o own := by rw [List.any_map, ← firstI_any _ s 0, Bool.eq_iff_iff, decide_eq_true_iff]; exact place_ge _
  refine w155 own s (WP.step ?_)
  simp only [T155, Go, Ends', v155, Tr.sure, SS]
  repeat' with_reducible first | intro _ | apply And.intro
  all_goals first | exact c203 s own hl | (simp [h1, Go, Ends', v155, -List.getD_eq_getElem?_getD, *]; done)
inductive P112
  | e
inductive R112
  | r0 (r0 : Int)
noncomputable def T112 (l : List Mould) (n : Nat) : P112 → Tr P112 R112
  | .e => let c1 := l.getD ((n : Int)).toNat tMould.zero; let c2 := Mould.name c1; (.front [(5, 113, [.agg [.str (c1.name), iI (c1.casts), tSpan.lst (c1.lasts)]], .str c2)] [] (((decide (0 ≤ (n : Int)) && decide ((n : Int) < (l.length : Int))) && true) && true) true (.call 154 [.str c2] (.bool (nameOk c2)) true true (.br (!(nameOk c2)) (.out (.r0 6)) (.need ((decide (0 ≤ (0 : Int)) && decide ((0 : Int) ≤ (n : Int))) && decide ((n : Int) ≤ (l.length : Int))) (.call 155 [.list 3 (((n : Int)).toNat - ((0 : Int)).toNat) (fun i j => rowsOf tMould l (((0 : Int)).toNat + i) j), fG 156 [rR (fF 113), rR (.str c2)]] (.bool (((l.take n).map (·.name)).any fun o => same o (l.getD n zMould).name)) true true (.br (((l.take n).map (·.name)).any fun o => same o (l.getD n zMould).name) (.out (.r0 5)) (.out (.r0 0))))))))
noncomputable def g112 (l : List Mould) (n : Nat) : P112 → List Item × St
  | .e => bd Tryz.f112 [tMould.lst l, iI (n : Int), fF 113] 21
noncomputable def n112 : R112 → Exit × St
  | .r0 r0 => (.ret, ⟨mk 24 [(6, iI r0)], [], []⟩)
noncomputable def v112 : R112 → V
  | .r0 r0 => iI r0
theorem s112 (l : List Mould) (n : Nat) : Sm 0 (g112 l n) (T112 l n) (n112)
  | .e => ⟨400, by kernel_rfl⟩
theorem q112 : ∀ r, bodyQ Tryz.prog Tryz.f112 (· = v112 r) (n112 r).1 (n112 r).2
  | .r0 r0 => bq (iI r0) (by kernel_rfl)
theorem w112 (l : List Mould) (n : Nat) {post : V → Prop} (h : WQ (T112 l n) v112 post .e) : PC 112 [tMould.lst l, iI (n : Int), fF 113] post :=
  PCalls.wq Tryz.func112 (s112 l n) q112 h
theorem c112 (l : List Mould) (n : Nat) (hn : n < l.length) (hl : l.length ≤ maxn) : PC 112 [tMould.lst l, iI n, fF 113] (· = iI (newErr (l.getD n zMould).name ((l.map (·.name)).take n))) := by
  have hq : n ≤ l.length := by omega
  have hq' : (n : Int) ≤ l.length := by omega
  have hc := c155 (l.take n) (l.getD n zMould).name (by simp; omega)
  rw [List.map_take] at hc
  refine w112 _ _ (WP.step ?_)
  simp only [T112, Go, Ends', v112, Tr.sure, SS, z2, hn, hq', List.map_take, Int.toNat_zero, Nat.sub_zero, Nat.zero_add]
  repeat' with_reducible first | intro _ | apply And.intro
  all_goals first | exact c113 _ | exact c154 _ | exact (PCalls.arg (pre := []) hc (VLe.take tMould l n n hq rfl)) | (simp [newErr, hn, Go, Ends', v112, -List.getD_eq_getElem?_getD, *]; done)
inductive P158
  | e
inductive R158
  | r0 (r0 : Bool)
noncomputable def T158 (m : Head) (own : ByteArray) : P158 → Tr P158 R158
  | .e => (.front [(2, 119, [.agg [.str m.name, tint.lst m.shows]], .str (Head.name m))] [] true true (.out (.r0 ((Head.name m).toList == own.toList))))
noncomputable def g158 (m : Head) (own : ByteArray) : P158 → List Item × St
  | .e => bd Tryz.f158 [.agg [.str m.name, tint.lst m.shows], rR (fF 119), rR (.str own)] 7
noncomputable def n158 : R158 → Exit × St
  | .r0 r0 => (.ret, ⟨mk 10 [(4, .bool r0)], [], []⟩)
noncomputable def v158 : R158 → V
  | .r0 r0 => .bool r0
theorem s158 (m : Head) (own : ByteArray) : Sm 0 (g158 m own) (T158 m own) (n158)
  | .e => ⟨400, by kernel_rfl⟩
theorem q158 : ∀ r, bodyQ Tryz.prog Tryz.f158 (· = v158 r) (n158 r).1 (n158 r).2
  | .r0 r0 => bq (.bool r0) (by kernel_rfl)
theorem w158 (m : Head) (own : ByteArray) {post : V → Prop} (h : WQ (T158 m own) v158 post .e) : PC 158 [.agg [.str m.name, tint.lst m.shows], rR (fF 119), rR (.str own)] post :=
  PCalls.wq Tryz.func158 (s158 m own) q158 h
theorem c158 (m : Head) (own : ByteArray) : PC 158 [.agg (tHead.cells m), rR (fF 119), rR (.str own)] (· = .bool (same m.name own)) := by
  refine w158 _ _ (WP.step ?_)
  simp only [T158, Go, Ends', v158, Tr.sure, SS]
  repeat' with_reducible first | intro _ | apply And.intro
  all_goals first | exact c119 _ | (simp [same, Go, Ends', v158, -List.getD_eq_getElem?_getD, *]; done)
inductive P204
  | e
  | l0 (x0_8 : Int)
inductive R204
  | r0 (r0 : Int)
noncomputable def T204 (own : ByteArray) (s : List Head) : P204 → Tr P204 R204
  | .e => (.go (.l0 0))
  | .l0 x0_8 => let c1 := s.getD (x0_8).toNat tHead.zero; (.br (decide (x0_8 < (s.length : Int))) (.need (decide (0 ≤ x0_8) && decide (x0_8 < (s.length : Int))) (.call 158 [.agg [.str (c1.name), tint.lst (c1.shows)], rR (fF 119), rR (.str own)] (.bool (same c1.name own)) true true (.br (same c1.name own) (.out (.r0 x0_8)) (.need (inR .i64 (x0_8 + (1 : Int))) (.go (.l0 (x0_8 + (1 : Int)))))))) (.out (.r0 (-1))))
noncomputable def g204 (own : ByteArray) (s : List Head) : P204 → List Item × St
  | .e => bd Tryz.f204 [tHead.lst s, fG 158 [rR (fF 119), rR (.str own)]] 17
  | .l0 x0_8 => (cutOf Tryz.f204 0, ⟨mk 19 [(0, tHead.lst s), (1, fG 158 [rR (fF 119), rR (.str own)]), (4, iI 0), (7, iI (s.length : Int)), (8, iI x0_8)], [], []⟩)
noncomputable def n204 : R204 → Exit × St
  | .r0 r0 => (.ret, ⟨mk 19 [(4, iI r0)], [], []⟩)
noncomputable def v204 : R204 → V
  | .r0 r0 => iI r0
theorem s204 (own : ByteArray) (s : List Head) : Sm 0 (g204 own s) (T204 own s) (n204)
  | .e => ⟨400, by kernel_rfl⟩
  | .l0 _ => ⟨400, by kernel_rfl⟩
theorem q204 : ∀ r, bodyQ Tryz.prog Tryz.f204 (· = v204 r) (n204 r).1 (n204 r).2
  | .r0 r0 => bq (iI r0) (by kernel_rfl)
theorem w204 (own : ByteArray) (s : List Head) {post : V → Prop} (h : WQ (T204 own s) v204 post .e) : PC 204 [tHead.lst s, fG 158 [rR (fF 119), rR (.str own)]] post :=
  PCalls.wq Tryz.func204 (s204 own s) q204 h
theorem c204 (s : List Head) (own : ByteArray) (hl : s.length ≤ maxn) : PC 204 [tHead.lst s, fG 158 [rR (fF 119), rR (.str own)]] (· = iI (place (firstI (fun m => same m.name own) 0 s))) := by
  refine w204 own s (WP.step ?_)
  simp only [T204, Go, Ends', v204, Tr.sure, SS]
  repeat' with_reducible first | intro _ | apply And.intro
  refine WP.findI (fun i => .l0 i) rfl s zHead (fun m => same m.name own) (fun i hi => ?_) fun hI => ?_
  · have hr := inRi hi hl
    refine WP.once ?_
    simp only [T204, Tr.sure, SS, hi, z3]
    repeat' with_reducible first | intro _ | apply And.intro
    all_goals first | exact c158 _ _ | (simp [hr, place, Go, Ends', v204, -List.getD_eq_getElem?_getD, *]; done) | (simp_all [hr, place, Go, Ends', v204, -List.getD_eq_getElem?_getD]; done)
  · refine WP.step ?_
    simp only [T204, Go, Ends', v204, Tr.sure, SS]
    repeat' with_reducible first | intro _ | apply And.intro
    all_goals simp [hI, place, Go, Ends', v204, -List.getD_eq_getElem?_getD, *]
inductive P157
  | e
inductive R157
  | r0 (r0 : Bool)
noncomputable def T157 (own : ByteArray) (s : List Head) : P157 → Tr P157 R157
  | .e => (.call 204 [tHead.lst s, fG 158 [rR (fF 119), rR (.str own)]] (iI (place (firstI (fun m => same m.name own) 0 s))) true true (.out (.r0 (decide ((place (firstI (fun m => same m.name own) 0 s)) ≥ (0 : Int))))))
noncomputable def g157 (own : ByteArray) (s : List Head) : P157 → List Item × St
  | .e => bd Tryz.f157 [tHead.lst s, fG 158 [rR (fF 119), rR (.str own)]] 7
noncomputable def n157 : R157 → Exit × St
  | .r0 r0 => (.ret, ⟨mk 9 [(4, .bool r0)], [], []⟩)
noncomputable def v157 : R157 → V
  | .r0 r0 => .bool r0
theorem s157 (own : ByteArray) (s : List Head) : Sm 0 (g157 own s) (T157 own s) (n157)
  | .e => ⟨400, by kernel_rfl⟩
theorem q157 : ∀ r, bodyQ Tryz.prog Tryz.f157 (· = v157 r) (n157 r).1 (n157 r).2
  | .r0 r0 => bq (.bool r0) (by kernel_rfl)
theorem w157 (own : ByteArray) (s : List Head) {post : V → Prop} (h : WQ (T157 own s) v157 post .e) : PC 157 [tHead.lst s, fG 158 [rR (fF 119), rR (.str own)]] post :=
  PCalls.wq Tryz.func157 (s157 own s) q157 h
theorem c157 (s : List Head) (own : ByteArray) (hl : s.length ≤ maxn) : PC 157 [tHead.lst s, fG 158 [rR (fF 119), rR (.str own)]] (· = .bool ((s.map (·.name)).any fun o => same o own)) := by
  have h1 : decide (0 ≤ place (firstI (fun m => same m.name own) 0 s)) = (s.map (·.name)).any fun o => same o own := by rw [List.any_map, ← firstI_any _ s 0, Bool.eq_iff_iff, decide_eq_true_iff]; exact place_ge _
  refine w157 own s (WP.step ?_)
  simp only [T157, Go, Ends', v157, Tr.sure, SS]
  repeat' with_reducible first | intro _ | apply And.intro
  all_goals first | exact c204 s own hl | (simp [h1, Go, Ends', v157, -List.getD_eq_getElem?_getD, *]; done)
inductive P118
  | e
inductive R118
  | r0 (r0 : Int)
noncomputable def T118 (l : List Head) (n : Nat) : P118 → Tr P118 R118
  | .e => let c1 := l.getD ((n : Int)).toNat tHead.zero; let c2 := Head.name c1; (.front [(5, 119, [.agg [.str (c1.name), tint.lst (c1.shows)]], .str c2)] [] (((decide (0 ≤ (n : Int)) && decide ((n : Int) < (l.length : Int))) && true) && true) true (.call 154 [.str c2] (.bool (nameOk c2)) true true (.br (!(nameOk c2)) (.out (.r0 6)) (.need ((decide (0 ≤ (0 : Int)) && decide ((0 : Int) ≤ (n : Int))) && decide ((n : Int) ≤ (l.length : Int))) (.call 157 [.list 2 (((n : Int)).toNat - ((0 : Int)).toNat) (fun i j => rowsOf tHead l (((0 : Int)).toNat + i) j), fG 158 [rR (fF 119), rR (.str c2)]] (.bool (((l.take n).map (·.name)).any fun o => same o (l.getD n zHead).name)) true true (.br (((l.take n).map (·.name)).any fun o => same o (l.getD n zHead).name) (.out (.r0 5)) (.out (.r0 0))))))))
noncomputable def g118 (l : List Head) (n : Nat) : P118 → List Item × St
  | .e => bd Tryz.f118 [tHead.lst l, iI (n : Int), fF 119] 21
noncomputable def n118 : R118 → Exit × St
  | .r0 r0 => (.ret, ⟨mk 24 [(6, iI r0)], [], []⟩)
noncomputable def v118 : R118 → V
  | .r0 r0 => iI r0
theorem s118 (l : List Head) (n : Nat) : Sm 0 (g118 l n) (T118 l n) (n118)
  | .e => ⟨400, by kernel_rfl⟩
theorem q118 : ∀ r, bodyQ Tryz.prog Tryz.f118 (· = v118 r) (n118 r).1 (n118 r).2
  | .r0 r0 => bq (iI r0) (by kernel_rfl)
theorem w118 (l : List Head) (n : Nat) {post : V → Prop} (h : WQ (T118 l n) v118 post .e) : PC 118 [tHead.lst l, iI (n : Int), fF 119] post :=
  PCalls.wq Tryz.func118 (s118 l n) q118 h
theorem c118 (l : List Head) (n : Nat) (hn : n < l.length) (hl : l.length ≤ maxn) : PC 118 [tHead.lst l, iI n, fF 119] (· = iI (newErr (l.getD n zHead).name ((l.map (·.name)).take n))) := by
  have hq : n ≤ l.length := by omega
  have hq' : (n : Int) ≤ l.length := by omega
  have hc := c157 (l.take n) (l.getD n zHead).name (by simp; omega)
  rw [List.map_take] at hc
  refine w118 _ _ (WP.step ?_)
  simp only [T118, Go, Ends', v118, Tr.sure, SS, z3, hn, hq', List.map_take, Int.toNat_zero, Nat.sub_zero, Nat.zero_add]
  repeat' with_reducible first | intro _ | apply And.intro
  all_goals first | exact c119 _ | exact c154 _ | exact (PCalls.arg (pre := []) hc (VLe.take tHead l n n hq rfl)) | (simp [newErr, hn, Go, Ends', v118, -List.getD_eq_getElem?_getD, *]; done)
end
noncomputable section
inductive P115
  | e
inductive R115
  | r0 (r0 : Int)
noncomputable def T115 (p0 : Int) (p1 : Span) : P115 → Tr P115 R115
  | .e => let c1 := outside 0 6 ([p1.lo, p1.hi] : List Int); (.call 109 [iI 0, iI 6, .list 1 2 (litC 1 2 [iI p1.lo, iI p1.hi])] (.bool c1) ((decide (2 ≤ 2)) && true) true (.br c1 (.out (.r0 7)) (.br (decide (p1.lo > p1.hi)) (.out (.r0 2)) (.out (.r0 0)))))
noncomputable def g115 (p0 : Int) (p1 : Span) : P115 → List Item × St
  | .e => bd Tryz.f115 [iI p0, .agg [iI p1.lo, iI p1.hi]] 16
noncomputable def n115 : R115 → Exit × St
  | .r0 r0 => (.ret, ⟨mk 18 [(4, iI r0)], [], []⟩)
noncomputable def v115 : R115 → V
  | .r0 r0 => iI r0
theorem s115 (p0 : Int) (p1 : Span) : Sm 0 (g115 p0 p1) (T115 p0 p1) (n115)
  | .e => ⟨400, by kernel_rfl⟩
theorem q115 : ∀ r, bodyQ Tryz.prog Tryz.f115 (· = v115 r) (n115 r).1 (n115 r).2
  | .r0 r0 => bq (iI r0) (by kernel_rfl)
theorem w115 (p0 : Int) (p1 : Span) {post : V → Prop} (h : WQ (T115 p0 p1) v115 post .e) : PC 115 [iI p0, .agg [iI p1.lo, iI p1.hi]] post :=
  PCalls.wq Tryz.func115 (s115 p0 p1) q115 h
theorem c115 (i : Int) (x : Span) : PC 115 [iI i, .agg (tSpan.cells x)] (· = iI (spanErr x)) := by
  have ho := outside2 0 6 x.lo x.hi
  refine w115 _ _ (WP.step ?_)
  simp only [T115, Go, Ends', v115, Tr.sure, SS]
  repeat' with_reducible first | intro _ | apply And.intro
  all_goals first | exact (PCalls.arg (pre := [iI 0, iI 6]) (c109 0 6 [x.lo, x.hi]) (VLe.lit tint _ rfl rfl (fun _ => rfl))) | (simp [spanErr, endsErr, Go, Ends', v115, -List.getD_eq_getElem?_getD, *]; done) | (simp_all [spanErr, endsErr, Go, Ends', v115, -List.getD_eq_getElem?_getD]; done)
inductive P114
  | e
  | l0 (x0_11 : Int)
inductive R114
  | r0 (r0 : Int) (r1 : Int)
noncomputable def T114 (l : List Span) : P114 → Tr P114 R114
  | .e => (.go (.l0 0))
  | .l0 x0_11 => let c1 := l.getD (x0_11).toNat tSpan.zero; let c2 := x0_11 < (l.length : Int); (.br (decide c2) (.need (decide (0 ≤ x0_11) && decide c2) (.call 115 [iI x0_11, .agg [iI (c1.lo), iI (c1.hi)]] (iI (spanErr c1)) true true (.br ((spanErr c1) != (0 : Int)) (.out (.r0 x0_11 (spanErr c1))) (.need (inR .i64 (x0_11 + (1 : Int))) (.go (.l0 (x0_11 + (1 : Int)))))))) (.out (.r0 0 0)))
noncomputable def g114 (l : List Span) : P114 → List Item × St
  | .e => bd Tryz.f114 [tSpan.lst l, fF 115] 23
  | .l0 x0_11 => (cutOf Tryz.f114 0, ⟨mk 25 [(1, fF 115), (4, iI 0), (5, iI 0), (9, tSpan.lst l), (10, iI (l.length : Int)), (11, iI x0_11)], [], []⟩)
noncomputable def n114 : R114 → Exit × St
  | .r0 r0 r1 => (.ret, ⟨mk 25 [(4, iI r0), (5, iI r1)], [], []⟩)
noncomputable def v114 : R114 → V
  | .r0 r0 r1 => .tuple [iI r0, iI r1]
theorem s114 (l : List Span) : Sm 0 (g114 l) (T114 l) (n114)
  | .e => ⟨400, by kernel_rfl⟩
  | .l0 _ => ⟨400, by kernel_rfl⟩
theorem q114 : ∀ r, bodyQ Tryz.prog Tryz.f114 (· = v114 r) (n114 r).1 (n114 r).2
  | .r0 r0 r1 => bq (.tuple [iI r0, iI r1]) (by kernel_rfl)
theorem w114 (l : List Span) {post : V → Prop} (h : WQ (T114 l) v114 post .e) : PC 114 [tSpan.lst l, fF 115] post :=
  PCalls.wq Tryz.func114 (s114 l) q114 h
theorem c114 (l : List Span) (hl : l.length ≤ maxn) : PC 114 [tSpan.lst l, fF 115] (· = .tuple [iI (firstR (fun _ x => spanErr x) l).1, iI (firstR (fun _ x => spanErr x) l).2]) := by
  refine w114 _ (WP.step ?_)
  simp only [T114, Go, Ends', v114, Tr.sure, SS]
  repeat' with_reducible first | intro _ | apply And.intro
  refine WP.findE (fun i => .l0 i) rfl l zSpan (fun _ x => spanErr x) (fun i hi => ?_) fun hI => ?_
  · have hr := inRi hi hl
    refine WP.once ?_
    simp only [T114, Tr.sure, SS, hi, z4]
    repeat' with_reducible first | intro _ | apply And.intro
    all_goals first | exact c115 _ _ | (simp [hr, firstR, Go, Ends', v114, -List.getD_eq_getElem?_getD, *]; done) | (simp_all [hr, firstR, Go, Ends', v114, -List.getD_eq_getElem?_getD]; done)
  · refine WP.step ?_
    simp only [T114, Go, Ends', v114, Tr.sure, SS]
    repeat' with_reducible first | intro _ | apply And.intro
    all_goals simp [hI, firstR, Go, Ends', v114, -List.getD_eq_getElem?_getD, *]
theorem firstR_lasts (l : List Span) : (firstR (fun _ x => spanErr x) l).2 = lastsErr l := by
  simp only [firstR, lastsErr]; cases firstE (fun _ x => spanErr x) 0 l <;> rfl
inductive P111
  | e
inductive R111
  | r0 (r0 : Int)
noncomputable def T111 (i : Nat) (m : Mould) (s : Shop) : P111 → Tr P111 R111
  | .e => let c1 := newErr (s.moulds.getD i zMould).name ((s.moulds.map (·.name)).take i); let c2 := outside 1 4 ([m.casts] : List Int); (.call 112 [tMould.lst s.moulds, iI (i : Int), fF 113] (iI c1) true true (.br (c1 != (0 : Int)) (.out (.r0 c1)) (.call 109 [iI 1, iI 4, .list 1 1 (litC 1 1 [iI m.casts])] (.bool c2) ((decide (1 ≤ 1)) && true) true (.br c2 (.out (.r0 7)) (.br ((m.lasts.length : Int) != s.features) (.out (.r0 3)) (.call 114 [tSpan.lst m.lasts, fF 115] (.tuple [iI ((firstR (fun _ x => spanErr x) m.lasts).1), iI ((firstR (fun _ x => spanErr x) m.lasts).2)]) true true (.out (.r0 ((firstR (fun _ x => spanErr x) m.lasts).2)))))))))
noncomputable def g111 (i : Nat) (m : Mould) (s : Shop) : P111 → List Item × St
  | .e => bd Tryz.f111 [iI (i : Int), .agg [.str m.name, iI m.casts, tSpan.lst m.lasts], .cref 3 fun q => ([iI s.features, tMould.lst s.moulds, tHead.lst s.heads] : List V).getD q uU] 32
noncomputable def n111 : R111 → Exit × St
  | .r0 r0 => (.ret, ⟨mk 35 [(5, iI r0)], [], []⟩)
noncomputable def v111 : R111 → V
  | .r0 r0 => iI r0
theorem s111 (i : Nat) (m : Mould) (s : Shop) : Sm 0 (g111 i m s) (T111 i m s) (n111)
  | .e => ⟨400, by kernel_rfl⟩
theorem q111 : ∀ r, bodyQ Tryz.prog Tryz.f111 (· = v111 r) (n111 r).1 (n111 r).2
  | .r0 r0 => bq (iI r0) (by kernel_rfl)
theorem w111 (i : Nat) (m : Mould) (s : Shop) {post : V → Prop} (h : WQ (T111 i m s) v111 post .e) : PC 111 [iI (i : Int), .agg [.str m.name, iI m.casts, tSpan.lst m.lasts], .cref 3 fun q => ([iI s.features, tMould.lst s.moulds, tHead.lst s.heads] : List V).getD q uU] post :=
  PCalls.wq Tryz.func111 (s111 i m s) q111 h
theorem c111 (s : Shop) (i : Nat) (m : Mould) (hi : i < s.moulds.length) (hm : m = s.moulds.getD i zMould) (h2 : s.moulds.length ≤ 2) (h4 : m.lasts.length ≤ maxn) : PC 111 [iI i, .agg (tMould.cells m), .cref 3 fun q => (tShop.cells s).getD q uU] (· = iI (mouldAt s i m)) := by
  have hx := c112 s.moulds i hi (Nat.le_trans h2 (by decide))
  have ho := outside1 1 4 m.casts
  refine w111 _ _ _ (WP.step ?_)
  simp only [T111, Go, Ends', v111, Tr.sure, SS]
  repeat' with_reducible first | intro _ | apply And.intro
  all_goals first | exact hx | exact c114 _ h4 | exact (PCalls.arg (pre := [iI 1, iI 4]) (c109 1 4 [m.casts]) (VLe.lit tint _ rfl rfl (fun _ => rfl))) | (simp [mouldAt, mouldErr, firstR_lasts, Go, Ends', v111, -List.getD_eq_getElem?_getD, *]; done) | (simp_all [mouldAt, mouldErr, firstR_lasts, Go, Ends', v111, -List.getD_eq_getElem?_getD]; done)
theorem VLe.lit1 (n : Int) : VLe (.list 1 1 (litC 1 1 [iI n])) (tint.lst [n]) := VLe.lit tint [n] rfl rfl (fun _ => rfl)
inductive P117
  | e
inductive R117
  | r0 (r0 : Int)
noncomputable def T117 (i : Nat) (m : Head) (s : Shop) : P117 → Tr P117 R117
  | .e => let c1 := newErr (s.heads.getD i zHead).name ((s.heads.map (·.name)).take i); (.call 118 [tHead.lst s.heads, iI (i : Int), fF 119] (iI c1) true true (.br (c1 != (0 : Int)) (.out (.r0 c1)) (.br ((m.shows.length : Int) != s.features) (.out (.r0 3)) (.call 109 [iI 0, iI 2, tint.lst m.shows] (.bool (outside 0 2 m.shows)) true true (.br (outside 0 2 m.shows) (.out (.r0 7)) (.out (.r0 0)))))))
noncomputable def g117 (i : Nat) (m : Head) (s : Shop) : P117 → List Item × St
  | .e => bd Tryz.f117 [iI (i : Int), .agg [.str m.name, tint.lst m.shows], .cref 3 fun q => ([iI s.features, tMould.lst s.moulds, tHead.lst s.heads] : List V).getD q uU] 23
noncomputable def n117 : R117 → Exit × St
  | .r0 r0 => (.ret, ⟨mk 26 [(5, iI r0)], [], []⟩)
noncomputable def v117 : R117 → V
  | .r0 r0 => iI r0
theorem s117 (i : Nat) (m : Head) (s : Shop) : Sm 0 (g117 i m s) (T117 i m s) (n117)
  | .e => ⟨400, by kernel_rfl⟩
theorem q117 : ∀ r, bodyQ Tryz.prog Tryz.f117 (· = v117 r) (n117 r).1 (n117 r).2
  | .r0 r0 => bq (iI r0) (by kernel_rfl)
theorem w117 (i : Nat) (m : Head) (s : Shop) {post : V → Prop} (h : WQ (T117 i m s) v117 post .e) : PC 117 [iI (i : Int), .agg [.str m.name, tint.lst m.shows], .cref 3 fun q => ([iI s.features, tMould.lst s.moulds, tHead.lst s.heads] : List V).getD q uU] post :=
  PCalls.wq Tryz.func117 (s117 i m s) q117 h
theorem c117 (s : Shop) (i : Nat) (m : Head) (hi : i < s.heads.length) (hm : m = s.heads.getD i zHead) (h2 : s.heads.length ≤ 4) : PC 117 [iI i, .agg (tHead.cells m), .cref 3 fun q => (tShop.cells s).getD q uU] (· = iI (headAt s i m)) := by
  have hx := c118 s.heads i hi (Nat.le_trans h2 (by decide))
  have ho : outside 0 2 m.shows = m.shows.any (fun n => !within n 0 2) := rfl
  refine w117 _ _ _ (WP.step ?_)
  simp only [T117, Go, Ends', v117, Tr.sure, SS]
  repeat' with_reducible first | intro _ | apply And.intro
  all_goals first | exact hx | exact c109 _ _ _ | (simp [headAt, headErr, Go, Ends', v117, -List.getD_eq_getElem?_getD, *]; done) | (simp_all [headAt, headErr, Go, Ends', v117, -List.getD_eq_getElem?_getD]; done)
inductive P110
  | e
  | l0 (x0_11 : Int)
inductive R110
  | r0 (r0 : Int) (r1 : Int)
noncomputable def T110 (s : Shop) : P110 → Tr P110 R110
  | .e => (.go (.l0 0))
  | .l0 x0_11 => let c1 := s.moulds.getD (x0_11).toNat tMould.zero; let c2 := mouldAt s x0_11.toNat c1; let c3 := x0_11 < (s.moulds.length : Int); (.br (decide c3) (.need (decide (0 ≤ x0_11) && decide c3) (.call 111 [iI x0_11, .agg [.str (c1.name), iI (c1.casts), tSpan.lst (c1.lasts)], .cref 3 fun q => ([iI s.features, tMould.lst s.moulds, tHead.lst s.heads] : List V).getD q uU] (iI c2) true true (.br (c2 != (0 : Int)) (.out (.r0 x0_11 c2)) (.need (inR .i64 (x0_11 + (1 : Int))) (.go (.l0 (x0_11 + (1 : Int)))))))) (.out (.r0 0 0)))
noncomputable def g110 (s : Shop) : P110 → List Item × St
  | .e => bd Tryz.f110 [tMould.lst s.moulds, fG 111 [.cref 3 fun q => ([iI s.features, tMould.lst s.moulds, tHead.lst s.heads] : List V).getD q uU]] 23
  | .l0 x0_11 => (cutOf Tryz.f110 0, ⟨mk 25 [(1, fG 111 [.cref 3 fun q => ([iI s.features, tMould.lst s.moulds, tHead.lst s.heads] : List V).getD q uU]), (4, iI 0), (5, iI 0), (9, tMould.lst s.moulds), (10, iI (s.moulds.length : Int)), (11, iI x0_11)], [], []⟩)
noncomputable def n110 : R110 → Exit × St
  | .r0 r0 r1 => (.ret, ⟨mk 25 [(4, iI r0), (5, iI r1)], [], []⟩)
noncomputable def v110 : R110 → V
  | .r0 r0 r1 => .tuple [iI r0, iI r1]
theorem s110 (s : Shop) : Sm 0 (g110 s) (T110 s) (n110)
  | .e => ⟨400, by kernel_rfl⟩
  | .l0 _ => ⟨400, by kernel_rfl⟩
theorem q110 : ∀ r, bodyQ Tryz.prog Tryz.f110 (· = v110 r) (n110 r).1 (n110 r).2
  | .r0 r0 r1 => bq (.tuple [iI r0, iI r1]) (by kernel_rfl)
theorem w110 (s : Shop) {post : V → Prop} (h : WQ (T110 s) v110 post .e) : PC 110 [tMould.lst s.moulds, fG 111 [.cref 3 fun q => ([iI s.features, tMould.lst s.moulds, tHead.lst s.heads] : List V).getD q uU]] post :=
  PCalls.wq Tryz.func110 (s110 s) q110 h
theorem c110 (s : Shop) (hl : s.moulds.length ≤ maxn) (hg : ∀ i : Nat, i < s.moulds.length → PC 111 [iI i, .agg (tMould.cells (s.moulds.getD i zMould)), .cref 3 fun q => (tShop.cells s).getD q uU] (· = iI (mouldAt s i (s.moulds.getD i zMould)))) :
    PC 110 [tMould.lst s.moulds, fG 111 [.cref 3 fun q => (tShop.cells s).getD q uU]] (· = .tuple [iI (firstR (mouldAt s) s.moulds).1, iI (firstR (mouldAt s) s.moulds).2]) := by
  refine w110 _ (WP.step ?_)
  simp only [T110, Go, Ends', v110, Tr.sure, SS]
  repeat' with_reducible first | intro _ | apply And.intro
  refine WP.findE (fun i => .l0 i) rfl s.moulds zMould (mouldAt s) (fun i hi => ?_) fun hI => ?_
  · have hr := inRi hi hl
    refine WP.once ?_
    simp only [T110, Tr.sure, SS, hi, z2]
    repeat' with_reducible first | intro _ | apply And.intro
    all_goals first | exact hg i hi | (simp [hr, firstR, Go, Ends', v110, -List.getD_eq_getElem?_getD, *]; done) | (simp_all [hr, firstR, Go, Ends', v110, -List.getD_eq_getElem?_getD]; done)
  · refine WP.step ?_
    simp only [T110, Go, Ends', v110, Tr.sure, SS]
    repeat' with_reducible first | intro _ | apply And.intro
    all_goals simp [hI, firstR, Go, Ends', v110, -List.getD_eq_getElem?_getD, *]
inductive P116
  | e
  | l0 (x0_11 : Int)
inductive R116
  | r0 (r0 : Int) (r1 : Int)
noncomputable def T116 (s : Shop) : P116 → Tr P116 R116
  | .e => (.go (.l0 0))
  | .l0 x0_11 => let c1 := s.heads.getD (x0_11).toNat tHead.zero; let c2 := headAt s x0_11.toNat c1; let c3 := x0_11 < (s.heads.length : Int); (.br (decide c3) (.need (decide (0 ≤ x0_11) && decide c3) (.call 117 [iI x0_11, .agg [.str (c1.name), tint.lst (c1.shows)], .cref 3 fun q => ([iI s.features, tMould.lst s.moulds, tHead.lst s.heads] : List V).getD q uU] (iI c2) true true (.br (c2 != (0 : Int)) (.out (.r0 x0_11 c2)) (.need (inR .i64 (x0_11 + (1 : Int))) (.go (.l0 (x0_11 + (1 : Int)))))))) (.out (.r0 0 0)))
noncomputable def g116 (s : Shop) : P116 → List Item × St
  | .e => bd Tryz.f116 [tHead.lst s.heads, fG 117 [.cref 3 fun q => ([iI s.features, tMould.lst s.moulds, tHead.lst s.heads] : List V).getD q uU]] 23
  | .l0 x0_11 => (cutOf Tryz.f116 0, ⟨mk 25 [(1, fG 117 [.cref 3 fun q => ([iI s.features, tMould.lst s.moulds, tHead.lst s.heads] : List V).getD q uU]), (4, iI 0), (5, iI 0), (9, tHead.lst s.heads), (10, iI (s.heads.length : Int)), (11, iI x0_11)], [], []⟩)
noncomputable def n116 : R116 → Exit × St
  | .r0 r0 r1 => (.ret, ⟨mk 25 [(4, iI r0), (5, iI r1)], [], []⟩)
noncomputable def v116 : R116 → V
  | .r0 r0 r1 => .tuple [iI r0, iI r1]
theorem s116 (s : Shop) : Sm 0 (g116 s) (T116 s) (n116)
  | .e => ⟨400, by kernel_rfl⟩
  | .l0 _ => ⟨400, by kernel_rfl⟩
theorem q116 : ∀ r, bodyQ Tryz.prog Tryz.f116 (· = v116 r) (n116 r).1 (n116 r).2
  | .r0 r0 r1 => bq (.tuple [iI r0, iI r1]) (by kernel_rfl)
theorem w116 (s : Shop) {post : V → Prop} (h : WQ (T116 s) v116 post .e) : PC 116 [tHead.lst s.heads, fG 117 [.cref 3 fun q => ([iI s.features, tMould.lst s.moulds, tHead.lst s.heads] : List V).getD q uU]] post :=
  PCalls.wq Tryz.func116 (s116 s) q116 h
theorem c116 (s : Shop) (hl : s.heads.length ≤ maxn) (hg : ∀ i : Nat, i < s.heads.length → PC 117 [iI i, .agg (tHead.cells (s.heads.getD i zHead)), .cref 3 fun q => (tShop.cells s).getD q uU] (· = iI (headAt s i (s.heads.getD i zHead)))) :
    PC 116 [tHead.lst s.heads, fG 117 [.cref 3 fun q => (tShop.cells s).getD q uU]] (· = .tuple [iI (firstR (headAt s) s.heads).1, iI (firstR (headAt s) s.heads).2]) := by
  refine w116 _ (WP.step ?_)
  simp only [T116, Go, Ends', v116, Tr.sure, SS]
  repeat' with_reducible first | intro _ | apply And.intro
  refine WP.findE (fun i => .l0 i) rfl s.heads zHead (headAt s) (fun i hi => ?_) fun hI => ?_
  · have hr := inRi hi hl
    refine WP.once ?_
    simp only [T116, Tr.sure, SS, hi, z3]
    repeat' with_reducible first | intro _ | apply And.intro
    all_goals first | exact hg i hi | (simp [hr, firstR, Go, Ends', v116, -List.getD_eq_getElem?_getD, *]; done) | (simp_all [hr, firstR, Go, Ends', v116, -List.getD_eq_getElem?_getD]; done)
  · refine WP.step ?_
    simp only [T116, Go, Ends', v116, Tr.sure, SS]
    repeat' with_reducible first | intro _ | apply And.intro
    all_goals simp [hI, firstR, Go, Ends', v116, -List.getD_eq_getElem?_getD, *]
theorem firstR_cases {τ : Type} (of : Nat → τ → Int) (l : List τ) : (firstE of 0 l = none ∧ (firstR of l).2 = 0) ∨ ∃ i e, firstE of 0 l = some (i, e) ∧ e ≠ 0 ∧ firstR of l = ((i : Int), e) := by
  cases h : firstE of 0 l with
  | none => exact .inl ⟨rfl, by simp only [firstR, h]⟩
  | some p => exact .inr ⟨p.1, p.2, rfl, firstE_ne h, by simp only [firstR, h]⟩
theorem shopCheck_eq (s : Shop) : shopCheck s = if within s.features 1 4 = false then (1, 0, 7) else if (2 : Int) < s.moulds.length then (2, 0, 3) else if (firstR (mouldAt s) s.moulds).2 ≠ 0 then (2, (firstR (mouldAt s) s.moulds).1, (firstR (mouldAt s) s.moulds).2)
    else if (4 : Int) < s.heads.length then (3, 0, 3) else if (firstR (headAt s) s.heads).2 ≠ 0 then (3, (firstR (headAt s) s.heads).1, (firstR (headAt s) s.heads).2) else (0, 0, 0) := by
  rcases firstR_cases (mouldAt s) s.moulds with ⟨h1, h2⟩ | ⟨i, e, h1, h2, h3⟩ <;> rcases firstR_cases (headAt s) s.heads with ⟨h4, h5⟩ | ⟨j, e', h4, h5, h6⟩ <;> simp [shopCheck, *]
inductive P57
  | e
inductive R57
  | r0 (r0 : Int) (r1 : Int) (r2 : Int)
noncomputable def T57 (p0 : Shop) : P57 → Tr P57 R57
  | .e => let c1 := firstR (mouldAt p0) p0.moulds; let c2 := firstR (headAt p0) p0.heads; let c3 := ([iI p0.features, tMould.lst p0.moulds, tHead.lst p0.heads] : List V); let c4 := outside 1 4 ([p0.features] : List Int); (.call 109 [iI 1, iI 4, .list 1 1 (litC 1 1 [iI p0.features])] (.bool c4) ((decide (1 ≤ 1)) && true) true (.br c4 (.out (.r0 1 0 7)) (.br (decide ((p0.moulds.length : Int) > (2 : Int))) (.out (.r0 2 0 3)) (.call 110 [tMould.lst p0.moulds, fG 111 [.cref 3 fun q => c3.getD q uU]] (.tuple [iI (c1.1), iI (c1.2)]) true true (.br (c1.2 != (0 : Int)) (.out (.r0 2 (c1.1) (c1.2))) (.br (decide ((p0.heads.length : Int) > (4 : Int))) (.out (.r0 3 0 3)) (.call 116 [tHead.lst p0.heads, fG 117 [.cref 3 fun q => c3.getD q uU]] (.tuple [iI (c2.1), iI (c2.2)]) true true (.br (c2.2 != (0 : Int)) (.out (.r0 3 (c2.1) (c2.2))) (.out (.r0 0 0 0))))))))))
noncomputable def g57 (p0 : Shop) : P57 → List Item × St
  | .e => bd Tryz.f57 [.agg [iI p0.features, tMould.lst p0.moulds, tHead.lst p0.heads]] 42
noncomputable def n57 : R57 → Exit × St
  | .r0 r0 r1 r2 => (.ret, ⟨mk 43 [(2, iI r0), (3, iI r1), (4, iI r2)], [], []⟩)
noncomputable def v57 : R57 → V
  | .r0 r0 r1 r2 => .tuple [iI r0, iI r1, iI r2]
theorem s57 (p0 : Shop) : Sm 0 (g57 p0) (T57 p0) (n57)
  | .e => ⟨400, by kernel_rfl⟩
theorem q57 : ∀ r, bodyQ Tryz.prog Tryz.f57 (· = v57 r) (n57 r).1 (n57 r).2
  | .r0 r0 r1 r2 => bq (.tuple [iI r0, iI r1, iI r2]) (by kernel_rfl)
theorem w57 (p0 : Shop) {post : V → Prop} (h : WQ (T57 p0) v57 post .e) : PC 57 [.agg [iI p0.features, tMould.lst p0.moulds, tHead.lst p0.heads]] post :=
  PCalls.wq Tryz.func57 (s57 p0) q57 h
theorem e57 : ∀ xs w, (callFunc 57 xs).run Tryz.prog w = .ok (.enter 57 xs) w := PCalls.enters Tryz.func57 (c := Tryz.f57.body.getD .skip) (by kernel_rfl) (by kernel_rfl)
theorem c57 (s : Shop) : PC 57 [.agg (tShop.cells s)] (· = .tuple [iI (shopCheck s).1, iI (shopCheck s).2.1, iI (shopCheck s).2.2]) := by
  refine PCalls.assumeAll e57 0 (by simp) (fun G x h => lens_shop (rest := []) h) fun hL => ?_
  have ho := outside1 1 4 s.features
  have hc1 : ¬ (2 : Int) < s.moulds.length → PC 110 [tMould.lst s.moulds, fG 111 [.cref 3 fun q => (tShop.cells s).getD q uU]] (· = .tuple [iI (firstR (mouldAt s) s.moulds).1, iI (firstR (mouldAt s) s.moulds).2]) := fun h =>
    c110 s hL.m fun i hi => c111 s i _ hi rfl (by omega) (hL.l _ (by rw [List.getD_eq_getElem?_getD, List.getElem?_eq_getElem hi]; exact List.getElem_mem hi))
  have hc2 : ¬ (4 : Int) < s.heads.length → PC 116 [tHead.lst s.heads, fG 117 [.cref 3 fun q => (tShop.cells s).getD q uU]] (· = .tuple [iI (firstR (headAt s) s.heads).1, iI (firstR (headAt s) s.heads).2]) := fun h =>
    c116 s hL.h fun i hi => c117 s i _ hi rfl (by omega)
  have hc0 : PC 109 [iI 1, iI 4, .list 1 1 (litC 1 1 [iI s.features])] (· = .bool (!within s.features 1 4)) := by
    have := PCalls.arg (pre := [iI 1, iI 4]) (suf := []) (c109 1 4 [s.features]) (VLe.lit1 _)
    rwa [ho] at this
  refine w57 _ (WP.step ?_)
  simp only [T57, Go, Ends', v57, Tr.sure, SS, ho]
  repeat' with_reducible first | intro _ | apply And.intro
  all_goals first | exact hc0 | exact (hc1 (by assumption)) | exact (hc2 (by assumption)) | (simp [shopCheck_eq, Go, Ends', v57, -List.getD_eq_getElem?_getD, *]; done)
end
noncomputable section
abbrev hc : V := rR (fF 159)
abbrev fc (f : FuncId) : V := rR (.func (.func f) [] [])
abbrev pairK (f : FuncId) : List V := [fG 162 [hc], fF 163, fF 160, fG 164 [fc f]]
abbrev lastK (f : FuncId) : List V := [fF 166, fF 167, fF 168, fG 169 [fc f]]
abbrev castK : List V := [fG 170 [hc], fF 171, fF 172, fF 173]
def kindCells : List V := castK ++ pairK 174 ++ pairK 175 ++ pairK 176 ++ lastK 177 ++ lastK 178
abbrev kindArr : V := .arr 4 6 fun r j => kindCells.getD (r * 4 + j) uU
inductive P161
  | e
inductive R161
  | r0 (r0_3_c0_0 : Nat)
noncomputable def T161 (f : Nat) : P161 → Tr P161 R161
  | .e => (.out (.r0 f))
noncomputable def g161 (f : Nat) : P161 → List Item × St
  | .e => bd Tryz.f161 [.func (.func f) [] [], rR (fF 159), rR (fF 160)] 6
noncomputable def n161 : R161 → Exit × St
  | .r0 r0_3_c0_0 => (.ret, ⟨mk 9 [(4, .ref 1 0 0)], [.cells [.func (.func r0_3_c0_0) [] []], .cells [fG 162 [rR (fF 159)], fF 163, fF 160, fG 164 [.ref 0 0 0]]], []⟩)
noncomputable def v161 : R161 → V
  | .r0 r0_3_c0_0 => .agg [fG 162 [rR (fF 159)], fF 163, fF 160, fG 164 [rR (.func (.func r0_3_c0_0) [] [])]]
theorem s161 (f : Nat) : Sm 0 (g161 f) (T161 f) (n161)
  | .e => ⟨400, by kernel_rfl⟩
theorem q161 : ∀ r, bodyQ Tryz.prog Tryz.f161 (· = v161 r) (n161 r).1 (n161 r).2
  | .r0 r0_3_c0_0 => ⟨.inr rfl, by simp [n161], (.agg [fG 162 [rR (fF 159)], fF 163, fF 160, fG 164 [.ref 0 0 0]]), (.agg [fG 162 [rR (fF 159)], fF 163, fF 160, fG 164 [rR (.func (.func r0_3_c0_0) [] [])]]), by kernel_rfl, (.agg rfl (by intro j hj; match j, hj with | 0, _ => exact .imm rfl | 1, _ => exact .imm rfl | 2, _ => exact .imm rfl | 3, _ => exact .func rfl rfl (by intro j hj; exact absurd hj (by simp)) (by intro j hj; match j, hj with | 0, _ => exact .weak (.ref (n := 1) rfl (Nat.le_refl _) (by intro j hj; match j, hj with | 0, _ => exact .imm rfl)) (VLe.refl _)))), rfl⟩
theorem w161 (f : Nat) {post : V → Prop} (h : WQ (T161 f) v161 post .e) : PC 161 [.func (.func f) [] [], rR (fF 159), rR (fF 160)] post :=
  PCalls.wq Tryz.func161 (s161 f) q161 h
theorem c161 (f : Nat) : PC 161 [.func (.func f) [] [], hc, rR (fF 160)] (· = .agg (pairK f)) := by
  refine w161 _ (WP.step ?_)
  simp only [T161, Go, Ends', v161, Tr.sure, SS]
  repeat' with_reducible first | intro _ | apply And.intro
inductive P165
  | e
inductive R165
  | r0 (r0_3_c0_0 : Nat)
noncomputable def T165 (f : Nat) : P165 → Tr P165 R165
  | .e => (.out (.r0 f))
noncomputable def g165 (f : Nat) : P165 → List Item × St
  | .e => bd Tryz.f165 [.func (.func f) [] []] 4
noncomputable def n165 : R165 → Exit × St
  | .r0 r0_3_c0_0 => (.ret, ⟨mk 5 [(2, .ref 1 0 0)], [.cells [.func (.func r0_3_c0_0) [] []], .cells [fF 166, fF 167, fF 168, fG 169 [.ref 0 0 0]]], []⟩)
noncomputable def v165 : R165 → V
  | .r0 r0_3_c0_0 => .agg [fF 166, fF 167, fF 168, fG 169 [rR (.func (.func r0_3_c0_0) [] [])]]
theorem s165 (f : Nat) : Sm 0 (g165 f) (T165 f) (n165)
  | .e => ⟨400, by kernel_rfl⟩
theorem q165 : ∀ r, bodyQ Tryz.prog Tryz.f165 (· = v165 r) (n165 r).1 (n165 r).2
  | .r0 r0_3_c0_0 => ⟨.inr rfl, by simp [n165], (.agg [fF 166, fF 167, fF 168, fG 169 [.ref 0 0 0]]), (.agg [fF 166, fF 167, fF 168, fG 169 [rR (.func (.func r0_3_c0_0) [] [])]]), by kernel_rfl, (.agg rfl (by intro j hj; match j, hj with | 0, _ => exact .imm rfl | 1, _ => exact .imm rfl | 2, _ => exact .imm rfl | 3, _ => exact .func rfl rfl (by intro j hj; exact absurd hj (by simp)) (by intro j hj; match j, hj with | 0, _ => exact .weak (.ref (n := 1) rfl (Nat.le_refl _) (by intro j hj; match j, hj with | 0, _ => exact .imm rfl)) (VLe.refl _)))), rfl⟩
theorem w165 (f : Nat) {post : V → Prop} (h : WQ (T165 f) v165 post .e) : PC 165 [.func (.func f) [] []] post :=
  PCalls.wq Tryz.func165 (s165 f) q165 h
theorem c165 (f : Nat) : PC 165 [.func (.func f) [] []] (· = .agg (lastK f)) := by
  refine w165 _ (WP.step ?_)
  simp only [T165, Go, Ends', v165, Tr.sure, SS]
  repeat' with_reducible first | intro _ | apply And.intro
inductive P122
  | e
inductive R122
  | r0
noncomputable def T122 : P122 → Tr P122 R122
  | .e => (.wait 7 (.frz 1 (underL 0 [fF 159]) (.frz 2 (underL 0 [fF 160]) (.front [(2, 161, [fF 174, rR (fF 159), rR (fF 160)], .agg [fG 162 [rR (fF 159)], fF 163, fF 160, fG 164 [rR (fF 174)]]), (4, 161, [fF 175, rR (fF 159), rR (fF 160)], .agg [fG 162 [rR (fF 159)], fF 163, fF 160, fG 164 [rR (fF 175)]]), (6, 161, [fF 176, rR (fF 159), rR (fF 160)], .agg [fG 162 [rR (fF 159)], fF 163, fF 160, fG 164 [rR (fF 176)]]), (8, 165, [fF 177], .agg [fF 166, fF 167, fF 168, fG 169 [rR (fF 177)]]), (10, 165, [fF 178], .agg [fF 166, fF 167, fF 168, fG 169 [rR (fF 178)]])] [] true true (.out (.r0))))))
noncomputable def g122 : P122 → List Item × St
  | .e => bd Tryz.f122 [] 21
noncomputable def n122 : R122 → Exit × St
  | .r0 => (.ret, ⟨mk 21 [(0, .ref 0 0 0)], [.rows 100 4 6 (fun r j => ([fG 170 [rR (fF 159)], fF 171, fF 172, fF 173, fG 162 [rR (fF 159)], fF 163, fF 160, fG 164 [rR (fF 174)], fG 162 [rR (fF 159)], fF 163, fF 160, fG 164 [rR (fF 175)], fG 162 [rR (fF 159)], fF 163, fF 160, fG 164 [rR (fF 176)], fF 166, fF 167, fF 168, fG 169 [rR (fF 177)], fF 166, fF 167, fF 168, fG 169 [rR (fF 178)]] : List V).getD (r * 4 + j) uU)], []⟩)
noncomputable def v122 : R122 → V
  | .r0 => .arr 4 6 (fun r j => ([fG 170 [rR (fF 159)], fF 171, fF 172, fF 173, fG 162 [rR (fF 159)], fF 163, fF 160, fG 164 [rR (fF 174)], fG 162 [rR (fF 159)], fF 163, fF 160, fG 164 [rR (fF 175)], fG 162 [rR (fF 159)], fF 163, fF 160, fG 164 [rR (fF 176)], fF 166, fF 167, fF 168, fG 169 [rR (fF 177)], fF 166, fF 167, fF 168, fG 169 [rR (fF 178)]] : List V).getD (r * 4 + j) uU)
theorem s122 : Sm 0 (g122) (T122) (n122)
  | .e => ⟨400, by kernel_rfl⟩
theorem q122 : ∀ r, bodyQ Tryz.prog Tryz.f122 (· = v122 r) (n122 r).1 (n122 r).2
  | .r0 => bq (.arr 4 6 (fun r j => ([fG 170 [rR (fF 159)], fF 171, fF 172, fF 173, fG 162 [rR (fF 159)], fF 163, fF 160, fG 164 [rR (fF 174)], fG 162 [rR (fF 159)], fF 163, fF 160, fG 164 [rR (fF 175)], fG 162 [rR (fF 159)], fF 163, fF 160, fG 164 [rR (fF 176)], fF 166, fF 167, fF 168, fG 169 [rR (fF 177)], fF 166, fF 167, fF 168, fG 169 [rR (fF 178)]] : List V).getD (r * 4 + j) uU)) (by kernel_rfl)
theorem w122 {post : V → Prop} (h : WQ (T122) v122 post .e) : PC 122 [] post :=
  PCalls.wq Tryz.func122 (s122) q122 h
theorem c122 : PC 122 [] (· = kindArr) := by
  refine w122  (WP.step ?_)
  simp only [T122, Go, Ends', v122, Tr.sure, SS]
  repeat' with_reducible first | intro _ | apply And.intro
  all_goals first | exact c161 _ | exact c165 _ | exact rfl
inductive P174
  | e
inductive R174
  | r0 (r0 : Bool)
noncomputable def T174 (p0 : Cast) (p1 : Cast) : P174 → Tr P174 R174
  | .e => (.out (.r0 (p0.mould == p1.mould)))
noncomputable def g174 (p0 : Cast) (p1 : Cast) : P174 → List Item × St
  | .e => bd Tryz.f174 [.agg [iI p0.mould, iI p0.number], .agg [iI p1.mould, iI p1.number]] 8
noncomputable def n174 : R174 → Exit × St
  | .r0 r0 => (.ret, ⟨mk 10 [(4, .bool r0)], [], []⟩)
noncomputable def v174 : R174 → V
  | .r0 r0 => .bool r0
theorem s174 (p0 : Cast) (p1 : Cast) : Sm 0 (g174 p0 p1) (T174 p0 p1) (n174)
  | .e => ⟨400, by kernel_rfl⟩
theorem q174 : ∀ r, bodyQ Tryz.prog Tryz.f174 (· = v174 r) (n174 r).1 (n174 r).2
  | .r0 r0 => bq (.bool r0) (by kernel_rfl)
theorem w174 (p0 : Cast) (p1 : Cast) {post : V → Prop} (h : WQ (T174 p0 p1) v174 post .e) : PC 174 [.agg [iI p0.mould, iI p0.number], .agg [iI p1.mould, iI p1.number]] post :=
  PCalls.wq Tryz.func174 (s174 p0 p1) q174 h
theorem c174 (a b : Cast) : PC 174 [.agg (tCast.cells a), .agg (tCast.cells b)] (· = .bool (a.mould == b.mould)) := by
  refine w174 _ _ (WP.step ?_)
  simp only [T174, Go, Ends', v174, Tr.sure, SS]
  repeat' with_reducible first | intro _ | apply And.intro
inductive P175
  | e
inductive R175
  | r0 (r0 : Bool)
noncomputable def T175 (p0 : Cast) (p1 : Cast) : P175 → Tr P175 R175
  | .e => (.out (.r0 (p0.mould != p1.mould)))
noncomputable def g175 (p0 : Cast) (p1 : Cast) : P175 → List Item × St
  | .e => bd Tryz.f175 [.agg [iI p0.mould, iI p0.number], .agg [iI p1.mould, iI p1.number]] 8
noncomputable def n175 : R175 → Exit × St
  | .r0 r0 => (.ret, ⟨mk 10 [(4, .bool r0)], [], []⟩)
noncomputable def v175 : R175 → V
  | .r0 r0 => .bool r0
theorem s175 (p0 : Cast) (p1 : Cast) : Sm 0 (g175 p0 p1) (T175 p0 p1) (n175)
  | .e => ⟨400, by kernel_rfl⟩
theorem q175 : ∀ r, bodyQ Tryz.prog Tryz.f175 (· = v175 r) (n175 r).1 (n175 r).2
  | .r0 r0 => bq (.bool r0) (by kernel_rfl)
theorem w175 (p0 : Cast) (p1 : Cast) {post : V → Prop} (h : WQ (T175 p0 p1) v175 post .e) : PC 175 [.agg [iI p0.mould, iI p0.number], .agg [iI p1.mould, iI p1.number]] post :=
  PCalls.wq Tryz.func175 (s175 p0 p1) q175 h
theorem c175 (a b : Cast) : PC 175 [.agg (tCast.cells a), .agg (tCast.cells b)] (· = .bool (a.mould != b.mould)) := by
  refine w175 _ _ (WP.step ?_)
  simp only [T175, Go, Ends', v175, Tr.sure, SS]
  repeat' with_reducible first | intro _ | apply And.intro
inductive P176
  | e
inductive R176
  | r0 (r0 : Bool)
noncomputable def T176 (p0 : Cast) (p1 : Cast) : P176 → Tr P176 R176
  | .e => (.br (p0.mould == p1.mould) (.out (.r0 (decide (p0.number < p1.number)))) (.out (.r0 false)))
noncomputable def g176 (p0 : Cast) (p1 : Cast) : P176 → List Item × St
  | .e => bd Tryz.f176 [.agg [iI p0.mould, iI p0.number], .agg [iI p1.mould, iI p1.number]] 15
noncomputable def n176 : R176 → Exit × St
  | .r0 r0 => (.ret, ⟨mk 17 [(4, .bool r0)], [], []⟩)
noncomputable def v176 : R176 → V
  | .r0 r0 => .bool r0
theorem s176 (p0 : Cast) (p1 : Cast) : Sm 0 (g176 p0 p1) (T176 p0 p1) (n176)
  | .e => ⟨400, by kernel_rfl⟩
theorem q176 : ∀ r, bodyQ Tryz.prog Tryz.f176 (· = v176 r) (n176 r).1 (n176 r).2
  | .r0 r0 => bq (.bool r0) (by kernel_rfl)
theorem w176 (p0 : Cast) (p1 : Cast) {post : V → Prop} (h : WQ (T176 p0 p1) v176 post .e) : PC 176 [.agg [iI p0.mould, iI p0.number], .agg [iI p1.mould, iI p1.number]] post :=
  PCalls.wq Tryz.func176 (s176 p0 p1) q176 h
theorem c176 (a b : Cast) : PC 176 [.agg (tCast.cells a), .agg (tCast.cells b)] (· = .bool (a.mould == b.mould && decide (a.number < b.number))) := by
  refine w176 _ _ (WP.step ?_)
  simp only [T176, Go, Ends', v176, Tr.sure, SS]
  repeat' with_reducible first | intro _ | apply And.intro
  all_goals simp [Go, Ends', v176, -List.getD_eq_getElem?_getD, *]
inductive P177
  | e
inductive R177
  | r0 (r0 : Bool)
noncomputable def T177 (p0 : Int) (p1 : Int) : P177 → Tr P177 R177
  | .e => (.out (.r0 (decide (p0 ≥ p1))))
noncomputable def g177 (p0 : Int) (p1 : Int) : P177 → List Item × St
  | .e => bd Tryz.f177 [iI p0, iI p1] 6
noncomputable def n177 : R177 → Exit × St
  | .r0 r0 => (.ret, ⟨mk 8 [(4, .bool r0)], [], []⟩)
noncomputable def v177 : R177 → V
  | .r0 r0 => .bool r0
theorem s177 (p0 : Int) (p1 : Int) : Sm 0 (g177 p0 p1) (T177 p0 p1) (n177)
  | .e => ⟨400, by kernel_rfl⟩
theorem q177 : ∀ r, bodyQ Tryz.prog Tryz.f177 (· = v177 r) (n177 r).1 (n177 r).2
  | .r0 r0 => bq (.bool r0) (by kernel_rfl)
theorem w177 (p0 : Int) (p1 : Int) {post : V → Prop} (h : WQ (T177 p0 p1) v177 post .e) : PC 177 [iI p0, iI p1] post :=
  PCalls.wq Tryz.func177 (s177 p0 p1) q177 h
theorem c177 (a b : Int) : PC 177 [iI a, iI b] (· = .bool (decide (b ≤ a))) := by
  refine w177 _ _ (WP.step ?_)
  simp only [T177, Go, Ends', v177, Tr.sure, SS]
  repeat' with_reducible first | intro _ | apply And.intro
inductive P178
  | e
inductive R178
  | r0 (r0 : Bool)
noncomputable def T178 (p0 : Int) (p1 : Int) : P178 → Tr P178 R178
  | .e => (.out (.r0 (decide (p0 ≤ p1))))
noncomputable def g178 (p0 : Int) (p1 : Int) : P178 → List Item × St
  | .e => bd Tryz.f178 [iI p0, iI p1] 6
noncomputable def n178 : R178 → Exit × St
  | .r0 r0 => (.ret, ⟨mk 8 [(4, .bool r0)], [], []⟩)
noncomputable def v178 : R178 → V
  | .r0 r0 => .bool r0
theorem s178 (p0 : Int) (p1 : Int) : Sm 0 (g178 p0 p1) (T178 p0 p1) (n178)
  | .e => ⟨400, by kernel_rfl⟩
theorem q178 : ∀ r, bodyQ Tryz.prog Tryz.f178 (· = v178 r) (n178 r).1 (n178 r).2
  | .r0 r0 => bq (.bool r0) (by kernel_rfl)
theorem w178 (p0 : Int) (p1 : Int) {post : V → Prop} (h : WQ (T178 p0 p1) v178 post .e) : PC 178 [iI p0, iI p1] post :=
  PCalls.wq Tryz.func178 (s178 p0 p1) q178 h
theorem c178 (a b : Int) : PC 178 [iI a, iI b] (· = .bool (decide (a ≤ b))) := by
  refine w178 _ _ (WP.step ?_)
  simp only [T178, Go, Ends', v178, Tr.sure, SS]
  repeat' with_reducible first | intro _ | apply And.intro
inductive P159
  | e
inductive R159
  | r0 (r0 : Bool)
noncomputable def T159 (p0 : Shop) (p1 : List Int) : P159 → Tr P159 R159
  | .e => let c1 := (p0.heads.length : Int) - (1 : Int); (.need (inR .i64 c1) (.call 58 [iI 0, iI c1, tint.lst p1] (.bool (outside 0 c1 p1)) true true (.out (.r0 (!(outside 0 c1 p1))))))
noncomputable def g159 (p0 : Shop) (p1 : List Int) : P159 → List Item × St
  | .e => bd Tryz.f159 [.agg [iI p0.features, tMould.lst p0.moulds, tHead.lst p0.heads], tint.lst p1] 10
noncomputable def n159 : R159 → Exit × St
  | .r0 r0 => (.ret, ⟨mk 12 [(4, .bool r0)], [], []⟩)
noncomputable def v159 : R159 → V
  | .r0 r0 => .bool r0
theorem s159 (p0 : Shop) (p1 : List Int) : Sm 0 (g159 p0 p1) (T159 p0 p1) (n159)
  | .e => ⟨400, by kernel_rfl⟩
theorem q159 : ∀ r, bodyQ Tryz.prog Tryz.f159 (· = v159 r) (n159 r).1 (n159 r).2
  | .r0 r0 => bq (.bool r0) (by kernel_rfl)
theorem w159 (p0 : Shop) (p1 : List Int) {post : V → Prop} (h : WQ (T159 p0 p1) v159 post .e) : PC 159 [.agg [iI p0.features, tMould.lst p0.moulds, tHead.lst p0.heads], tint.lst p1] post :=
  PCalls.wq Tryz.func159 (s159 p0 p1) q159 h
theorem c159 (s : Shop) (l : List Int) (h : s.heads.length ≤ 4) : PC 159 [.agg (tShop.cells s), tint.lst l] (· = .bool (!outside 0 ((s.heads.length : Int) - 1) l)) := by
  have hr : inR .i64 ((s.heads.length : Int) - 1) = true := inR64 (by omega) (by omega)
  refine w159 _ _ (WP.step ?_)
  simp only [T159, Go, Ends', v159, Tr.sure, SS]
  repeat' with_reducible first | intro _ | apply And.intro
  all_goals first | exact c58 _ _ _ | (simp [hr, Go, Ends', v159, -List.getD_eq_getElem?_getD, *]; done)
inductive P160
  | e
inductive R160
  | r0 (r0 : Int)
noncomputable def T160 (p0 : Shop) (p1 : Claim) : P160 → Tr P160 R160
  | .e => (.out (.r0 0))
noncomputable def g160 (p0 : Shop) (p1 : Claim) : P160 → List Item × St
  | .e => bd Tryz.f160 [.agg [iI p0.features, tMould.lst p0.moulds, tHead.lst p0.heads], .agg [iI p1.own, iI p1.kind, iI p1.a, iI p1.b, iI p1.mould, iI p1.feature, iI p1.number, iI p1.worth]] 3
noncomputable def n160 : R160 → Exit × St
  | .r0 r0 => (.ret, ⟨mk 5 [(4, iI r0)], [], []⟩)
noncomputable def v160 : R160 → V
  | .r0 r0 => iI r0
theorem s160 (p0 : Shop) (p1 : Claim) : Sm 0 (g160 p0 p1) (T160 p0 p1) (n160)
  | .e => ⟨400, by kernel_rfl⟩
theorem q160 : ∀ r, bodyQ Tryz.prog Tryz.f160 (· = v160 r) (n160 r).1 (n160 r).2
  | .r0 r0 => bq (iI r0) (by kernel_rfl)
theorem w160 (p0 : Shop) (p1 : Claim) {post : V → Prop} (h : WQ (T160 p0 p1) v160 post .e) : PC 160 [.agg [iI p0.features, tMould.lst p0.moulds, tHead.lst p0.heads], .agg [iI p1.own, iI p1.kind, iI p1.a, iI p1.b, iI p1.mould, iI p1.feature, iI p1.number, iI p1.worth]] post :=
  PCalls.wq Tryz.func160 (s160 p0 p1) q160 h
theorem c160 (s : Shop) (x : Claim) : PC 160 [.agg (tShop.cells s), .agg (tClaim.cells x)] (· = iI 0) := by
  refine w160 _ _ (WP.step ?_)
  simp only [T160, Go, Ends', v160, Tr.sure, SS]
  repeat' with_reducible first | intro _ | apply And.intro
theorem VLe.lit2 (n m : Int) : VLe (.list 1 2 (litC 1 2 [iI n, iI m])) (tint.lst [n, m]) := VLe.lit tint [n, m] rfl rfl (fun _ => rfl)
theorem c58_1 (lo hi a : Int) : PC 58 [iI lo, iI hi, .list 1 1 (litC 1 1 [iI a])] (· = .bool (outside lo hi [a])) := PCalls.arg (pre := [iI lo, iI hi]) (c58 lo hi [a]) (VLe.lit1 a)
theorem c159_1 (s : Shop) (a : Int) (h : s.heads.length ≤ 4) : PC 159 [.agg (tShop.cells s), .list 1 1 (litC 1 1 [iI a])] (· = .bool (!outside 0 ((s.heads.length : Int) - 1) [a])) := PCalls.arg (pre := [.agg (tShop.cells s)]) (c159 s [a] h) (VLe.lit1 a)
theorem c159_2 (s : Shop) (a b : Int) (h : s.heads.length ≤ 4) : PC 159 [.agg (tShop.cells s), .list 1 2 (litC 1 2 [iI a, iI b])] (· = .bool (!outside 0 ((s.heads.length : Int) - 1) [a, b])) := PCalls.arg (pre := [.agg (tShop.cells s)]) (c159 s [a, b] h) (VLe.lit2 a b)
inductive P162
  | e
inductive R162
  | r0 (r0 : Bool)
noncomputable def T162 (s : Shop) (x : Claim) : P162 → Tr P162 R162
  | .e => (.call 159 [.agg [iI s.features, tMould.lst s.moulds, tHead.lst s.heads], .list 1 2 (litC 1 2 [iI x.a, iI x.b])] (.bool ((fun (s : Shop) l => !outside 0 ((s.heads.length : Int) - 1) l) s ([x.a, x.b] : List Int))) ((decide (2 ≤ 2)) && true) true (.out (.r0 ((fun (s : Shop) l => !outside 0 ((s.heads.length : Int) - 1) l) s ([x.a, x.b] : List Int)))))
noncomputable def g162 (s : Shop) (x : Claim) : P162 → List Item × St
  | .e => bd Tryz.f162 [.agg [iI s.features, tMould.lst s.moulds, tHead.lst s.heads], .agg [iI x.own, iI x.kind, iI x.a, iI x.b, iI x.mould, iI x.feature, iI x.number, iI x.worth], rR (fF 159)] 11
noncomputable def n162 : R162 → Exit × St
  | .r0 r0 => (.ret, ⟨mk 14 [(5, .bool r0)], [], []⟩)
noncomputable def v162 : R162 → V
  | .r0 r0 => .bool r0
theorem s162 (s : Shop) (x : Claim) : Sm 0 (g162 s x) (T162 s x) (n162)
  | .e => ⟨400, by kernel_rfl⟩
theorem q162 : ∀ r, bodyQ Tryz.prog Tryz.f162 (· = v162 r) (n162 r).1 (n162 r).2
  | .r0 r0 => bq (.bool r0) (by kernel_rfl)
theorem w162 (s : Shop) (x : Claim) {post : V → Prop} (h : WQ (T162 s x) v162 post .e) : PC 162 [.agg [iI s.features, tMould.lst s.moulds, tHead.lst s.heads], .agg [iI x.own, iI x.kind, iI x.a, iI x.b, iI x.mould, iI x.feature, iI x.number, iI x.worth], rR (fF 159)] post :=
  PCalls.wq Tryz.func162 (s162 s x) q162 h
theorem c162 (s : Shop) (x : Claim) (h : s.heads.length ≤ 4) : PC 162 [.agg (tShop.cells s), .agg (tClaim.cells x), hc] (· = .bool (named1 s x)) := by
  refine w162 _ _ (WP.step ?_)
  simp only [T162, Go, Ends', v162, Tr.sure, SS]
  repeat' with_reducible first | intro _ | apply And.intro
  all_goals first | exact c159_2 _ _ _ h | (simp [outside, named1, index, Go, Ends', v162, -List.getD_eq_getElem?_getD, *]; done)
inductive P163
  | e
inductive R163
  | r0 (r0 : Bool)
noncomputable def T163 (p0 : Claim) : P163 → Tr P163 R163
  | .e => let c1 : Tr P163 R163 := .out (.r0 false); (.br (p0.a != p0.b) (.br (p0.mould == (0 : Int)) (.br (p0.feature == (0 : Int)) (.out (.r0 (p0.number == (0 : Int)))) c1) (.lit false c1)) (.lit false (.lit false c1)))
noncomputable def g163 (p0 : Claim) : P163 → List Item × St
  | .e => bd Tryz.f163 [.agg [iI p0.own, iI p0.kind, iI p0.a, iI p0.b, iI p0.mould, iI p0.feature, iI p0.number, iI p0.worth]] 22
noncomputable def n163 : R163 → Exit × St
  | .r0 r0 => (.ret, ⟨mk 23 [(2, .bool r0)], [], []⟩)
noncomputable def v163 : R163 → V
  | .r0 r0 => .bool r0
theorem s163 (p0 : Claim) : Sm 0 (g163 p0) (T163 p0) (n163)
  | .e => ⟨400, by kernel_rfl⟩
theorem q163 : ∀ r, bodyQ Tryz.prog Tryz.f163 (· = v163 r) (n163 r).1 (n163 r).2
  | .r0 r0 => bq (.bool r0) (by kernel_rfl)
theorem w163 (p0 : Claim) {post : V → Prop} (h : WQ (T163 p0) v163 post .e) : PC 163 [.agg [iI p0.own, iI p0.kind, iI p0.a, iI p0.b, iI p0.mould, iI p0.feature, iI p0.number, iI p0.worth]] post :=
  PCalls.wq Tryz.func163 (s163 p0) q163 h
theorem c163 (x : Claim) : PC 163 [.agg (tClaim.cells x)] (· = .bool (fine1 x)) := by
  refine w163 _ (WP.step ?_)
  simp only [T163, Go, Ends', v163, Tr.sure, SS]
  repeat' with_reducible first | intro _ | apply And.intro
  all_goals simp [fine1, Go, Ends', v163, -List.getD_eq_getElem?_getD, *]
inductive P166
  | e
inductive R166
  | r0 (r0 : Bool)
noncomputable def T166 (p0 : Shop) (p1 : Claim) : P166 → Tr P166 R166
  | .e => let c1 := (p0.moulds.length : Int) - (1 : Int); let c2 := p0.features - (1 : Int); let c3 := outside 0 c2 ([p1.feature] : List Int); let c4 := outside 0 c1 ([p1.mould] : List Int); let c5 := (decide (1 ≤ 1)) && true; (.need (inR .i64 c1) (.call 58 [iI 0, iI c1, .list 1 1 (litC 1 1 [iI p1.mould])] (.bool c4) c5 true (.br (!c4) (.need (inR .i64 c2) (.call 58 [iI 0, iI c2, .list 1 1 (litC 1 1 [iI p1.feature])] (.bool c3) c5 true (.out (.r0 (!c3))))) (.out (.r0 false)))))
noncomputable def g166 (p0 : Shop) (p1 : Claim) : P166 → List Item × St
  | .e => bd Tryz.f166 [.agg [iI p0.features, tMould.lst p0.moulds, tHead.lst p0.heads], .agg [iI p1.own, iI p1.kind, iI p1.a, iI p1.b, iI p1.mould, iI p1.feature, iI p1.number, iI p1.worth]] 22
noncomputable def n166 : R166 → Exit × St
  | .r0 r0 => (.ret, ⟨mk 24 [(4, .bool r0)], [], []⟩)
noncomputable def v166 : R166 → V
  | .r0 r0 => .bool r0
theorem s166 (p0 : Shop) (p1 : Claim) : Sm 0 (g166 p0 p1) (T166 p0 p1) (n166)
  | .e => ⟨400, by kernel_rfl⟩
theorem q166 : ∀ r, bodyQ Tryz.prog Tryz.f166 (· = v166 r) (n166 r).1 (n166 r).2
  | .r0 r0 => bq (.bool r0) (by kernel_rfl)
theorem w166 (p0 : Shop) (p1 : Claim) {post : V → Prop} (h : WQ (T166 p0 p1) v166 post .e) : PC 166 [.agg [iI p0.features, tMould.lst p0.moulds, tHead.lst p0.heads], .agg [iI p1.own, iI p1.kind, iI p1.a, iI p1.b, iI p1.mould, iI p1.feature, iI p1.number, iI p1.worth]] post :=
  PCalls.wq Tryz.func166 (s166 p0 p1) q166 h
theorem c166 (s : Shop) (x : Claim) (h : s.moulds.length ≤ 2) (hf : 1 ≤ s.features ∧ s.features ≤ 4) : PC 166 [.agg (tShop.cells s), .agg (tClaim.cells x)] (· = .bool (named4 s x)) := by
  have hr : inR .i64 ((s.moulds.length : Int) - 1) = true := inR64 (by omega) (by omega)
  have hr' : inR .i64 (s.features - 1) = true := inR64 (by omega) (by omega)
  refine w166 _ _ (WP.step ?_)
  simp only [T166, Go, Ends', v166, Tr.sure, SS]
  repeat' with_reducible first | intro _ | apply And.intro
  all_goals first | exact c58_1 _ _ _ | (simp [hr, hr', named4, index, outside, Go, Ends', v166, -List.getD_eq_getElem?_getD, *]; done) | (simp_all [hr, hr', named4, index, outside, Go, Ends', v166, -List.getD_eq_getElem?_getD]; done)
inductive P167
  | e
inductive R167
  | r0 (r0 : Bool)
noncomputable def T167 (p0 : Claim) : P167 → Tr P167 R167
  | .e => (.br (p0.a == (0 : Int)) (.out (.r0 (p0.b == (0 : Int)))) (.out (.r0 false)))
noncomputable def g167 (p0 : Claim) : P167 → List Item × St
  | .e => bd Tryz.f167 [.agg [iI p0.own, iI p0.kind, iI p0.a, iI p0.b, iI p0.mould, iI p0.feature, iI p0.number, iI p0.worth]] 10
noncomputable def n167 : R167 → Exit × St
  | .r0 r0 => (.ret, ⟨mk 11 [(2, .bool r0)], [], []⟩)
noncomputable def v167 : R167 → V
  | .r0 r0 => .bool r0
theorem s167 (p0 : Claim) : Sm 0 (g167 p0) (T167 p0) (n167)
  | .e => ⟨400, by kernel_rfl⟩
theorem q167 : ∀ r, bodyQ Tryz.prog Tryz.f167 (· = v167 r) (n167 r).1 (n167 r).2
  | .r0 r0 => bq (.bool r0) (by kernel_rfl)
theorem w167 (p0 : Claim) {post : V → Prop} (h : WQ (T167 p0) v167 post .e) : PC 167 [.agg [iI p0.own, iI p0.kind, iI p0.a, iI p0.b, iI p0.mould, iI p0.feature, iI p0.number, iI p0.worth]] post :=
  PCalls.wq Tryz.func167 (s167 p0) q167 h
theorem c167 (x : Claim) : PC 167 [.agg (tClaim.cells x)] (· = .bool (fine4 x)) := by
  refine w167 _ (WP.step ?_)
  simp only [T167, Go, Ends', v167, Tr.sure, SS]
  repeat' with_reducible first | intro _ | apply And.intro
  all_goals simp [fine4, Go, Ends', v167, -List.getD_eq_getElem?_getD, *]
inductive P168
  | e
inductive R168
  | r0 (r0 : Int)
noncomputable def T168 (p0 : Shop) (p1 : Claim) : P168 → Tr P168 R168
  | .e => (.out (.r0 6))
noncomputable def g168 (p0 : Shop) (p1 : Claim) : P168 → List Item × St
  | .e => bd Tryz.f168 [.agg [iI p0.features, tMould.lst p0.moulds, tHead.lst p0.heads], .agg [iI p1.own, iI p1.kind, iI p1.a, iI p1.b, iI p1.mould, iI p1.feature, iI p1.number, iI p1.worth]] 3
noncomputable def n168 : R168 → Exit × St
  | .r0 r0 => (.ret, ⟨mk 5 [(4, iI r0)], [], []⟩)
noncomputable def v168 : R168 → V
  | .r0 r0 => iI r0
theorem s168 (p0 : Shop) (p1 : Claim) : Sm 0 (g168 p0 p1) (T168 p0 p1) (n168)
  | .e => ⟨400, by kernel_rfl⟩
theorem q168 : ∀ r, bodyQ Tryz.prog Tryz.f168 (· = v168 r) (n168 r).1 (n168 r).2
  | .r0 r0 => bq (iI r0) (by kernel_rfl)
theorem w168 (p0 : Shop) (p1 : Claim) {post : V → Prop} (h : WQ (T168 p0 p1) v168 post .e) : PC 168 [.agg [iI p0.features, tMould.lst p0.moulds, tHead.lst p0.heads], .agg [iI p1.own, iI p1.kind, iI p1.a, iI p1.b, iI p1.mould, iI p1.feature, iI p1.number, iI p1.worth]] post :=
  PCalls.wq Tryz.func168 (s168 p0 p1) q168 h
theorem c168 (s : Shop) (x : Claim) : PC 168 [.agg (tShop.cells s), .agg (tClaim.cells x)] (· = iI 6) := by
  refine w168 _ _ (WP.step ?_)
  simp only [T168, Go, Ends', v168, Tr.sure, SS]
  repeat' with_reducible first | intro _ | apply And.intro
inductive P170
  | e
inductive R170
  | r0 (r0 : Bool)
noncomputable def T170 (s : Shop) (x : Claim) : P170 → Tr P170 R170
  | .e => let c1 := (decide (1 ≤ 1)) && true; (.call 159 [.agg [iI s.features, tMould.lst s.moulds, tHead.lst s.heads], .list 1 1 (litC 1 1 [iI x.a])] (.bool ((fun (s : Shop) l => !outside 0 ((s.heads.length : Int) - 1) l) s ([x.a] : List Int))) c1 true (.br ((fun (s : Shop) l => !outside 0 ((s.heads.length : Int) - 1) l) s ([x.a] : List Int)) (.need (inR .i64 ((s.moulds.length : Int) - (1 : Int))) (.call 58 [iI 0, iI ((s.moulds.length : Int) - (1 : Int)), .list 1 1 (litC 1 1 [iI x.mould])] (.bool (outside 0 ((s.moulds.length : Int) - (1 : Int)) ([x.mould] : List Int))) c1 true (.out (.r0 (!(outside 0 ((s.moulds.length : Int) - (1 : Int)) ([x.mould] : List Int))))))) (.out (.r0 false))))
noncomputable def g170 (s : Shop) (x : Claim) : P170 → List Item × St
  | .e => bd Tryz.f170 [.agg [iI s.features, tMould.lst s.moulds, tHead.lst s.heads], .agg [iI x.own, iI x.kind, iI x.a, iI x.b, iI x.mould, iI x.feature, iI x.number, iI x.worth], rR (fF 159)] 20
noncomputable def n170 : R170 → Exit × St
  | .r0 r0 => (.ret, ⟨mk 23 [(5, .bool r0)], [], []⟩)
noncomputable def v170 : R170 → V
  | .r0 r0 => .bool r0
theorem s170 (s : Shop) (x : Claim) : Sm 0 (g170 s x) (T170 s x) (n170)
  | .e => ⟨400, by kernel_rfl⟩
theorem q170 : ∀ r, bodyQ Tryz.prog Tryz.f170 (· = v170 r) (n170 r).1 (n170 r).2
  | .r0 r0 => bq (.bool r0) (by kernel_rfl)
theorem w170 (s : Shop) (x : Claim) {post : V → Prop} (h : WQ (T170 s x) v170 post .e) : PC 170 [.agg [iI s.features, tMould.lst s.moulds, tHead.lst s.heads], .agg [iI x.own, iI x.kind, iI x.a, iI x.b, iI x.mould, iI x.feature, iI x.number, iI x.worth], rR (fF 159)] post :=
  PCalls.wq Tryz.func170 (s170 s x) q170 h
theorem c170 (s : Shop) (x : Claim) (h : s.heads.length ≤ 4) (h2 : s.moulds.length ≤ 2) : PC 170 [.agg (tShop.cells s), .agg (tClaim.cells x), hc] (· = .bool (named0 s x)) := by
  have hr : inR .i64 ((s.moulds.length : Int) - 1) = true := inR64 (by omega) (by omega)
  refine w170 _ _ (WP.step ?_)
  simp only [T170, Go, Ends', v170, Tr.sure, SS]
  repeat' with_reducible first | intro _ | apply And.intro
  all_goals first | exact c159_1 _ _ h | exact c58_1 _ _ _ | (simp [hr, outside, named0, index, Go, Ends', v170, -List.getD_eq_getElem?_getD, *]; done) | (simp_all [hr, outside, named0, index, Go, Ends', v170, -List.getD_eq_getElem?_getD]; done)
inductive P171
  | e
inductive R171
  | r0 (r0 : Bool)
noncomputable def T171 (p0 : Claim) : P171 → Tr P171 R171
  | .e => (.br (p0.b == (0 : Int)) (.out (.r0 (p0.feature == (0 : Int)))) (.out (.r0 false)))
noncomputable def g171 (p0 : Claim) : P171 → List Item × St
  | .e => bd Tryz.f171 [.agg [iI p0.own, iI p0.kind, iI p0.a, iI p0.b, iI p0.mould, iI p0.feature, iI p0.number, iI p0.worth]] 10
noncomputable def n171 : R171 → Exit × St
  | .r0 r0 => (.ret, ⟨mk 11 [(2, .bool r0)], [], []⟩)
noncomputable def v171 : R171 → V
  | .r0 r0 => .bool r0
theorem s171 (p0 : Claim) : Sm 0 (g171 p0) (T171 p0) (n171)
  | .e => ⟨400, by kernel_rfl⟩
theorem q171 : ∀ r, bodyQ Tryz.prog Tryz.f171 (· = v171 r) (n171 r).1 (n171 r).2
  | .r0 r0 => bq (.bool r0) (by kernel_rfl)
theorem w171 (p0 : Claim) {post : V → Prop} (h : WQ (T171 p0) v171 post .e) : PC 171 [.agg [iI p0.own, iI p0.kind, iI p0.a, iI p0.b, iI p0.mould, iI p0.feature, iI p0.number, iI p0.worth]] post :=
  PCalls.wq Tryz.func171 (s171 p0) q171 h
theorem c171 (x : Claim) : PC 171 [.agg (tClaim.cells x)] (· = .bool (fine0 x)) := by
  refine w171 _ (WP.step ?_)
  simp only [T171, Go, Ends', v171, Tr.sure, SS]
  repeat' with_reducible first | intro _ | apply And.intro
  all_goals simp [fine0, Go, Ends', v171, -List.getD_eq_getElem?_getD, *]
inductive P172
  | e
inductive R172
  | r0 (r0 : Int)
noncomputable def T172 (p0 : Shop) (p1 : Claim) : P172 → Tr P172 R172
  | .e => (.need (decide (0 ≤ p1.mould) && decide (p1.mould < (p0.moulds.length : Int))) (.out (.r0 ((p0.moulds.getD (p1.mould).toNat tMould.zero).casts))))
noncomputable def g172 (p0 : Shop) (p1 : Claim) : P172 → List Item × St
  | .e => bd Tryz.f172 [.agg [iI p0.features, tMould.lst p0.moulds, tHead.lst p0.heads], .agg [iI p1.own, iI p1.kind, iI p1.a, iI p1.b, iI p1.mould, iI p1.feature, iI p1.number, iI p1.worth]] 10
noncomputable def n172 : R172 → Exit × St
  | .r0 r0 => (.ret, ⟨mk 12 [(4, iI r0)], [], []⟩)
noncomputable def v172 : R172 → V
  | .r0 r0 => iI r0
theorem s172 (p0 : Shop) (p1 : Claim) : Sm 0 (g172 p0 p1) (T172 p0 p1) (n172)
  | .e => ⟨400, by kernel_rfl⟩
theorem q172 : ∀ r, bodyQ Tryz.prog Tryz.f172 (· = v172 r) (n172 r).1 (n172 r).2
  | .r0 r0 => bq (iI r0) (by kernel_rfl)
theorem w172 (p0 : Shop) (p1 : Claim) {post : V → Prop} (h : WQ (T172 p0 p1) v172 post .e) : PC 172 [.agg [iI p0.features, tMould.lst p0.moulds, tHead.lst p0.heads], .agg [iI p1.own, iI p1.kind, iI p1.a, iI p1.b, iI p1.mould, iI p1.feature, iI p1.number, iI p1.worth]] post :=
  PCalls.wq Tryz.func172 (s172 p0 p1) q172 h
theorem c172 (s : Shop) (x : Claim) (h : named0 s x = true) : PC 172 [.agg (tShop.cells s), .agg (tClaim.cells x)] (· = iI (most0 s x)) := by
  simp only [named0, Bool.and_eq_true, index_iff] at h
  refine w172 _ _ (WP.step ?_)
  simp only [T172, Go, Ends', v172, Tr.sure, SS]
  repeat' with_reducible first | intro _ | apply And.intro
  all_goals simp [most0, Go, Ends', v172, -List.getD_eq_getElem?_getD, *]
end
end Go.Proofs.YtdamoemndifpmaaGreat
