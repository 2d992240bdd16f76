/-
  Part of the proof of ClaimLooked. Conditions: those that stand in each theorem.
-/
import Derived.Test.YtdamoemndifpmaaGreatKE01
set_option linter.unusedSimpArgs false
set_option linter.unusedVariables false
set_option maxRecDepth 100000
namespace Go.Proofs.YtdamoemndifpmaaGreat
open Ab Go
noncomputable section
theorem firstE_get {τ : Type} {of : Nat → τ → Int} (d : τ) : ∀ {l : List τ} {i : Nat}, firstE of i l = none → ∀ j, j < l.length → of (i + j) (l.getD j d) = 0
  | [], _, _, _, hj => by simp at hj
  | x :: xs, i, h, j, hj => by
    simp only [firstE] at h
    split at h
    · rename_i h0
      cases j with
      | zero => simpa using h0
      | succ j =>
        have := firstE_get d h j (by simpa using hj)
        rw [show i + 1 + j = i + (j + 1) by omega] at this
        simpa using this
    · cases h
theorem firstE_all {τ : Type} {of : Nat → τ → Int} (d : τ) : ∀ {l : List τ} {i : Nat}, (∀ j, j < l.length → of (i + j) (l.getD j d) = 0) → firstE of i l = none
  | [], _, _ => rfl
  | x :: xs, i, h => by
    simp only [firstE]
    have h0 := h 0 (by simp)
    rw [if_pos (by simpa using h0)]
    exact firstE_all d fun j hj => by
      have := h (j + 1) (by simpa using hj)
      rw [show i + 1 + j = i + (j + 1) by omega]
      simpa using this
theorem shop_parts {s : Shop} (h : (shopCheck s).2.2 = 0) : within s.features 1 4 = true ∧ ¬ (2 : Int) < s.moulds.length ∧ firstE (mouldAt s) 0 s.moulds = none ∧ ¬ (4 : Int) < s.heads.length ∧ firstE (headAt s) 0 s.heads = none := by
  unfold shopCheck at h
  split at h
  · cases h
  rename_i h1
  split at h
  · cases h
  rename_i h2
  split at h
  · rename_i he; exact absurd h (firstE_ne he)
  rename_i h3
  split at h
  · cases h
  rename_i h4
  split at h
  · rename_i he; exact absurd h (firstE_ne he)
  rename_i h5
  exact ⟨by simpa using h1, h2, h3, h4, h5⟩
theorem case_parts {c : Case} (h : (caseCheck c).2.2 = 0) : (shopCheck c.shop).2.2 = 0 ∧ (c.owners.length : Int) = c.shop.heads.length ∧ firstE (fun _ n => if within n 0 1 then 0 else 7) 0 c.owners = none ∧ ¬ (5 : Int) < c.claims.length ∧ firstE (fun _ x => claimErr c.shop x) 0 c.claims = none := by
  unfold caseCheck at h
  split at h
  · rename_i h1; exact absurd h h1
  rename_i h1
  split at h
  · cases h
  rename_i h2
  split at h
  · rename_i he; exact absurd h (firstE_ne he)
  rename_i h3
  split at h
  · cases h
  rename_i h4
  split at h
  · rename_i he; exact absurd h (firstE_ne he)
  rename_i h5
  exact ⟨by simpa using h1, by simpa using h2, h3, h4, h5⟩
theorem read_check {c : Case} {hd ft n : Int} (h : (caseCheck c).2.2 = 0) (h1 : 0 ≤ hd ∧ hd < c.shop.heads.length) (hn : 0 ≤ n ∧ n ≤ 2) : (caseCheck (readC c hd ft n)).2.2 = 0 := by
  obtain ⟨a1, a2, a3, a4, a5⟩ := case_parts h
  obtain ⟨b1, b2, b3, b4, b5⟩ := shop_parts a1
  have hlen : (readC c hd ft n).shop.heads.length = c.shop.heads.length := by simp [readC]
  have hnames : (readC c hd ft n).shop.heads.map (·.name) = c.shop.heads.map (·.name) := by
    simp only [readC, List.map_set]
    apply List.ext_getElem?
    intro j
    by_cases e : hd.toNat = j
    · subst e
      have hl : hd.toNat < c.shop.heads.length := by omega
      rw [List.getElem?_set_self (by simpa using hl)]
      simp [List.getElem?_map, List.getD_eq_getElem?_getD, hl]
    · rw [List.getElem?_set_ne e]
  have e5 : firstE (headAt (readC c hd ft n).shop) 0 (readC c hd ft n).shop.heads = none := by
    refine firstE_all zHead fun j hj => ?_
    rw [hlen] at hj
    have h0 := firstE_get zHead b5 j hj
    rw [Nat.zero_add] at h0 ⊢
    unfold headAt at h0 ⊢
    rw [hnames]
    by_cases e : hd.toNat = j
    · subst e
      have e6 : (readC c hd ft n).shop.heads.getD hd.toNat zHead = ⟨(c.shop.heads.getD hd.toNat zHead).name, (c.shop.heads.getD hd.toNat zHead).shows.set ft.toNat n⟩ := by
        simp only [readC]
        rw [List.getD_eq_getElem?_getD, List.getElem?_set_self hj]; rfl
      rw [e6]
      simp only
      split at h0
      · rename_i hne; exact absurd h0 hne
      rename_i hz
      rw [if_neg hz]
      unfold headErr at h0 ⊢
      simp only [List.length_set]
      split at h0
      · cases h0
      rename_i hl
      rw [if_neg (show ¬ (((c.shop.heads.getD hd.toNat zHead).shows.length : Int) ≠ (readC c hd ft n).shop.features) from hl)]
      split at h0
      · cases h0
      rename_i hb
      rw [if_neg]
      intro hb2
      apply hb
      obtain ⟨y, hy1, hy2⟩ := List.any_eq_true.1 hb2
      rcases List.mem_or_eq_of_mem_set hy1 with q | q
      · exact List.any_eq_true.2 ⟨y, q, hy2⟩
      · subst q; simp [within] at hy2; omega
    · have e6 : (readC c hd ft n).shop.heads.getD j zHead = c.shop.heads.getD j zHead := by
        simp only [readC]
        rw [List.getD_eq_getElem?_getD, List.getElem?_set_ne e, ← List.getD_eq_getElem?_getD]
      rw [e6]; exact h0
  have e1 : (shopCheck (readC c hd ft n).shop).2.2 = 0 := by
    unfold shopCheck
    have f1 : within (readC c hd ft n).shop.features 1 4 = true := b1
    have f2 : ¬ (2 : Int) < (readC c hd ft n).shop.moulds.length := b2
    have f3 : firstE (mouldAt (readC c hd ft n).shop) 0 (readC c hd ft n).shop.moulds = none := b3
    have f4 : ¬ (4 : Int) < (readC c hd ft n).shop.heads.length := by rw [hlen]; exact b4
    rw [f1, f3, e5, if_neg f2, if_neg f4]; rfl
  have e2 : ∀ x, claimErr (readC c hd ft n).shop x = claimErr c.shop x := fun x => by simp only [claimErr, named, hlen]; rfl
  have g2 : ((readC c hd ft n).owners.length : Int) = (readC c hd ft n).shop.heads.length := by rw [hlen]; exact a2
  have g3 : firstE (fun _ n => if within n 0 1 then 0 else 7) 0 (readC c hd ft n).owners = none := a3
  have g4 : ¬ (5 : Int) < (readC c hd ft n).claims.length := a4
  have g5 : firstE (fun _ x => claimErr (readC c hd ft n).shop x) 0 (readC c hd ft n).claims = none := by simp only [e2]; exact a5
  unfold caseCheck
  rw [if_neg (fun q => q e1), if_neg (fun q => q g2), g3]
  simp only
  rw [if_neg g4, g5]
theorem read_truths {c : Case} {hd ft n : Int} (h : someR c = true) (h1 : 0 ≤ hd ∧ hd < c.shop.heads.length) (hn : 0 ≤ n ∧ n ≤ 2) :
    (truthsE (readC c hd ft n) 0 = (caseSets (readC c hd ft n), 0) ∧ 0 < (caseSets (readC c hd ft n)).length) ∨ (truthsE (readC c hd ft n) 0 = ([], 8) ∧ (caseSets (readC c hd ft n)).length = 0) := by
  have hv : (caseCheck c).2.2 = 0 := by
    have := some_iff.1 h
    unfold truthsE at this
    split at this
    · rename_i q; exact absurd this q
    · rename_i q; simpa using q
  have hr := read_check (ft := ft) hv h1 hn
  unfold truthsE
  rw [if_neg (fun q => q hr)]
  simp only [ne_eq, not_true_eq_false, if_false]
  by_cases hz : (caseSets (readC c hd ft n)).length = 0
  · exact .inr ⟨by rw [if_pos hz], hz⟩
  · exact .inl ⟨by rw [if_neg hz], by omega⟩
theorem some_err {x : Case} (h : someR x = false) (o : Int) : (truthsE x o).2 ≠ 0 := fun h0 => by
  obtain ⟨-, rfl, -⟩ := truths_ok h0
  rw [some_iff.2 h0] at h; cases h
theorem index_zero {n : Int} {many : Nat} (h : 0 ≤ n ∧ n < many) : indexErr n many = 0 := by
  unfold indexErr
  rw [if_pos]
  simp [within]; omega
theorem holds_eq {x : Case} (h : someR x = true) {i : Int} (hi : 0 ≤ i ∧ i < x.claims.length) : holdsR x i = (settled (caseSets x) i, 0) := by
  unfold holdsR
  rw [index_zero hi, (some_ok h).1]
  simp
theorem look_cases {x : Case} (h : someR x = true) {i : Int} (hi : 0 ≤ i ∧ i < x.claims.length) :
    (lookR x i = (⟨0, 0⟩, 2) ∧ settled (caseSets x) i ≠ 0) ∨ (lookR x i = (⟨0, 0⟩, 9) ∧ settled (caseSets x) i = 0) ∨
    ∃ e : Entry, lookR x i = (e, 0) ∧ settled (caseSets x) i = 0 ∧ (0 ≤ e.head ∧ e.head < x.shop.heads.length) ∧ (0 ≤ e.feature ∧ e.feature < x.shop.features) ∧ (x.shop.heads.getD e.head.toNat zHead).shows.getD e.feature.toNat 0 = 0 ∧ looked x i e = true := by
  unfold lookR
  rw [holds_eq h hi]
  simp only [ne_eq, not_true_eq_false, if_false]
  by_cases hs : settled (caseSets x) i = 0
  · right
    rw [if_neg (by simp [hs])]
    cases hf : ((List.range x.shop.heads.length).flatMap (entriesOf x.shop.features)).find? (lookP x i) with
    | none => exact .inl ⟨rfl, hs⟩
    | some e =>
      right
      have hm := List.mem_of_find?_eq_some hf
      have hp := List.find?_some hf
      simp only [List.mem_flatMap, List.mem_range, entriesOf, List.mem_map] at hm
      obtain ⟨hd, hd1, ft, hft, rfl⟩ := hm
      simp only [lookP, unreadP, Bool.and_eq_true, beq_iff_eq] at hp
      refine ⟨_, rfl, hs, by simp only; omega, by simp only; omega, hp.1, hp.2⟩
  · left
    rw [if_pos hs]; exact ⟨rfl, hs⟩
theorem looked_holds {x : Case} (h : someR x = true) {i : Int} (hi : 0 ≤ i ∧ i < x.claims.length) {e : Entry} (h1 : 0 ≤ e.head ∧ e.head < x.shop.heads.length) {n : Int} (hn : n = 1 ∨ n = 2) (hl : looked x i e = true) :
    (holdsR (readC x e.head e.feature n) i).2 ≠ 8 → (holdsR (readC x e.head e.feature n) i).2 = 0 ∧ (holdsR (readC x e.head e.feature n) i).1 ≠ 0 := by
  have hp : lookedP x i e n = false := by
    simp only [looked, Bool.and_eq_true, Bool.not_eq_true'] at hl
    rcases hn with rfl | rfl
    · exact hl.1
    · exact hl.2
  have hk : (readC x e.head e.feature n).claims = x.claims := rfl
  unfold holdsR
  rw [hk, index_zero hi]
  rcases read_truths (ft := e.feature) (n := n) h h1 (by omega) with ⟨q1, q2⟩ | ⟨q1, q2⟩
  · rw [q1]
    simp only [ne_eq, not_true_eq_false, if_false, true_and]
    intro _ h0
    unfold lookedP at hp
    rw [h0] at hp
    simp at hp
    simp [hp] at q2
  · rw [q1]; simp
inductive P14
  | e
inductive R14
  | r0 (r0 : Bool)
noncomputable def T14 (x : Case) (w : Int) (b : Bool) : P14 → Tr P14 R14
  | .e => let c2 := w.tmod (x.claims.length : Int); let c1 := lookR x c2; let c3 : Tr P14 R14 := .call 23 [] (.bool true) true true (.out (.r0 true)); let c4 : Tr P14 R14 := .out (.r0 false); let c5 := decide (c1.1.head ≥ (x.owners.length : Int)); let c6 : Tr P14 R14 := .call 39 [.agg (cC x), iI 0] (.tuple [.agg [iI ((lookR x 0).1.head), iI ((lookR x 0).1.feature)], iI ((lookR x 0).2)]) true true (.br ((lookR x 0).2 != (0 : Int)) c3 c4); let c7 := decide (c1.1.head < (0 : Int)); let c8 := decide (c1.1.feature < (0 : Int)); let c9 := decide (c1.1.feature ≥ x.shop.features); let c10 : Tr P14 R14 := .br ((c1.1.head == (0 : Int)) && ((c1.1.feature == (0 : Int)) && true)) c3 c4; let c11 : List V := [iI (c1.1.head), iI (c1.1.feature)]; let c12 := x.shop.heads.getD (c1.1.head).toNat tHead.zero; let c13 : Tr P14 R14 := .lit true c4; let c14 := holdsR x c2; let c15 := c7 == false; let c16 : Tr P14 R14 := .lit false (.lit false c4); let c17 : Tr P14 R14 := .lit true (.lit true c3); (.call 46 [.agg (cC x)] (.bool (someR x)) true true (.br (!(someR x)) (.lit true c6) (.br ((x.claims.length : Int) == (0 : Int)) c6 (.need (inR .i64 w) (.need (decide ((x.claims.length : Int) ≠ 0)) (.call 39 [.agg (cC x), iI c2] (.tuple [.agg c11, iI (c1.2)]) true true (.call 21 [.agg (cC x), iI c2] (.tuple [iI (c14.1), iI (c14.2)]) true true (.br (c14.2 != (0 : Int)) c13 (.br (!((c1.2 == (2 : Int)) == (c14.1 != (0 : Int)))) c4 (.br (c1.2 != (0 : Int)) (.br (c1.2 == (2 : Int)) (.lit true c10) (.br (c1.2 == (9 : Int)) c10 (.lit false c4))) (.br c7 (.front [] [(3, true)] (((c7 == true) && true) && true) true c13) (.br c5 (.front [] [(3, false), (11, true)] ((c15 && ((c5 == true) && true)) && true) true c13) (.br c8 (.front [] [(3, false), (11, false), (16, true)] ((c15 && ((c5 == false) && ((c8 == true) && true))) && true) true c13) (.br c9 (.front [] [(3, false), (11, false), (16, false), (24, true)] ((c15 && ((c5 == false) && ((c8 == false) && ((c9 == true) && true)))) && true) true c13) (.front [] [(3, false), (11, false), (16, false), (24, false)] ((c15 && ((c5 == false) && ((c8 == false) && ((c9 == false) && ((decide (0 ≤ c1.1.head) && decide (c1.1.head < (x.shop.heads.length : Int))) && ((decide (0 ≤ c1.1.feature) && decide (c1.1.feature < ((c12.shows.length) : Int))) && true)))))) && true) true (.br (((c12.shows).getD (c1.1.feature).toNat tint.zero) != (0 : Int)) c4 (.br b (.call 53 [.agg (cC x), .agg c11, iI 1] (.agg [iI (((fun c (a : Entry) n => readC c a.head a.feature n) x (c1.1) 1).shop.features), tMould.lst (((fun c (a : Entry) n => readC c a.head a.feature n) x (c1.1) 1).shop.moulds), tHead.lst (((fun c (a : Entry) n => readC c a.head a.feature n) x (c1.1) 1).shop.heads), tint.lst (((fun c (a : Entry) n => readC c a.head a.feature n) x (c1.1) 1).owners), tClaim.lst (((fun c (a : Entry) n => readC c a.head a.feature n) x (c1.1) 1).claims)]) true true (.call 21 [.agg [iI (((fun c (a : Entry) n => readC c a.head a.feature n) x (c1.1) 1).shop.features), tMould.lst (((fun c (a : Entry) n => readC c a.head a.feature n) x (c1.1) 1).shop.moulds), tHead.lst (((fun c (a : Entry) n => readC c a.head a.feature n) x (c1.1) 1).shop.heads), tint.lst (((fun c (a : Entry) n => readC c a.head a.feature n) x (c1.1) 1).owners), tClaim.lst (((fun c (a : Entry) n => readC c a.head a.feature n) x (c1.1) 1).claims)], iI c2] (.tuple [iI ((holdsR ((fun c (a : Entry) n => readC c a.head a.feature n) x (c1.1) 1) c2).1), iI ((holdsR ((fun c (a : Entry) n => readC c a.head a.feature n) x (c1.1) 1) c2).2)]) true true (.br ((holdsR ((fun c (a : Entry) n => readC c a.head a.feature n) x (c1.1) 1) c2).2 == (8 : Int)) c17 (.br ((holdsR ((fun c (a : Entry) n => readC c a.head a.feature n) x (c1.1) 1) c2).2 == (0 : Int)) (.lit false (.br ((holdsR ((fun c (a : Entry) n => readC c a.head a.feature n) x (c1.1) 1) c2).1 != (0 : Int)) c3 c4)) c16)))) (.call 53 [.agg (cC x), .agg c11, iI 2] (.agg [iI (((fun c (a : Entry) n => readC c a.head a.feature n) x (c1.1) 2).shop.features), tMould.lst (((fun c (a : Entry) n => readC c a.head a.feature n) x (c1.1) 2).shop.moulds), tHead.lst (((fun c (a : Entry) n => readC c a.head a.feature n) x (c1.1) 2).shop.heads), tint.lst (((fun c (a : Entry) n => readC c a.head a.feature n) x (c1.1) 2).owners), tClaim.lst (((fun c (a : Entry) n => readC c a.head a.feature n) x (c1.1) 2).claims)]) true true (.call 21 [.agg [iI (((fun c (a : Entry) n => readC c a.head a.feature n) x (c1.1) 2).shop.features), tMould.lst (((fun c (a : Entry) n => readC c a.head a.feature n) x (c1.1) 2).shop.moulds), tHead.lst (((fun c (a : Entry) n => readC c a.head a.feature n) x (c1.1) 2).shop.heads), tint.lst (((fun c (a : Entry) n => readC c a.head a.feature n) x (c1.1) 2).owners), tClaim.lst (((fun c (a : Entry) n => readC c a.head a.feature n) x (c1.1) 2).claims)], iI c2] (.tuple [iI ((holdsR ((fun c (a : Entry) n => readC c a.head a.feature n) x (c1.1) 2) c2).1), iI ((holdsR ((fun c (a : Entry) n => readC c a.head a.feature n) x (c1.1) 2) c2).2)]) true true (.br ((holdsR ((fun c (a : Entry) n => readC c a.head a.feature n) x (c1.1) 2) c2).2 == (8 : Int)) c17 (.br ((holdsR ((fun c (a : Entry) n => readC c a.head a.feature n) x (c1.1) 2) c2).2 == (0 : Int)) (.lit false (.br ((holdsR ((fun c (a : Entry) n => readC c a.head a.feature n) x (c1.1) 2) c2).1 != (0 : Int)) c3 c4)) c16)))))))))))))))))))))
noncomputable def g14 (x : Case) (w : Int) (b : Bool) : P14 → List Item × St
  | .e => bd Tryz.f14 [.agg (cC x), .int .u8 w, .bool b] 138
noncomputable def n14 : R14 → Exit × St
  | .r0 r0 => (.ret, ⟨mk 141 [(6, .bool r0)], [], []⟩)
noncomputable def v14 : R14 → V
  | .r0 r0 => .bool r0
theorem s14 (x : Case) (w : Int) (b : Bool) : Sm 0 (g14 x w b) (T14 x w b) (n14)
  | .e => ⟨400, by kernel_rfl⟩
theorem q14 : ∀ r, bodyQ Tryz.prog Tryz.f14 (· = v14 r) (n14 r).1 (n14 r).2
  | .r0 r0 => bq (.bool r0) (by kernel_rfl)
theorem w14 (x : Case) (w : Int) (b : Bool) {post : V → Prop} (h : WQ (T14 x w b) v14 post .e) : PC 14 [.agg (cC x), .int .u8 w, .bool b] post :=
  PCalls.wq Tryz.func14 (s14 x w b) q14 h
set_option maxHeartbeats 4000000 in
theorem c14 (x : Case) (w : Int) (b : Bool) (hw : 0 ≤ w ∧ w ≤ 255) : PC 14 [.agg (tCase.cells x), .int .u8 w, .bool b] (· = .bool true) := by
  have hiw : inR .i64 w = true := inR64 (by omega) (by omega)
  cases hs : someR x with
  | false =>
    have f1 : (lookR x 0).2 ≠ 0 := by
      have := some_err hs (indexErr 0 x.claims.length)
      unfold lookR holdsR
      rw [if_pos this]
      simp only [ne_eq]
      rw [if_pos this]; exact this
    refine w14 x w b (WP.step ?_)
    simp only [T14, Go, Ends', v14, Tr.sure, SS]
    repeat' with_reducible first | intro _ | apply And.intro
    all_goals first | exact (c46 x) | exact (c39 x 0) | exact c23 | (simp [hs, f1, Go, Ends', v14, -List.getD_eq_getElem?_getD, *]; done) | (simp_all [hs, f1, Go, Ends', v14, -List.getD_eq_getElem?_getD]; done)
  | true =>
    by_cases hz : x.claims.length = 0
    · have f1 : (lookR x 0).2 ≠ 0 := by
        have he : indexErr 0 x.claims.length = 4 := by rw [hz]; rfl
        have : (truthsE x (indexErr 0 x.claims.length)).2 ≠ 0 := fun h0 => by
          have := (truths_ok h0).2.1; rw [he] at this; cases this
        unfold lookR holdsR
        rw [if_pos this]
        simp only [ne_eq]
        rw [if_pos this]; exact this
      refine w14 x w b (WP.step ?_)
      simp only [T14, Go, Ends', v14, Tr.sure, SS]
      repeat' with_reducible first | intro _ | apply And.intro
      all_goals first | exact (c46 x) | exact (c39 x 0) | exact c23 | (simp [hs, f1, hz, Go, Ends', v14, -List.getD_eq_getElem?_getD, *]; done) | (simp_all [hs, f1, hz, Go, Ends', v14, -List.getD_eq_getElem?_getD]; done)
    · obtain ⟨i, hi⟩ : ∃ i, w.tmod (x.claims.length : Int) = i := ⟨_, rfl⟩
      have hir : 0 ≤ i ∧ i < x.claims.length := by
        rw [← hi, Int.tmod_eq_emod_of_nonneg hw.1]
        exact ⟨Int.emod_nonneg _ (by omega), Int.emod_lt_of_pos _ (by omega)⟩
      have hh := holds_eq hs hir
      have hz2 : (x.claims.length : Int) ≠ 0 := by omega
      rcases look_cases hs hir with ⟨hl, h0⟩ | ⟨hl, h0⟩ | ⟨e, hl, h0, e1, e2, e3, e4⟩
      · have k39 := c39 x i
        have k21 := c21 x i
        rw [hl] at k39
        rw [hh] at k21
        refine w14 x w b (WP.step ?_)
        simp only [T14, Go, Ends', v14, Tr.sure, SS, hi, hl, hh]
        repeat' with_reducible first | intro _ | apply And.intro
        all_goals first | exact (c46 x) | exact k39 | exact k21 | exact c23 | (simp [hs, hiw, h0, hz, Go, Ends', v14, -List.getD_eq_getElem?_getD, *]; done) | (simp_all [hs, hiw, h0, hz, Go, Ends', v14, -List.getD_eq_getElem?_getD]; done)
      · have k39 := c39 x i
        have k21 := c21 x i
        rw [hl] at k39
        rw [hh] at k21
        refine w14 x w b (WP.step ?_)
        simp only [T14, Go, Ends', v14, Tr.sure, SS, hi, hl, hh]
        repeat' with_reducible first | intro _ | apply And.intro
        all_goals first | exact (c46 x) | exact k39 | exact k21 | exact c23 | (simp [hs, hiw, h0, hz, Go, Ends', v14, -List.getD_eq_getElem?_getD, *]; done) | (simp_all [hs, hiw, h0, hz, Go, Ends', v14, -List.getD_eq_getElem?_getD]; done)
      · have hok := (some_ok hs).2.1
        have hsh := (hok.shop.head _ (getD_mem zHead x.shop.heads e.head.toNat (by omega))).1
        have hnh := hok.shop.nh
        have hft := hok.shop.feat
        have k1 := looked_holds hs hir e1 (.inl rfl) e4
        have k2 := looked_holds hs hir e1 (.inr rfl) e4
        have r1 := c53 x e 1 e1 (by omega) (by omega) (by omega)
        have r2 := c53 x e 2 e1 (by omega) (by omega) (by omega)
        have hown : (x.owners.length : Int) = x.shop.heads.length := by have := hok.many; omega
        have k39 := c39 x i
        have k21 := c21 x i
        rw [hl] at k39
        rw [hh] at k21
        refine w14 x w b (WP.step ?_)
        simp only [T14, Go, Ends', v14, Tr.sure, SS, hi, hl, hh]
        repeat' with_reducible first | intro _ | apply And.intro
        all_goals first | exact (c46 x) | exact k39 | exact k21 | exact r1 | exact r2 | exact (c21 _ _) | exact c23 | (simp [hs, hiw, h0, hz, e1, e2, e3, hown, hsh, Go, Ends', v14, -List.getD_eq_getElem?_getD, *]; done) | (simp_all [hs, hiw, h0, hz, e1, e2, e3, hown, hsh, Go, Ends', v14, -List.getD_eq_getElem?_getD]; done) | skip
        all_goals (exfalso; omega)
end
end Go.Proofs.YtdamoemndifpmaaGreat
