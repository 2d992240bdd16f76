/-
  Part of the proof of ClaimMore. Conditions: those that stand in each theorem.
-/
import Derived.Test.YtdamoemndifpmaaGreatKD01
set_option linter.unusedSimpArgs false
set_option linter.unusedVariables false
set_option maxRecDepth 100000
namespace Go.Proofs.YtdamoemndifpmaaGreat
open Ab Go
noncomputable section
theorem firstE_get {τ : Type} {of : Nat → τ → Int} (d : τ) : ∀ {l : List τ} {i : Nat}, firstE of i l = none → ∀ j, j < l.length → of (i + j) (l.getD j d) = 0
  | [], _, _, _, hj => by simp at hj
  | x :: xs, i, h, j, hj => by
    simp only [firstE] at h
    split at h
    · rename_i h0
      cases j with
      | zero => simpa using h0
      | succ j =>
        have := firstE_get d h j (by simpa using hj)
        rw [show i + 1 + j = i + (j + 1) by omega] at this
        simpa using this
    · cases h
theorem firstE_all {τ : Type} {of : Nat → τ → Int} (d : τ) : ∀ {l : List τ} {i : Nat}, (∀ j, j < l.length → of (i + j) (l.getD j d) = 0) → firstE of i l = none
  | [], _, _ => rfl
  | x :: xs, i, h => by
    simp only [firstE]
    have h0 := h 0 (by simp)
    rw [if_pos (by simpa using h0)]
    exact firstE_all d fun j hj => by
      have := h (j + 1) (by simpa using hj)
      rw [show i + 1 + j = i + (j + 1) by omega]
      simpa using this
theorem shop_parts {s : Shop} (h : (shopCheck s).2.2 = 0) : within s.features 1 4 = true ∧ ¬ (2 : Int) < s.moulds.length ∧ firstE (mouldAt s) 0 s.moulds = none ∧ ¬ (4 : Int) < s.heads.length ∧ firstE (headAt s) 0 s.heads = none := by
  unfold shopCheck at h
  split at h
  · cases h
  rename_i h1
  split at h
  · cases h
  rename_i h2
  split at h
  · rename_i he; exact absurd h (firstE_ne he)
  rename_i h3
  split at h
  · cases h
  rename_i h4
  split at h
  · rename_i he; exact absurd h (firstE_ne he)
  rename_i h5
  exact ⟨by simpa using h1, h2, h3, h4, h5⟩
theorem case_parts {c : Case} (h : (caseCheck c).2.2 = 0) : (shopCheck c.shop).2.2 = 0 ∧ (c.owners.length : Int) = c.shop.heads.length ∧ firstE (fun _ n => if within n 0 1 then 0 else 7) 0 c.owners = none ∧ ¬ (5 : Int) < c.claims.length ∧ firstE (fun _ x => claimErr c.shop x) 0 c.claims = none := by
  unfold caseCheck at h
  split at h
  · rename_i h1; exact absurd h h1
  rename_i h1
  split at h
  · cases h
  rename_i h2
  split at h
  · rename_i he; exact absurd h (firstE_ne he)
  rename_i h3
  split at h
  · cases h
  rename_i h4
  split at h
  · rename_i he; exact absurd h (firstE_ne he)
  rename_i h5
  exact ⟨by simpa using h1, by simpa using h2, h3, h4, h5⟩
theorem read_check {c : Case} {hd ft n : Int} (h : (caseCheck c).2.2 = 0) (h1 : 0 ≤ hd ∧ hd < c.shop.heads.length) (hn : 0 ≤ n ∧ n ≤ 2) : (caseCheck (readC c hd ft n)).2.2 = 0 := by
  obtain ⟨a1, a2, a3, a4, a5⟩ := case_parts h
  obtain ⟨b1, b2, b3, b4, b5⟩ := shop_parts a1
  have hlen : (readC c hd ft n).shop.heads.length = c.shop.heads.length := by simp [readC]
  have hnames : (readC c hd ft n).shop.heads.map (·.name) = c.shop.heads.map (·.name) := by
    simp only [readC, List.map_set]
    apply List.ext_getElem?
    intro j
    by_cases e : hd.toNat = j
    · subst e
      have hl : hd.toNat < c.shop.heads.length := by omega
      rw [List.getElem?_set_self (by simpa using hl)]
      simp [List.getElem?_map, List.getD_eq_getElem?_getD, hl]
    · rw [List.getElem?_set_ne e]
  have e5 : firstE (headAt (readC c hd ft n).shop) 0 (readC c hd ft n).shop.heads = none := by
    refine firstE_all zHead fun j hj => ?_
    rw [hlen] at hj
    have h0 := firstE_get zHead b5 j hj
    rw [Nat.zero_add] at h0 ⊢
    unfold headAt at h0 ⊢
    rw [hnames]
    by_cases e : hd.toNat = j
    · subst e
      have e6 : (readC c hd ft n).shop.heads.getD hd.toNat zHead = ⟨(c.shop.heads.getD hd.toNat zHead).name, (c.shop.heads.getD hd.toNat zHead).shows.set ft.toNat n⟩ := by
        simp only [readC]
        rw [List.getD_eq_getElem?_getD, List.getElem?_set_self hj]; rfl
      rw [e6]
      simp only
      split at h0
      · rename_i hne; exact absurd h0 hne
      rename_i hz
      rw [if_neg hz]
      unfold headErr at h0 ⊢
      simp only [List.length_set]
      split at h0
      · cases h0
      rename_i hl
      rw [if_neg (show ¬ (((c.shop.heads.getD hd.toNat zHead).shows.length : Int) ≠ (readC c hd ft n).shop.features) from hl)]
      split at h0
      · cases h0
      rename_i hb
      rw [if_neg]
      intro hb2
      apply hb
      obtain ⟨y, hy1, hy2⟩ := List.any_eq_true.1 hb2
      rcases List.mem_or_eq_of_mem_set hy1 with q | q
      · exact List.any_eq_true.2 ⟨y, q, hy2⟩
      · subst q; simp [within] at hy2; omega
    · have e6 : (readC c hd ft n).shop.heads.getD j zHead = c.shop.heads.getD j zHead := by
        simp only [readC]
        rw [List.getD_eq_getElem?_getD, List.getElem?_set_ne e, ← List.getD_eq_getElem?_getD]
      rw [e6]; exact h0
  have e1 : (shopCheck (readC c hd ft n).shop).2.2 = 0 := by
    unfold shopCheck
    have f1 : within (readC c hd ft n).shop.features 1 4 = true := b1
    have f2 : ¬ (2 : Int) < (readC c hd ft n).shop.moulds.length := b2
    have f3 : firstE (mouldAt (readC c hd ft n).shop) 0 (readC c hd ft n).shop.moulds = none := b3
    have f4 : ¬ (4 : Int) < (readC c hd ft n).shop.heads.length := by rw [hlen]; exact b4
    rw [f1, f3, e5, if_neg f2, if_neg f4]; rfl
  have e2 : ∀ x, claimErr (readC c hd ft n).shop x = claimErr c.shop x := fun x => by simp only [claimErr, named, hlen]; rfl
  have g2 : ((readC c hd ft n).owners.length : Int) = (readC c hd ft n).shop.heads.length := by rw [hlen]; exact a2
  have g3 : firstE (fun _ n => if within n 0 1 then 0 else 7) 0 (readC c hd ft n).owners = none := a3
  have g4 : ¬ (5 : Int) < (readC c hd ft n).claims.length := a4
  have g5 : firstE (fun _ x => claimErr (readC c hd ft n).shop x) 0 (readC c hd ft n).claims = none := by simp only [e2]; exact a5
  unfold caseCheck
  rw [if_neg (fun q => q e1), if_neg (fun q => q g2), g3]
  simp only
  rw [if_neg g4, g5]
theorem read_truths {c : Case} {hd ft n : Int} (h : someR c = true) (h1 : 0 ≤ hd ∧ hd < c.shop.heads.length) (hn : 0 ≤ n ∧ n ≤ 2) :
    (truthsE (readC c hd ft n) 0 = (caseSets (readC c hd ft n), 0) ∧ 0 < (caseSets (readC c hd ft n)).length) ∨ (truthsE (readC c hd ft n) 0 = ([], 8) ∧ (caseSets (readC c hd ft n)).length = 0) := by
  have hv : (caseCheck c).2.2 = 0 := by
    have := some_iff.1 h
    unfold truthsE at this
    split at this
    · rename_i q; exact absurd this q
    · rename_i q; simpa using q
  have hr := read_check (ft := ft) hv h1 hn
  unfold truthsE
  rw [if_neg (fun q => q hr)]
  simp only [ne_eq, not_true_eq_false, if_false]
  by_cases hz : (caseSets (readC c hd ft n)).length = 0
  · exact .inr ⟨by rw [if_pos hz], hz⟩
  · exact .inl ⟨by rw [if_neg hz], by omega⟩
theorem index_zero {n : Int} {many : Nat} (h : 0 ≤ n ∧ n < many) : indexErr n many = 0 := by
  unfold indexErr
  rw [if_pos]
  simp [within]; omega
theorem holds_eq {x : Case} (h : someR x = true) {i : Int} (hi : 0 ≤ i ∧ i < x.claims.length) : holdsR x i = (settled (caseSets x) i, 0) := by
  unfold holdsR
  rw [index_zero hi, (some_ok h).1]
  simp
end
noncomputable section
theorem settled_sub {S S' : List Int} (hne : S' ≠ []) (hs : ∀ s ∈ S', s ∈ S) {i : Int} (h : settled S i ≠ 0) : settled S' i = settled S i := by
  have l1 : S'.length ≠ 0 := fun e => hne (List.length_eq_zero_iff.1 e)
  unfold settled at h ⊢
  by_cases h1 : (S.countP fun s => hasZ s i) = S.length
  · have a : ∀ s ∈ S, hasZ s i = true := List.countP_eq_length.1 h1
    have b : (S'.countP fun s => hasZ s i) = S'.length := List.countP_eq_length.2 fun s q => a s (hs s q)
    rw [if_pos h1, if_pos b]
  · rw [if_neg h1] at h ⊢
    by_cases h2 : (S.countP fun s => hasZ s i) = 0
    · have a : ∀ s ∈ S, ¬ hasZ s i = true := List.countP_eq_zero.1 h2
      have b : (S'.countP fun s => hasZ s i) = 0 := List.countP_eq_zero.2 fun s q => a s (hs s q)
      rw [if_neg (by rw [b]; exact fun e => l1 e.symm), if_pos b, if_pos h2]
    · rw [if_neg h2] at h; exact absurd rfl h
structure Sub (x y : Span) : Prop where
  lo : y.lo ≤ x.lo
  hi : x.hi ≤ y.hi
theorem narrow_sub {a b k : Int} {x y : Span} (h : Sub x y) (hab : a = b ∨ b = 0) : Sub (narrow a k x) (narrow b k y) := by
  have h1 := h.lo
  have h2 := h.hi
  rcases hab with rfl | rfl
  · unfold narrow
    split
    · exact ⟨by simp only; omega, h2⟩
    · split
      · exact ⟨h1, by simp only; omega⟩
      · exact h
  · have e : narrow 0 k y = y := by simp [narrow]
    rw [e]
    unfold narrow
    split
    · exact ⟨by simp only; omega, h2⟩
    · split
      · exact ⟨h1, by simp only; omega⟩
      · exact h
theorem lastTo_sub {s s' : Shop} (hm : s'.moulds = s.moulds) (hsh : ∀ i f : Nat, (s'.heads.getD i zHead).shows.getD f 0 = (s.heads.getD i zHead).shows.getD f 0 ∨ (s.heads.getD i zHead).shows.getD f 0 = 0) (l : List Cast) (m f : Int) : ∀ k, Sub (lastTo s' l m f k) (lastTo s l m f k)
  | 0 => by
    have e : lastTo s' l m f 0 = lastTo s l m f 0 := by simp only [lastTo, natF, span0, hm]
    rw [e]; exact ⟨Int.le_refl _, Int.le_refl _⟩
  | k + 1 => by
    have ih := lastTo_sub hm hsh l m f k
    show Sub (lastStep s' m f k (l.getD k zCast) (lastTo s' l m f k)) (lastStep s m f k (l.getD k zCast) (lastTo s l m f k))
    unfold lastStep
    split
    · exact narrow_sub ih (hsh _ _)
    · exact ih
theorem truths_sub {s s' : Shop} (hm : s'.moulds = s.moulds) (hf : s'.features = s.features) (hsh : ∀ i f : Nat, (s'.heads.getD i zHead).shows.getD f 0 = (s.heads.getD i zHead).shows.getD f 0 ∨ (s.heads.getD i zHead).shows.getD f 0 = 0) : ∀ (n : Nat) (l : List Cast), l ∈ growN s' n → l ∈ growN s n
  | 0, _, h => h
  | n + 1, l, h => by
    simp only [growN, List.mem_flatMap] at h ⊢
    obtain ⟨p, hp, hl⟩ := h
    refine ⟨p, truths_sub hm hf hsh n p hp, ?_⟩
    have hc : allCasts s' = allCasts s := by unfold allCasts castsAt; rw [hm]
    simp only [ext, List.mem_filter, hc] at hl ⊢
    refine ⟨hl.1, ?_⟩
    have ha := hl.2
    simp only [agrees, Bool.and_eq_true, Bool.not_eq_true'] at ha ⊢
    refine ⟨ha.1, ?_⟩
    cases hb : bad s l with
    | false => rfl
    | true =>
      exfalso
      unfold bad at hb
      obtain ⟨m, hm1, hb⟩ := List.any_eq_true.1 hb
      obtain ⟨f, hf1, hb⟩ := List.any_eq_true.1 hb
      have hb := of_decide_eq_true hb
      have hs := lastTo_sub hm hsh l m f l.length
      have h1 := hs.lo
      have h2 := hs.hi
      have : bad s' l = true := by
        unfold bad
        refine List.any_eq_true.2 ⟨m, by rw [hm]; exact hm1, List.any_eq_true.2 ⟨f, by rw [hf]; exact hf1, decide_eq_true ?_⟩⟩
        unfold lastOf at hb ⊢
        omega
      rw [this] at ha; cases ha.2
theorem read_show {c : Case} {hd ft n : Int} (h0 : (c.shop.heads.getD hd.toNat zHead).shows.getD ft.toNat 0 = 0) (i f : Nat) :
    ((readC c hd ft n).shop.heads.getD i zHead).shows.getD f 0 = (c.shop.heads.getD i zHead).shows.getD f 0 ∨ (c.shop.heads.getD i zHead).shows.getD f 0 = 0 := by
  by_cases e : hd.toNat = i
  · subst e
    by_cases e2 : ft.toNat = f
    · subst e2; exact .inr h0
    · left
      simp only [readC]
      by_cases hl : hd.toNat < c.shop.heads.length
      · rw [List.getD_eq_getElem?_getD (l := c.shop.heads.set _ _), List.getElem?_set_self hl]
        simp only [Option.getD_some]
        rw [List.getD_eq_getElem?_getD, List.getElem?_set_ne e2, ← List.getD_eq_getElem?_getD]
      · rw [List.set_eq_of_length_le (by omega)]
  · left
    simp only [readC]
    rw [List.getD_eq_getElem?_getD (l := c.shop.heads.set _ _), List.getElem?_set_ne e, ← List.getD_eq_getElem?_getD]
theorem sets_read {c : Case} {hd ft n : Int} (h : OkCase c) (h0 : (c.shop.heads.getD hd.toNat zHead).shows.getD ft.toNat 0 = 0) : ∀ y ∈ caseSets (readC c hd ft n), y ∈ caseSets c := fun y hy => by
  have h5 := h.five
  have h5' : (readC c hd ft n).claims.length ≤ 5 := h5
  have hsh := read_show (n := n) h0
  obtain ⟨l, hl, hy⟩ := (mem_caseSets h5').1 hy
  refine (mem_caseSets h5).2 ⟨l, ?_, ?_⟩
  · have hlen : (readC c hd ft n).shop.heads.length = c.shop.heads.length := by simp [readC]
    unfold truths at hl ⊢
    rw [hlen] at hl
    exact truths_sub (s := c.shop) (s' := (readC c hd ft n).shop) rfl rfl hsh _ _ hl
  · obtain ⟨L, hL, e⟩ := (mem_casesR h5' y).1 hy
    refine (mem_casesR h5 y).2 ⟨L, fun p hp => ?_, e⟩
    obtain ⟨q1, q2⟩ := hL p hp
    have hs := lastTo_sub (s := c.shop) (s' := (readC c hd ft n).shop) rfl hsh l p.1 p.2 l.length
    exact ⟨Int.le_trans hs.lo q1, Int.le_trans q2 hs.hi⟩
inductive P13
  | e
  | l0 (x0_13 : List Int) (x0_15 : Int) (c0_2_0 : Int) (c0_2_1 : List Mould) (c0_2_2 : List Head) (c0_2_3 : List Int) (c0_2_4 : List Claim)
  | l1 (c0_2_0 : Int) (c0_2_1 : List Mould) (c0_2_2 : List Head) (c0_2_3 : List Int) (c0_2_4 : List Claim) (x1_16 : Int)
inductive R13
  | r0 (r0 : Bool)
noncomputable def T13 (x : Case) (w : Int) (b : Bool) : P13 → Tr P13 R13
  | .e => let c3 : Tr P13 R13 := .call 23 [] (.bool true) true true (.out (.r0 true)); let c5 := truthsE x 0; let c6 := (x.owners.length : Int); let c1 := (w.tdiv c6).tmod x.shop.features; let c2 := w.tmod c6; let c7 := c5.2 == (0 : Int); let c8 : Tr P13 R13 := .out (.r0 false); let c4 : Tr P13 R13 := .lit false c8; let c9 := x.shop.heads.getD (c2).toNat tHead.zero; let c10 : Tr P13 R13 := .lit false c4; let c11 : V := .tuple [tint.lst (c5.1), iI (c5.2)]; (.call 46 [.agg (cC x)] (.bool (someR x)) true true (.br (!(someR x)) (.lit true c3) (.br (c6 == (0 : Int)) c3 (.need (inR .i64 w) (.need (decide (c6 ≠ 0)) (.front [] [] (((inR .i64 w) && ((decide (c6 ≠ 0) && inR .i64 (w.tdiv c6)) && ((decide (x.shop.features ≠ 0)) && true))) && true) true (.front [] [] (((decide (0 ≤ c2) && decide (c2 < (x.shop.heads.length : Int))) && ((decide (0 ≤ c1) && decide (c1 < ((c9.shows.length) : Int))) && true)) && true) true (.br (((c9.shows).getD (c1).toNat tint.zero) != (0 : Int)) c3 (.br b (.call 53 [.agg (cC x), .agg [iI c2, iI c1], iI 1] (.agg [iI (((fun c (a : Entry) n => readC c a.head a.feature n) x (⟨c2, c1⟩ : Entry) 1).shop.features), tMould.lst (((fun c (a : Entry) n => readC c a.head a.feature n) x (⟨c2, c1⟩ : Entry) 1).shop.moulds), tHead.lst (((fun c (a : Entry) n => readC c a.head a.feature n) x (⟨c2, c1⟩ : Entry) 1).shop.heads), tint.lst (((fun c (a : Entry) n => readC c a.head a.feature n) x (⟨c2, c1⟩ : Entry) 1).owners), tClaim.lst (((fun c (a : Entry) n => readC c a.head a.feature n) x (⟨c2, c1⟩ : Entry) 1).claims)]) true true (.call 18 [.agg (cC x)] c11 true true (.call 18 [.agg [iI (((fun c (a : Entry) n => readC c a.head a.feature n) x (⟨c2, c1⟩ : Entry) 1).shop.features), tMould.lst (((fun c (a : Entry) n => readC c a.head a.feature n) x (⟨c2, c1⟩ : Entry) 1).shop.moulds), tHead.lst (((fun c (a : Entry) n => readC c a.head a.feature n) x (⟨c2, c1⟩ : Entry) 1).shop.heads), tint.lst (((fun c (a : Entry) n => readC c a.head a.feature n) x (⟨c2, c1⟩ : Entry) 1).owners), tClaim.lst (((fun c (a : Entry) n => readC c a.head a.feature n) x (⟨c2, c1⟩ : Entry) 1).claims)]] (.tuple [tint.lst ((truthsE ((fun c (a : Entry) n => readC c a.head a.feature n) x (⟨c2, c1⟩ : Entry) 1) 0).1), iI ((truthsE ((fun c (a : Entry) n => readC c a.head a.feature n) x (⟨c2, c1⟩ : Entry) 1) 0).2)]) true true (.br (c5.2 != (0 : Int)) (.lit true (.br c7 (.br ((truthsE ((fun c (a : Entry) n => readC c a.head a.feature n) x (⟨c2, c1⟩ : Entry) 1) 0).2 == (8 : Int)) (.br (((((truthsE ((fun c (a : Entry) n => readC c a.head a.feature n) x (⟨c2, c1⟩ : Entry) 1) 0).1).length) : Int) == (0 : Int)) c3 c8) c4) c10)) (.br ((truthsE ((fun c (a : Entry) n => readC c a.head a.feature n) x (⟨c2, c1⟩ : Entry) 1) 0).2 != (0 : Int)) (.br c7 (.br ((truthsE ((fun c (a : Entry) n => readC c a.head a.feature n) x (⟨c2, c1⟩ : Entry) 1) 0).2 == (8 : Int)) (.br (((((truthsE ((fun c (a : Entry) n => readC c a.head a.feature n) x (⟨c2, c1⟩ : Entry) 1) 0).1).length) : Int) == (0 : Int)) c3 c8) c4) c10) (.go (.l0 ((truthsE ((fun c (a : Entry) n => readC c a.head a.feature n) x (⟨c2, c1⟩ : Entry) 1) 0).1) 0 (((fun c (a : Entry) n => readC c a.head a.feature n) x (⟨c2, c1⟩ : Entry) 1).shop.features) (((fun c (a : Entry) n => readC c a.head a.feature n) x (⟨c2, c1⟩ : Entry) 1).shop.moulds) (((fun c (a : Entry) n => readC c a.head a.feature n) x (⟨c2, c1⟩ : Entry) 1).shop.heads) (((fun c (a : Entry) n => readC c a.head a.feature n) x (⟨c2, c1⟩ : Entry) 1).owners) (((fun c (a : Entry) n => readC c a.head a.feature n) x (⟨c2, c1⟩ : Entry) 1).claims)))))))) (.call 53 [.agg (cC x), .agg [iI c2, iI c1], iI 2] (.agg [iI (((fun c (a : Entry) n => readC c a.head a.feature n) x (⟨c2, c1⟩ : Entry) 2).shop.features), tMould.lst (((fun c (a : Entry) n => readC c a.head a.feature n) x (⟨c2, c1⟩ : Entry) 2).shop.moulds), tHead.lst (((fun c (a : Entry) n => readC c a.head a.feature n) x (⟨c2, c1⟩ : Entry) 2).shop.heads), tint.lst (((fun c (a : Entry) n => readC c a.head a.feature n) x (⟨c2, c1⟩ : Entry) 2).owners), tClaim.lst (((fun c (a : Entry) n => readC c a.head a.feature n) x (⟨c2, c1⟩ : Entry) 2).claims)]) true true (.call 18 [.agg (cC x)] c11 true true (.call 18 [.agg [iI (((fun c (a : Entry) n => readC c a.head a.feature n) x (⟨c2, c1⟩ : Entry) 2).shop.features), tMould.lst (((fun c (a : Entry) n => readC c a.head a.feature n) x (⟨c2, c1⟩ : Entry) 2).shop.moulds), tHead.lst (((fun c (a : Entry) n => readC c a.head a.feature n) x (⟨c2, c1⟩ : Entry) 2).shop.heads), tint.lst (((fun c (a : Entry) n => readC c a.head a.feature n) x (⟨c2, c1⟩ : Entry) 2).owners), tClaim.lst (((fun c (a : Entry) n => readC c a.head a.feature n) x (⟨c2, c1⟩ : Entry) 2).claims)]] (.tuple [tint.lst ((truthsE ((fun c (a : Entry) n => readC c a.head a.feature n) x (⟨c2, c1⟩ : Entry) 2) 0).1), iI ((truthsE ((fun c (a : Entry) n => readC c a.head a.feature n) x (⟨c2, c1⟩ : Entry) 2) 0).2)]) true true (.br (c5.2 != (0 : Int)) (.lit true (.br c7 (.br ((truthsE ((fun c (a : Entry) n => readC c a.head a.feature n) x (⟨c2, c1⟩ : Entry) 2) 0).2 == (8 : Int)) (.br (((((truthsE ((fun c (a : Entry) n => readC c a.head a.feature n) x (⟨c2, c1⟩ : Entry) 2) 0).1).length) : Int) == (0 : Int)) c3 c8) c4) c10)) (.br ((truthsE ((fun c (a : Entry) n => readC c a.head a.feature n) x (⟨c2, c1⟩ : Entry) 2) 0).2 != (0 : Int)) (.br c7 (.br ((truthsE ((fun c (a : Entry) n => readC c a.head a.feature n) x (⟨c2, c1⟩ : Entry) 2) 0).2 == (8 : Int)) (.br (((((truthsE ((fun c (a : Entry) n => readC c a.head a.feature n) x (⟨c2, c1⟩ : Entry) 2) 0).1).length) : Int) == (0 : Int)) c3 c8) c4) c10) (.go (.l0 ((truthsE ((fun c (a : Entry) n => readC c a.head a.feature n) x (⟨c2, c1⟩ : Entry) 2) 0).1) 0 (((fun c (a : Entry) n => readC c a.head a.feature n) x (⟨c2, c1⟩ : Entry) 2).shop.features) (((fun c (a : Entry) n => readC c a.head a.feature n) x (⟨c2, c1⟩ : Entry) 2).shop.moulds) (((fun c (a : Entry) n => readC c a.head a.feature n) x (⟨c2, c1⟩ : Entry) 2).shop.heads) (((fun c (a : Entry) n => readC c a.head a.feature n) x (⟨c2, c1⟩ : Entry) 2).owners) (((fun c (a : Entry) n => readC c a.head a.feature n) x (⟨c2, c1⟩ : Entry) 2).claims)))))))))))))))))
  | .l0 x0_13 x0_15 c0_2_0 c0_2_1 c0_2_2 c0_2_3 c0_2_4 => let c2 := decide (0 ≤ x0_15) && decide (x0_15 < (x0_13.length : Int)); let c3 : Tr P13 R13 := .need (inR .i64 (x0_15 + (1 : Int))) (.go (.l0 x0_13 (x0_15 + (1 : Int)) c0_2_0 c0_2_1 c0_2_2 c0_2_3 c0_2_4)); let c4 := x0_13.getD (x0_15).toNat tint.zero; let c5 := decide (x0_15 > (0 : Int)); let c6 := x0_15 - (1 : Int); let c7 := (truthsE x 0).1; let c1 := hasN c7 c4; (.br (decide (x0_15 < (x0_13.length : Int))) (.br (!c1) (.front [(5, 45, [tint.lst c7, iI c4], .bool c1)] [(7, true)] ((c2 && (((!c1) == true) && true)) && true) true (.lit true (.out (.r0 false)))) (.br c5 (.front [(5, 45, [tint.lst c7, iI c4], .bool c1)] [(7, false), (10, true)] ((c2 && (((!c1) == false) && ((c5 == true) && (c2 && ((inR .i64 c6) && ((decide (0 ≤ c6) && decide (c6 < (x0_13.length : Int))) && true)))))) && true) true (.br (decide (c4 ≤ (x0_13.getD (c6).toNat tint.zero))) (.out (.r0 false)) c3)) (.front [(5, 45, [tint.lst c7, iI c4], .bool c1)] [(7, false), (10, false)] ((c2 && (((!c1) == false) && ((c5 == false) && true))) && true) true (.lit false c3)))) (.go (.l1 c0_2_0 c0_2_1 c0_2_2 c0_2_3 c0_2_4 0)))
  | .l1 c0_2_0 c0_2_1 c0_2_2 c0_2_3 c0_2_4 x1_16 => let c1 := holdsR (⟨(⟨c0_2_0, c0_2_1, c0_2_2⟩ : Shop), c0_2_3, c0_2_4⟩ : Case) x1_16; let c2 : Tr P13 R13 := .need (inR .i64 (x1_16 + (1 : Int))) (.go (.l1 c0_2_0 c0_2_1 c0_2_2 c0_2_3 c0_2_4 (x1_16 + (1 : Int)))); let c3 := holdsR x x1_16; let c4 : Tr P13 R13 := .lit true (.lit true (.out (.r0 false))); (.br (decide (x1_16 < (x.claims.length : Int))) (.call 21 [.agg (cC x), iI x1_16] (.tuple [iI (c3.1), iI (c3.2)]) true true (.call 21 [.agg [iI c0_2_0, tMould.lst c0_2_1, tHead.lst c0_2_2, tint.lst c0_2_3, tClaim.lst c0_2_4], iI x1_16] (.tuple [iI (c1.1), iI (c1.2)]) true true (.br (c3.2 != (0 : Int)) (.lit true c4) (.br (c1.2 != (0 : Int)) c4 (.br (c3.1 != (0 : Int)) (.lit false (.br (c1.1 != c3.1) (.out (.r0 false)) c2)) (.lit false (.lit false c2))))))) (.call 23 [] (.bool true) true true (.out (.r0 true))))
noncomputable def g13 (x : Case) (w : Int) (b : Bool) : P13 → List Item × St
  | .e => bd Tryz.f13 [.agg (cC x), .int .u8 w, .bool b] 158
  | .l0 x0_13 x0_15 c0_2_0 c0_2_1 c0_2_2 c0_2_3 c0_2_4 => (cutOf Tryz.f13 0, ⟨mk 161 [(3, .ref 0 0 0), (10, .ref 2 0 0), (11, tint.lst ((truthsE x 0).1)), (13, tint.lst x0_13), (15, iI x0_15)], [.cells (cC x), .gone, .cells [iI c0_2_0, tMould.lst c0_2_1, tHead.lst c0_2_2, tint.lst c0_2_3, tClaim.lst c0_2_4]], []⟩)
  | .l1 c0_2_0 c0_2_1 c0_2_2 c0_2_3 c0_2_4 x1_16 => (cutOf Tryz.f13 1, ⟨mk 161 [(3, .ref 0 0 0), (10, .ref 2 0 0), (16, iI x1_16)], [.cells (cC x), .gone, .cells [iI c0_2_0, tMould.lst c0_2_1, tHead.lst c0_2_2, tint.lst c0_2_3, tClaim.lst c0_2_4]], []⟩)
noncomputable def n13 : R13 → Exit × St
  | .r0 r0 => (.ret, ⟨mk 161 [(6, .bool r0)], [], []⟩)
noncomputable def v13 : R13 → V
  | .r0 r0 => .bool r0
theorem s13 (x : Case) (w : Int) (b : Bool) : Sm 0 (g13 x w b) (T13 x w b) (n13)
  | .e => ⟨400, by kernel_rfl⟩
  | .l0 _ _ _ _ _ _ _ => ⟨400, by kernel_rfl⟩
  | .l1 _ _ _ _ _ _ => ⟨400, by kernel_rfl⟩
theorem q13 : ∀ r, bodyQ Tryz.prog Tryz.f13 (· = v13 r) (n13 r).1 (n13 r).2
  | .r0 r0 => bq (.bool r0) (by kernel_rfl)
theorem w13 (x : Case) (w : Int) (b : Bool) {post : V → Prop} (h : WQ (T13 x w b) v13 post .e) : PC 13 [.agg (cC x), .int .u8 w, .bool b] post :=
  PCalls.wq Tryz.func13 (s13 x w b) q13 h
theorem w13_go (x : Case) (w : Int) (b : Bool) (M : Case) (hs : someR x = true) (hM : truthsE M 0 = (caseSets M, 0)) (hne : caseSets M ≠ []) (hsub : ∀ y ∈ caseSets M, y ∈ caseSets x) (hcl : M.claims = x.claims) :
    WP Tryz.prog ⟨none, 0⟩ (T13 x w b) (Ends' fun r => v13 r = .bool true) (.l0 (caseSets M) 0 M.shop.features M.shop.moulds M.shop.heads M.owners M.claims) := by
  obtain ⟨ht, hok, -⟩ := some_ok hs
  have h5 := hok.five
  have hlen := caseSets_le M
  have hasc := caseSets_asc M
  have hold : ∀ i : Nat, i < x.claims.length → holdsR M i = (settled (caseSets M) i, 0) := fun i hi => by
    unfold holdsR
    rw [hcl, index_zero ⟨by omega, by omega⟩, hM]; simp
  have hset : ∀ i : Nat, settled (caseSets x) i ≠ 0 → settled (caseSets M) i = settled (caseSets x) i := fun i => settled_sub hne hsub
  rcases M with ⟨⟨mf, mm, mh⟩, mo, mc⟩
  simp only at hcl
  subst hcl
  generalize caseSets ⟨⟨mf, mm, mh⟩, mo, x.claims⟩ = K at *
  refine WP.run (fun i => .l0 K i mf mm mh mo x.claims) rfl K.length (fun i hi => ?_) ?_
  · have hr : inR .i64 ((i : Int) + 1) = true := inR64 (by omega) (by omega)
    have hm : hasN (truthsE x 0).1 (K.getD i 0) = true := by
      rw [ht]
      exact List.any_eq_true.2 ⟨_, hsub _ (getD_mem 0 K i hi), by simp⟩
    have hr2 : (0 : Int) < i → inR .i64 ((i : Int) - 1) = true := fun _ => inR64 (by omega) (by omega)
    have hp2 : (0 : Int) < i → (0 : Int) ≤ (i : Int) - 1 := fun _ => by omega
    have hp3 : (i : Int) - 1 < K.length := by omega
    have hlt : (0 : Int) < i → ¬ K.getD i 0 ≤ K.getD ((i : Int) - 1).toNat 0 := fun h0 => by
      have := List.pairwise_iff_getElem.1 hasc (i - 1) i (by omega) hi (by omega)
      rw [show ((i : Int) - 1).toNat = i - 1 by omega]
      simp only [List.getD_eq_getElem?_getD, List.getElem?_eq_getElem hi, List.getElem?_eq_getElem (show i - 1 < K.length by omega), Option.getD_some]
      omega
    have k45 := c45 (truthsE x 0).1 (K.getD i 0)
    rw [hm] at k45
    refine WP.once ?_
    simp only [T13, Tr.sure, SS, hi, z1, hm]
    repeat' with_reducible first | intro _ | apply And.intro
    all_goals first | exact k45 | (simp [hr, hr2, hp2, hp3, hlt, Go, Ends', v13, -List.getD_eq_getElem?_getD, *]; done) | (simp_all [hr, hr2, hp2, hp3, hlt, Go, Ends', v13, -List.getD_eq_getElem?_getD]; done) | skip
    all_goals (rename_i q1 q2; first | exact absurd q2 (hlt q1) | exact absurd (of_decide_eq_true q2) (hlt q1))
  · refine WP.step ?_
    simp only [T13, Go, Ends', v13, Tr.sure, SS, Int.lt_irrefl]
    repeat' with_reducible first | intro _ | apply And.intro
    refine WP.run (fun i => .l1 mf mm mh mo x.claims i) rfl x.claims.length (fun i hi => ?_) ?_
    · have hr : inR .i64 ((i : Int) + 1) = true := inR64 (by omega) (by omega)
      have hh := holds_eq hs (i := (i : Int)) ⟨by omega, by omega⟩
      have ho := hold i hi
      have hse := hset i
      have k1 := c21 x i
      have k2 := c21 ⟨⟨mf, mm, mh⟩, mo, x.claims⟩ i
      rw [hh] at k1
      rw [ho] at k2
      refine WP.once ?_
      simp only [T13, Tr.sure, SS, hi, hh, ho]
      repeat' with_reducible first | intro _ | apply And.intro
      all_goals first | exact k1 | exact k2 | (simp [hr, hse, Go, Ends', v13, -List.getD_eq_getElem?_getD, *]; done) | (simp_all [hr, hse, Go, Ends', v13, -List.getD_eq_getElem?_getD]; done)
    · refine WP.step ?_
      simp only [T13, Go, Ends', v13, Tr.sure, SS, Int.lt_irrefl]
      repeat' with_reducible first | intro _ | apply And.intro
      all_goals exact c23
theorem c13 (x : Case) (w : Int) (b : Bool) (hw : 0 ≤ w ∧ w ≤ 255) : PC 13 [.agg (tCase.cells x), .int .u8 w, .bool b] (· = .bool true) := by
  have hiw : inR .i64 w = true := inR64 (by omega) (by omega)
  cases hs : someR x with
  | false =>
    refine w13 x w b (WP.step ?_)
    simp only [T13, Go, Ends', v13, Tr.sure, SS]
    repeat' with_reducible first | intro _ | apply And.intro
    all_goals first | exact (c46 x) | exact c23 | (simp [hs, Go, Ends', v13, -List.getD_eq_getElem?_getD, *]; done) | (simp_all [hs, Go, Ends', v13, -List.getD_eq_getElem?_getD]; done)
  | true =>
    obtain ⟨ht, hok, -⟩ := some_ok hs
    have hnh := hok.shop.nh
    have hft := hok.shop.feat
    have hmany := hok.many
    by_cases hz : x.owners.length = 0
    · refine w13 x w b (WP.step ?_)
      simp only [T13, Go, Ends', v13, Tr.sure, SS]
      repeat' with_reducible first | intro _ | apply And.intro
      all_goals first | exact (c46 x) | exact c23 | (simp [hs, hz, Go, Ends', v13, -List.getD_eq_getElem?_getD, *]; done) | (simp_all [hs, hz, Go, Ends', v13, -List.getD_eq_getElem?_getD]; done)
    · obtain ⟨hd, hhd⟩ : ∃ hd, w.tmod (x.owners.length : Int) = hd := ⟨_, rfl⟩
      obtain ⟨ft, hfd⟩ : ∃ ft, (w.tdiv (x.owners.length : Int)).tmod x.shop.features = ft := ⟨_, rfl⟩
      have hz2 : (x.owners.length : Int) ≠ 0 := by omega
      have h1 : 0 ≤ hd ∧ hd < x.shop.heads.length := by
        rw [← hhd, Int.tmod_eq_emod_of_nonneg hw.1]
        have a1 := Int.emod_nonneg w hz2
        have a2 := Int.emod_lt_of_pos w (show (0 : Int) < x.owners.length by omega)
        omega
      have hq : 0 ≤ w.tdiv (x.owners.length : Int) ∧ w.tdiv (x.owners.length : Int) ≤ 255 := by
        rw [Int.tdiv_eq_ediv_of_nonneg hw.1]
        exact ⟨Int.ediv_nonneg hw.1 (by omega), Int.le_trans (Int.ediv_le_self _ hw.1) hw.2⟩
      have hq2 : inR .i64 (w.tdiv (x.owners.length : Int)) = true := inR64 (by omega) (by omega)
      have h2 : 0 ≤ ft ∧ ft < x.shop.features := by
        rw [← hfd, Int.tmod_eq_emod_of_nonneg hq.1]
        exact ⟨Int.emod_nonneg _ (by omega), Int.emod_lt_of_pos _ (by omega)⟩
      have hfz : x.shop.features ≠ 0 := by omega
      have hsh := (hok.shop.head _ (getD_mem zHead x.shop.heads hd.toNat (by omega))).1
      have h2' : ft < ((x.shop.heads.getD hd.toNat zHead).shows.length : Int) := by omega
      by_cases h0 : (x.shop.heads.getD hd.toNat zHead).shows.getD ft.toNat 0 = 0
      · have key : ∀ n : Int, n = 1 ∨ n = 2 → (truthsE (readC x hd ft n) 0 = (caseSets (readC x hd ft n), 0) ∧ caseSets (readC x hd ft n) ≠ []) ∨ truthsE (readC x hd ft n) 0 = ([], 8) := fun n hn => by
          rcases read_truths (ft := ft) (n := n) hs h1 (by omega) with ⟨q1, q2⟩ | ⟨q1, -⟩
          · exact .inl ⟨q1, fun e => by rw [e] at q2; simp at q2⟩
          · exact .inr q1
        have r1 := c53 x ⟨hd, ft⟩ 1 h1 ⟨h2.1, h2'⟩ (by omega) (by simp only; omega)
        have r2 := c53 x ⟨hd, ft⟩ 2 h1 ⟨h2.1, h2'⟩ (by omega) (by simp only; omega)
        cases b with
        | true =>
          rcases key 1 (.inl rfl) with ⟨q1, q2⟩ | q1
          · have k18 := c18s (readC x hd ft 1)
            rw [q1] at k18
            have hgo := w13_go x w true _ hs q1 q2 (sets_read hok h0) rfl
            refine w13 x w true (WP.step ?_)
            simp only [T13, Go, Ends', v13, Tr.sure, SS, hhd, hfd, q1]
            repeat' with_reducible first | intro _ | apply And.intro
            all_goals first | exact (c46 x) | exact (c18s x) | exact k18 | exact r1 | exact hgo | exact c23 | (simp [hs, hiw, hz, hz2, hq2, h1, h2, h2', h0, hfz, ht, hmany, Go, Ends', v13, -List.getD_eq_getElem?_getD, *]; done) | (simp_all [hs, hiw, hz, hz2, hq2, h1, h2, h2', h0, hfz, ht, hmany, Go, Ends', v13, -List.getD_eq_getElem?_getD]; done)
          · have k18 := c18s (readC x hd ft 1)
            rw [q1] at k18
            refine w13 x w true (WP.step ?_)
            simp only [T13, Go, Ends', v13, Tr.sure, SS, hhd, hfd, q1]
            repeat' with_reducible first | intro _ | apply And.intro
            all_goals first | exact (c46 x) | exact (c18s x) | exact k18 | exact r1 | exact c23 | (simp [hs, hiw, hz, hz2, hq2, h1, h2, h2', h0, hfz, ht, hmany, Go, Ends', v13, -List.getD_eq_getElem?_getD, *]; done) | (simp_all [hs, hiw, hz, hz2, hq2, h1, h2, h2', h0, hfz, ht, hmany, Go, Ends', v13, -List.getD_eq_getElem?_getD]; done)
        | false =>
          rcases key 2 (.inr rfl) with ⟨q1, q2⟩ | q1
          · have k18 := c18s (readC x hd ft 2)
            rw [q1] at k18
            have hgo := w13_go x w false _ hs q1 q2 (sets_read hok h0) rfl
            refine w13 x w false (WP.step ?_)
            simp only [T13, Go, Ends', v13, Tr.sure, SS, hhd, hfd, q1]
            repeat' with_reducible first | intro _ | apply And.intro
            all_goals first | exact (c46 x) | exact (c18s x) | exact k18 | exact r2 | exact hgo | exact c23 | (simp [hs, hiw, hz, hz2, hq2, h1, h2, h2', h0, hfz, ht, hmany, Go, Ends', v13, -List.getD_eq_getElem?_getD, *]; done) | (simp_all [hs, hiw, hz, hz2, hq2, h1, h2, h2', h0, hfz, ht, hmany, Go, Ends', v13, -List.getD_eq_getElem?_getD]; done)
          · have k18 := c18s (readC x hd ft 2)
            rw [q1] at k18
            refine w13 x w false (WP.step ?_)
            simp only [T13, Go, Ends', v13, Tr.sure, SS, hhd, hfd, q1]
            repeat' with_reducible first | intro _ | apply And.intro
            all_goals first | exact (c46 x) | exact (c18s x) | exact k18 | exact r2 | exact c23 | (simp [hs, hiw, hz, hz2, hq2, h1, h2, h2', h0, hfz, ht, hmany, Go, Ends', v13, -List.getD_eq_getElem?_getD, *]; done) | (simp_all [hs, hiw, hz, hz2, hq2, h1, h2, h2', h0, hfz, ht, hmany, Go, Ends', v13, -List.getD_eq_getElem?_getD]; done)
      · refine w13 x w b (WP.step ?_)
        simp only [T13, Go, Ends', v13, Tr.sure, SS, hhd, hfd]
        repeat' with_reducible first | intro _ | apply And.intro
        all_goals first | exact (c46 x) | exact c23 | (simp [hs, hiw, hz, hz2, hq2, h1, h2, h2', h0, hfz, hmany, Go, Ends', v13, -List.getD_eq_getElem?_getD, *]; done) | (simp_all [hs, hiw, hz, hz2, hq2, h1, h2, h2', h0, hfz, hmany, Go, Ends', v13, -List.getD_eq_getElem?_getD]; done)
end
end Go.Proofs.YtdamoemndifpmaaGreat
