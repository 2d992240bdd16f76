/-
  Part of the proof of the Claim laws. Conditions: those that stand in each theorem.
-/
import Derived.Test.YtdamoemndifpmaaGreatB08
set_option linter.unusedSimpArgs false
set_option linter.unusedVariables false
set_option maxRecDepth 100000
namespace Go.Proofs.YtdamoemndifpmaaGreat
open Ab Go
noncomputable section
theorem c58w (lo hi a : Int) : PC 58 [iI lo, iI hi, .list 1 1 (litC 1 1 [iI a])] (· = .bool (!within a lo hi)) := by rw [← outside1]; exact c58_1 lo hi a
inductive P59x
  | e
inductive R59x
  | r0 (r0 : Int)
noncomputable def T59x (p0 : Shop) (p1 : Claim) : P59x → Tr P59x R59x
  | .e => let c1 := (decide (1 ≤ 1)) && true; let c2 := outside 1 100 ([p1.worth] : List Int); let c3 := outside 0 5 ([p1.kind] : List Int); let c4 := outside 0 1 ([p1.own] : List Int); let c5 : Tr P59x R59x := .lit true (.out (.r0 7)); (.call 58 [iI 0, iI 1, .list 1 1 (litC 1 1 [iI p1.own])] (.bool c4) c1 true (.br c4 (.lit true c5) (.call 58 [iI 1, iI 100, .list 1 1 (litC 1 1 [iI p1.worth])] (.bool c2) c1 true (.br c2 c5 (.call 58 [iI 0, iI 5, .list 1 1 (litC 1 1 [iI p1.kind])] (.bool c3) c1 true (.br c3 (.out (.r0 7)) (.wait 2 .never)))))))
noncomputable def g59x (p0 : Shop) (p1 : Claim) : P59x → List Item × St
  | .e => bd Tryz.f59 [.agg [iI p0.features, tMould.lst p0.moulds, tHead.lst p0.heads], .agg [iI p1.own, iI p1.kind, iI p1.a, iI p1.b, iI p1.mould, iI p1.feature, iI p1.number, iI p1.worth]] 52
noncomputable def n59x : R59x → Exit × St
  | .r0 r0 => (.ret, ⟨mk 54 [(4, iI r0)], [], []⟩)
noncomputable def v59x : R59x → V
  | .r0 r0 => iI r0
theorem s59x (p0 : Shop) (p1 : Claim) : Sm 0 (g59x p0 p1) (T59x p0 p1) (n59x)
  | .e => ⟨400, by kernel_rfl⟩
theorem q59x : ∀ r, bodyQ Tryz.prog Tryz.f59 (· = v59x r) (n59x r).1 (n59x r).2
  | .r0 r0 => bq (iI r0) (by kernel_rfl)
theorem w59x (p0 : Shop) (p1 : Claim) {post : V → Prop} (h : WQ (T59x p0 p1) v59x post .e) : PC 59 [.agg [iI p0.features, tMould.lst p0.moulds, tHead.lst p0.heads], .agg [iI p1.own, iI p1.kind, iI p1.a, iI p1.b, iI p1.mould, iI p1.feature, iI p1.number, iI p1.worth]] post :=
  PCalls.wq Tryz.func59 (s59x p0 p1) q59x h
theorem c59x (s : Shop) (x : Claim) (h : within x.kind 0 5 = false) : PC 59 [.agg (tShop.cells s), .agg (tClaim.cells x)] (· = iI (claimErr s x)) := by
  refine w59x _ _ (WP.step ?_)
  simp only [T59x, Go, Ends', v59x, Tr.sure, SS, outside1]
  repeat' with_reducible first | intro _ | apply And.intro
  all_goals first | exact c58w _ _ _ | (simp [claimErr, Go, Ends', v59x, -List.getD_eq_getElem?_getD, *]; done) | (simp_all [claimErr, Go, Ends', v59x, -List.getD_eq_getElem?_getD]; done)
  all_goals simp_all
inductive P59_0
  | e
inductive R59_0
  | r0 (r0 : Int)
noncomputable def T59_0 (s : Shop) (x : Claim) : P59_0 → Tr P59_0 R59_0
  | .e => let c1 := (⟨x.own, 0, x.a, x.b, x.mould, x.feature, x.number, x.worth⟩ : Claim); let c2 : List V := [iI x.own, iI 0, iI x.a, iI x.b, iI x.mould, iI x.feature, iI x.number, iI x.worth]; let c3 := (decide (1 ≤ 1)) && true; let c4 : List V := [iI s.features, tMould.lst s.moulds, tHead.lst s.heads]; let c5 := outside 1 (most0 s c1) ([x.number] : List Int); let c6 := outside 1 100 ([x.worth] : List Int); let c7 : Tr P59_0 R59_0 := .out (.r0 7); let c8 := outside 0 1 ([x.own] : List Int); let c9 := outside 0 5 ([0] : List Int); (.call 58 [iI 0, iI 1, .list 1 1 (litC 1 1 [iI x.own])] (.bool c8) c3 true (.br c8 (.lit true (.lit true c7)) (.call 58 [iI 1, iI 100, .list 1 1 (litC 1 1 [iI x.worth])] (.bool c6) c3 true (.br c6 (.lit true c7) (.call 58 [iI 0, iI 5, .list 1 1 (litC 1 1 [iI 0])] (.bool c9) c3 true (.br c9 c7 (.front [(0, 122, [], .arr 4 6 (fun r j => kindCells.getD (r * 4 + j) uU))] [] (((decide (0 ≤ (0 : Int)) && decide ((0 : Int) < (6 : Int))) && true) && true) true (.call 170 [.agg c4, .agg c2, rR (fF 159)] (.bool (named0 s c1)) true true (.br (!(named0 s c1)) (.out (.r0 4)) (.call 171 [.agg c2] (.bool (fine0 c1)) true true (.br (!(fine0 c1)) (.out (.r0 2)) (.call 172 [.agg c4, .agg c2] (iI (most0 s c1)) true true (.br (decide ((most0 s c1) > (0 : Int))) (.call 58 [iI 1, iI (most0 s c1), .list 1 1 (litC 1 1 [iI x.number])] (.bool c5) c3 true (.br c5 c7 (.out (.r0 0)))) (.lit false (.out (.r0 0))))))))))))))))
noncomputable def g59_0 (s : Shop) (x : Claim) : P59_0 → List Item × St
  | .e => bd Tryz.f59 [.agg [iI s.features, tMould.lst s.moulds, tHead.lst s.heads], .agg [iI x.own, iI 0, iI x.a, iI x.b, iI x.mould, iI x.feature, iI x.number, iI x.worth]] 52
noncomputable def n59_0 : R59_0 → Exit × St
  | .r0 r0 => (.ret, ⟨mk 54 [(4, iI r0)], [], []⟩)
noncomputable def v59_0 : R59_0 → V
  | .r0 r0 => iI r0
theorem s59_0 (s : Shop) (x : Claim) : Sm 0 (g59_0 s x) (T59_0 s x) (n59_0)
  | .e => ⟨400, by kernel_rfl⟩
theorem q59_0 : ∀ r, bodyQ Tryz.prog Tryz.f59 (· = v59_0 r) (n59_0 r).1 (n59_0 r).2
  | .r0 r0 => bq (iI r0) (by kernel_rfl)
theorem w59_0 (s : Shop) (x : Claim) {post : V → Prop} (h : WQ (T59_0 s x) v59_0 post .e) : PC 59 [.agg [iI s.features, tMould.lst s.moulds, tHead.lst s.heads], .agg [iI x.own, iI 0, iI x.a, iI x.b, iI x.mould, iI x.feature, iI x.number, iI x.worth]] post :=
  PCalls.wq Tryz.func59 (s59_0 s x) q59_0 h
theorem c59_0 (s : Shop) (x : Claim) (hk : x.kind = 0) (h1 : s.heads.length ≤ 4) (h2 : s.moulds.length ≤ 2) (h3 : 1 ≤ s.features ∧ s.features ≤ 4) (h4 : ∀ m ∈ s.moulds, 1 ≤ m.casts) : PC 59 [.agg (tShop.cells s), .agg (tClaim.cells x)] (· = iI (claimErr s x)) := by
  obtain ⟨own, kind, a, b, mould, feature, number, worth⟩ := x
  simp only at hk; subst hk
  generalize hx : (⟨own, 0, a, b, mould, feature, number, worth⟩ : Claim) = x
  have hm : named0 s x = true → 1 ≤ most0 s x := fun h => by
    simp only [named0, Bool.and_eq_true, index_iff] at h
    refine h4 _ ?_
    rw [List.getD_eq_getElem?_getD, List.getElem?_eq_getElem (show x.mould.toNat < s.moulds.length by omega)]; exact List.getElem_mem _
  have q1 := c170 s x h1 h2
  have q2 := c162 s x h1
  have q3 := c166 s x h2 h3
  have q4 := c171 x
  have q5 := c163 x
  have q6 := c167 x
  have q7 := c172 s x
  have q8 := c168 s x
  have q9 := c160 s x
  subst hx
  refine w59_0 _ (⟨own, 0, a, b, mould, feature, number, worth⟩ : Claim) (WP.step ?_)
  simp only [T59_0, Go, Ends', v59_0, Tr.sure, SS, outside1]
  repeat' with_reducible first | intro _ | apply And.intro
  all_goals first | exact c58w _ _ _ | exact c122 | exact q1 | exact q4 | exact (q7 (by assumption)) | (simp [claimErr, named, named0, named1, named4, pair, lasting, spare, fine0, fine1, fine4, most0, Go, Ends', v59_0, -List.getD_eq_getElem?_getD, *]; done) | (simp_all [claimErr, named, named0, named1, named4, pair, lasting, spare, fine0, fine1, fine4, most0, Go, Ends', v59_0, -List.getD_eq_getElem?_getD]; done) | skip
  all_goals clear q1 q2 q3 q4 q5 q6 q7 q8 q9
  all_goals simp only [named0, named1, named4, fine0, fine1, fine4, most0, Bool.and_eq_true, Bool.not_eq_eq_eq_not] at *
  all_goals simp_all [claimErr, named, pair, lasting, spare]
  all_goals try (exfalso; omega)
inductive P59_1
  | e
inductive R59_1
  | r0 (r0 : Int)
noncomputable def T59_1 (s : Shop) (x : Claim) : P59_1 → Tr P59_1 R59_1
  | .e => let c1 : List V := [iI x.own, iI 1, iI x.a, iI x.b, iI x.mould, iI x.feature, iI x.number, iI x.worth]; let c2 := (decide (1 ≤ 1)) && true; let c3 : List V := [iI s.features, tMould.lst s.moulds, tHead.lst s.heads]; let c4 := outside 1 100 ([x.worth] : List Int); let c5 : Tr P59_1 R59_1 := .out (.r0 7); let c6 := outside 0 1 ([x.own] : List Int); let c7 := outside 0 5 ([1] : List Int); (.call 58 [iI 0, iI 1, .list 1 1 (litC 1 1 [iI x.own])] (.bool c6) c2 true (.br c6 (.lit true (.lit true c5)) (.call 58 [iI 1, iI 100, .list 1 1 (litC 1 1 [iI x.worth])] (.bool c4) c2 true (.br c4 (.lit true c5) (.call 58 [iI 0, iI 5, .list 1 1 (litC 1 1 [iI 1])] (.bool c7) c2 true (.br c7 c5 (.front [(0, 122, [], .arr 4 6 (fun r j => kindCells.getD (r * 4 + j) uU))] [] (((decide (0 ≤ (1 : Int)) && decide ((1 : Int) < (6 : Int))) && true) && true) true (.call 162 [.agg c3, .agg c1, rR (fF 159)] (.bool (named1 s (⟨x.own, 1, x.a, x.b, x.mould, x.feature, x.number, x.worth⟩ : Claim))) true true (.br (!(named1 s (⟨x.own, 1, x.a, x.b, x.mould, x.feature, x.number, x.worth⟩ : Claim))) (.out (.r0 4)) (.call 163 [.agg c1] (.bool (fine1 (⟨x.own, 1, x.a, x.b, x.mould, x.feature, x.number, x.worth⟩ : Claim))) true true (.br (!(fine1 (⟨x.own, 1, x.a, x.b, x.mould, x.feature, x.number, x.worth⟩ : Claim))) (.out (.r0 2)) (.call 160 [.agg c3, .agg c1] (iI ((fun (_ : Shop) (_ : Claim) => (0 : Int)) s (⟨x.own, 1, x.a, x.b, x.mould, x.feature, x.number, x.worth⟩ : Claim))) true true (.br (decide (((fun (_ : Shop) (_ : Claim) => (0 : Int)) s (⟨x.own, 1, x.a, x.b, x.mould, x.feature, x.number, x.worth⟩ : Claim)) > (0 : Int))) (.call 58 [iI 1, iI ((fun (_ : Shop) (_ : Claim) => (0 : Int)) s (⟨x.own, 1, x.a, x.b, x.mould, x.feature, x.number, x.worth⟩ : Claim)), .list 1 1 (litC 1 1 [iI x.number])] (.bool (outside 1 ((fun (_ : Shop) (_ : Claim) => (0 : Int)) s (⟨x.own, 1, x.a, x.b, x.mould, x.feature, x.number, x.worth⟩ : Claim)) ([x.number] : List Int))) c2 true (.br (outside 1 ((fun (_ : Shop) (_ : Claim) => (0 : Int)) s (⟨x.own, 1, x.a, x.b, x.mould, x.feature, x.number, x.worth⟩ : Claim)) ([x.number] : List Int)) c5 (.out (.r0 0)))) (.lit false (.out (.r0 0))))))))))))))))
noncomputable def g59_1 (s : Shop) (x : Claim) : P59_1 → List Item × St
  | .e => bd Tryz.f59 [.agg [iI s.features, tMould.lst s.moulds, tHead.lst s.heads], .agg [iI x.own, iI 1, iI x.a, iI x.b, iI x.mould, iI x.feature, iI x.number, iI x.worth]] 52
noncomputable def n59_1 : R59_1 → Exit × St
  | .r0 r0 => (.ret, ⟨mk 54 [(4, iI r0)], [], []⟩)
noncomputable def v59_1 : R59_1 → V
  | .r0 r0 => iI r0
theorem s59_1 (s : Shop) (x : Claim) : Sm 0 (g59_1 s x) (T59_1 s x) (n59_1)
  | .e => ⟨400, by kernel_rfl⟩
theorem q59_1 : ∀ r, bodyQ Tryz.prog Tryz.f59 (· = v59_1 r) (n59_1 r).1 (n59_1 r).2
  | .r0 r0 => bq (iI r0) (by kernel_rfl)
theorem w59_1 (s : Shop) (x : Claim) {post : V → Prop} (h : WQ (T59_1 s x) v59_1 post .e) : PC 59 [.agg [iI s.features, tMould.lst s.moulds, tHead.lst s.heads], .agg [iI x.own, iI 1, iI x.a, iI x.b, iI x.mould, iI x.feature, iI x.number, iI x.worth]] post :=
  PCalls.wq Tryz.func59 (s59_1 s x) q59_1 h
theorem c59_1 (s : Shop) (x : Claim) (hk : x.kind = 1) (h1 : s.heads.length ≤ 4) (h2 : s.moulds.length ≤ 2) (h3 : 1 ≤ s.features ∧ s.features ≤ 4) (h4 : ∀ m ∈ s.moulds, 1 ≤ m.casts) : PC 59 [.agg (tShop.cells s), .agg (tClaim.cells x)] (· = iI (claimErr s x)) := by
  obtain ⟨own, kind, a, b, mould, feature, number, worth⟩ := x
  simp only at hk; subst hk
  generalize hx : (⟨own, 1, a, b, mould, feature, number, worth⟩ : Claim) = x
  have hm : named0 s x = true → 1 ≤ most0 s x := fun h => by
    simp only [named0, Bool.and_eq_true, index_iff] at h
    refine h4 _ ?_
    rw [List.getD_eq_getElem?_getD, List.getElem?_eq_getElem (show x.mould.toNat < s.moulds.length by omega)]; exact List.getElem_mem _
  have q1 := c170 s x h1 h2
  have q2 := c162 s x h1
  have q3 := c166 s x h2 h3
  have q4 := c171 x
  have q5 := c163 x
  have q6 := c167 x
  have q7 := c172 s x
  have q8 := c168 s x
  have q9 := c160 s x
  subst hx
  refine w59_1 _ (⟨own, 1, a, b, mould, feature, number, worth⟩ : Claim) (WP.step ?_)
  simp only [T59_1, Go, Ends', v59_1, Tr.sure, SS, outside1]
  repeat' with_reducible first | intro _ | apply And.intro
  all_goals first | exact c58w _ _ _ | exact c122 | exact q2 | exact q5 | exact q9 | (simp [claimErr, named, named0, named1, named4, pair, lasting, spare, fine0, fine1, fine4, most0, Go, Ends', v59_1, -List.getD_eq_getElem?_getD, *]; done) | (simp_all [claimErr, named, named0, named1, named4, pair, lasting, spare, fine0, fine1, fine4, most0, Go, Ends', v59_1, -List.getD_eq_getElem?_getD]; done)
  all_goals clear q1 q2 q3 q4 q5 q6 q7 q8 q9
  all_goals simp only [named0, named1, named4, fine0, fine1, fine4, most0, Bool.and_eq_true, Bool.not_eq_eq_eq_not] at *
  all_goals simp_all [claimErr, named, pair, lasting, spare]
  all_goals try (exfalso; omega)
inductive P59_2
  | e
inductive R59_2
  | r0 (r0 : Int)
noncomputable def T59_2 (s : Shop) (x : Claim) : P59_2 → Tr P59_2 R59_2
  | .e => let c1 : List V := [iI x.own, iI 2, iI x.a, iI x.b, iI x.mould, iI x.feature, iI x.number, iI x.worth]; let c2 := (decide (1 ≤ 1)) && true; let c3 : List V := [iI s.features, tMould.lst s.moulds, tHead.lst s.heads]; let c4 := outside 1 100 ([x.worth] : List Int); let c5 : Tr P59_2 R59_2 := .out (.r0 7); let c6 := outside 0 1 ([x.own] : List Int); let c7 := outside 0 5 ([2] : List Int); (.call 58 [iI 0, iI 1, .list 1 1 (litC 1 1 [iI x.own])] (.bool c6) c2 true (.br c6 (.lit true (.lit true c5)) (.call 58 [iI 1, iI 100, .list 1 1 (litC 1 1 [iI x.worth])] (.bool c4) c2 true (.br c4 (.lit true c5) (.call 58 [iI 0, iI 5, .list 1 1 (litC 1 1 [iI 2])] (.bool c7) c2 true (.br c7 c5 (.front [(0, 122, [], .arr 4 6 (fun r j => kindCells.getD (r * 4 + j) uU))] [] (((decide (0 ≤ (2 : Int)) && decide ((2 : Int) < (6 : Int))) && true) && true) true (.call 162 [.agg c3, .agg c1, rR (fF 159)] (.bool (named1 s (⟨x.own, 2, x.a, x.b, x.mould, x.feature, x.number, x.worth⟩ : Claim))) true true (.br (!(named1 s (⟨x.own, 2, x.a, x.b, x.mould, x.feature, x.number, x.worth⟩ : Claim))) (.out (.r0 4)) (.call 163 [.agg c1] (.bool (fine1 (⟨x.own, 2, x.a, x.b, x.mould, x.feature, x.number, x.worth⟩ : Claim))) true true (.br (!(fine1 (⟨x.own, 2, x.a, x.b, x.mould, x.feature, x.number, x.worth⟩ : Claim))) (.out (.r0 2)) (.call 160 [.agg c3, .agg c1] (iI ((fun (_ : Shop) (_ : Claim) => (0 : Int)) s (⟨x.own, 2, x.a, x.b, x.mould, x.feature, x.number, x.worth⟩ : Claim))) true true (.br (decide (((fun (_ : Shop) (_ : Claim) => (0 : Int)) s (⟨x.own, 2, x.a, x.b, x.mould, x.feature, x.number, x.worth⟩ : Claim)) > (0 : Int))) (.call 58 [iI 1, iI ((fun (_ : Shop) (_ : Claim) => (0 : Int)) s (⟨x.own, 2, x.a, x.b, x.mould, x.feature, x.number, x.worth⟩ : Claim)), .list 1 1 (litC 1 1 [iI x.number])] (.bool (outside 1 ((fun (_ : Shop) (_ : Claim) => (0 : Int)) s (⟨x.own, 2, x.a, x.b, x.mould, x.feature, x.number, x.worth⟩ : Claim)) ([x.number] : List Int))) c2 true (.br (outside 1 ((fun (_ : Shop) (_ : Claim) => (0 : Int)) s (⟨x.own, 2, x.a, x.b, x.mould, x.feature, x.number, x.worth⟩ : Claim)) ([x.number] : List Int)) c5 (.out (.r0 0)))) (.lit false (.out (.r0 0))))))))))))))))
noncomputable def g59_2 (s : Shop) (x : Claim) : P59_2 → List Item × St
  | .e => bd Tryz.f59 [.agg [iI s.features, tMould.lst s.moulds, tHead.lst s.heads], .agg [iI x.own, iI 2, iI x.a, iI x.b, iI x.mould, iI x.feature, iI x.number, iI x.worth]] 52
noncomputable def n59_2 : R59_2 → Exit × St
  | .r0 r0 => (.ret, ⟨mk 54 [(4, iI r0)], [], []⟩)
noncomputable def v59_2 : R59_2 → V
  | .r0 r0 => iI r0
theorem s59_2 (s : Shop) (x : Claim) : Sm 0 (g59_2 s x) (T59_2 s x) (n59_2)
  | .e => ⟨400, by kernel_rfl⟩
theorem q59_2 : ∀ r, bodyQ Tryz.prog Tryz.f59 (· = v59_2 r) (n59_2 r).1 (n59_2 r).2
  | .r0 r0 => bq (iI r0) (by kernel_rfl)
theorem w59_2 (s : Shop) (x : Claim) {post : V → Prop} (h : WQ (T59_2 s x) v59_2 post .e) : PC 59 [.agg [iI s.features, tMould.lst s.moulds, tHead.lst s.heads], .agg [iI x.own, iI 2, iI x.a, iI x.b, iI x.mould, iI x.feature, iI x.number, iI x.worth]] post :=
  PCalls.wq Tryz.func59 (s59_2 s x) q59_2 h
theorem c59_2 (s : Shop) (x : Claim) (hk : x.kind = 2) (h1 : s.heads.length ≤ 4) (h2 : s.moulds.length ≤ 2) (h3 : 1 ≤ s.features ∧ s.features ≤ 4) (h4 : ∀ m ∈ s.moulds, 1 ≤ m.casts) : PC 59 [.agg (tShop.cells s), .agg (tClaim.cells x)] (· = iI (claimErr s x)) := by
  obtain ⟨own, kind, a, b, mould, feature, number, worth⟩ := x
  simp only at hk; subst hk
  generalize hx : (⟨own, 2, a, b, mould, feature, number, worth⟩ : Claim) = x
  have hm : named0 s x = true → 1 ≤ most0 s x := fun h => by
    simp only [named0, Bool.and_eq_true, index_iff] at h
    refine h4 _ ?_
    rw [List.getD_eq_getElem?_getD, List.getElem?_eq_getElem (show x.mould.toNat < s.moulds.length by omega)]; exact List.getElem_mem _
  have q1 := c170 s x h1 h2
  have q2 := c162 s x h1
  have q3 := c166 s x h2 h3
  have q4 := c171 x
  have q5 := c163 x
  have q6 := c167 x
  have q7 := c172 s x
  have q8 := c168 s x
  have q9 := c160 s x
  subst hx
  refine w59_2 _ (⟨own, 2, a, b, mould, feature, number, worth⟩ : Claim) (WP.step ?_)
  simp only [T59_2, Go, Ends', v59_2, Tr.sure, SS, outside1]
  repeat' with_reducible first | intro _ | apply And.intro
  all_goals first | exact c58w _ _ _ | exact c122 | exact q2 | exact q5 | exact q9 | (simp [claimErr, named, named0, named1, named4, pair, lasting, spare, fine0, fine1, fine4, most0, Go, Ends', v59_2, -List.getD_eq_getElem?_getD, *]; done) | (simp_all [claimErr, named, named0, named1, named4, pair, lasting, spare, fine0, fine1, fine4, most0, Go, Ends', v59_2, -List.getD_eq_getElem?_getD]; done)
  all_goals clear q1 q2 q3 q4 q5 q6 q7 q8 q9
  all_goals simp only [named0, named1, named4, fine0, fine1, fine4, most0, Bool.and_eq_true, Bool.not_eq_eq_eq_not] at *
  all_goals simp_all [claimErr, named, pair, lasting, spare]
  all_goals try (exfalso; omega)
inductive P59_3
  | e
inductive R59_3
  | r0 (r0 : Int)
noncomputable def T59_3 (s : Shop) (x : Claim) : P59_3 → Tr P59_3 R59_3
  | .e => let c1 : List V := [iI x.own, iI 3, iI x.a, iI x.b, iI x.mould, iI x.feature, iI x.number, iI x.worth]; let c2 := (decide (1 ≤ 1)) && true; let c3 : List V := [iI s.features, tMould.lst s.moulds, tHead.lst s.heads]; let c4 := outside 1 100 ([x.worth] : List Int); let c5 : Tr P59_3 R59_3 := .out (.r0 7); let c6 := outside 0 1 ([x.own] : List Int); let c7 := outside 0 5 ([3] : List Int); (.call 58 [iI 0, iI 1, .list 1 1 (litC 1 1 [iI x.own])] (.bool c6) c2 true (.br c6 (.lit true (.lit true c5)) (.call 58 [iI 1, iI 100, .list 1 1 (litC 1 1 [iI x.worth])] (.bool c4) c2 true (.br c4 (.lit true c5) (.call 58 [iI 0, iI 5, .list 1 1 (litC 1 1 [iI 3])] (.bool c7) c2 true (.br c7 c5 (.front [(0, 122, [], .arr 4 6 (fun r j => kindCells.getD (r * 4 + j) uU))] [] (((decide (0 ≤ (3 : Int)) && decide ((3 : Int) < (6 : Int))) && true) && true) true (.call 162 [.agg c3, .agg c1, rR (fF 159)] (.bool (named1 s (⟨x.own, 3, x.a, x.b, x.mould, x.feature, x.number, x.worth⟩ : Claim))) true true (.br (!(named1 s (⟨x.own, 3, x.a, x.b, x.mould, x.feature, x.number, x.worth⟩ : Claim))) (.out (.r0 4)) (.call 163 [.agg c1] (.bool (fine1 (⟨x.own, 3, x.a, x.b, x.mould, x.feature, x.number, x.worth⟩ : Claim))) true true (.br (!(fine1 (⟨x.own, 3, x.a, x.b, x.mould, x.feature, x.number, x.worth⟩ : Claim))) (.out (.r0 2)) (.call 160 [.agg c3, .agg c1] (iI ((fun (_ : Shop) (_ : Claim) => (0 : Int)) s (⟨x.own, 3, x.a, x.b, x.mould, x.feature, x.number, x.worth⟩ : Claim))) true true (.br (decide (((fun (_ : Shop) (_ : Claim) => (0 : Int)) s (⟨x.own, 3, x.a, x.b, x.mould, x.feature, x.number, x.worth⟩ : Claim)) > (0 : Int))) (.call 58 [iI 1, iI ((fun (_ : Shop) (_ : Claim) => (0 : Int)) s (⟨x.own, 3, x.a, x.b, x.mould, x.feature, x.number, x.worth⟩ : Claim)), .list 1 1 (litC 1 1 [iI x.number])] (.bool (outside 1 ((fun (_ : Shop) (_ : Claim) => (0 : Int)) s (⟨x.own, 3, x.a, x.b, x.mould, x.feature, x.number, x.worth⟩ : Claim)) ([x.number] : List Int))) c2 true (.br (outside 1 ((fun (_ : Shop) (_ : Claim) => (0 : Int)) s (⟨x.own, 3, x.a, x.b, x.mould, x.feature, x.number, x.worth⟩ : Claim)) ([x.number] : List Int)) c5 (.out (.r0 0)))) (.lit false (.out (.r0 0))))))))))))))))
noncomputable def g59_3 (s : Shop) (x : Claim) : P59_3 → List Item × St
  | .e => bd Tryz.f59 [.agg [iI s.features, tMould.lst s.moulds, tHead.lst s.heads], .agg [iI x.own, iI 3, iI x.a, iI x.b, iI x.mould, iI x.feature, iI x.number, iI x.worth]] 52
noncomputable def n59_3 : R59_3 → Exit × St
  | .r0 r0 => (.ret, ⟨mk 54 [(4, iI r0)], [], []⟩)
noncomputable def v59_3 : R59_3 → V
  | .r0 r0 => iI r0
theorem s59_3 (s : Shop) (x : Claim) : Sm 0 (g59_3 s x) (T59_3 s x) (n59_3)
  | .e => ⟨400, by kernel_rfl⟩
theorem q59_3 : ∀ r, bodyQ Tryz.prog Tryz.f59 (· = v59_3 r) (n59_3 r).1 (n59_3 r).2
  | .r0 r0 => bq (iI r0) (by kernel_rfl)
theorem w59_3 (s : Shop) (x : Claim) {post : V → Prop} (h : WQ (T59_3 s x) v59_3 post .e) : PC 59 [.agg [iI s.features, tMould.lst s.moulds, tHead.lst s.heads], .agg [iI x.own, iI 3, iI x.a, iI x.b, iI x.mould, iI x.feature, iI x.number, iI x.worth]] post :=
  PCalls.wq Tryz.func59 (s59_3 s x) q59_3 h
theorem c59_3 (s : Shop) (x : Claim) (hk : x.kind = 3) (h1 : s.heads.length ≤ 4) (h2 : s.moulds.length ≤ 2) (h3 : 1 ≤ s.features ∧ s.features ≤ 4) (h4 : ∀ m ∈ s.moulds, 1 ≤ m.casts) : PC 59 [.agg (tShop.cells s), .agg (tClaim.cells x)] (· = iI (claimErr s x)) := by
  obtain ⟨own, kind, a, b, mould, feature, number, worth⟩ := x
  simp only at hk; subst hk
  generalize hx : (⟨own, 3, a, b, mould, feature, number, worth⟩ : Claim) = x
  have hm : named0 s x = true → 1 ≤ most0 s x := fun h => by
    simp only [named0, Bool.and_eq_true, index_iff] at h
    refine h4 _ ?_
    rw [List.getD_eq_getElem?_getD, List.getElem?_eq_getElem (show x.mould.toNat < s.moulds.length by omega)]; exact List.getElem_mem _
  have q1 := c170 s x h1 h2
  have q2 := c162 s x h1
  have q3 := c166 s x h2 h3
  have q4 := c171 x
  have q5 := c163 x
  have q6 := c167 x
  have q7 := c172 s x
  have q8 := c168 s x
  have q9 := c160 s x
  subst hx
  refine w59_3 _ (⟨own, 3, a, b, mould, feature, number, worth⟩ : Claim) (WP.step ?_)
  simp only [T59_3, Go, Ends', v59_3, Tr.sure, SS, outside1]
  repeat' with_reducible first | intro _ | apply And.intro
  all_goals first | exact c58w _ _ _ | exact c122 | exact q2 | exact q5 | exact q9 | (simp [claimErr, named, named0, named1, named4, pair, lasting, spare, fine0, fine1, fine4, most0, Go, Ends', v59_3, -List.getD_eq_getElem?_getD, *]; done) | (simp_all [claimErr, named, named0, named1, named4, pair, lasting, spare, fine0, fine1, fine4, most0, Go, Ends', v59_3, -List.getD_eq_getElem?_getD]; done)
  all_goals clear q1 q2 q3 q4 q5 q6 q7 q8 q9
  all_goals simp only [named0, named1, named4, fine0, fine1, fine4, most0, Bool.and_eq_true, Bool.not_eq_eq_eq_not] at *
  all_goals simp_all [claimErr, named, pair, lasting, spare]
  all_goals try (exfalso; omega)
inductive P59_4
  | e
inductive R59_4
  | r0 (r0 : Int)
noncomputable def T59_4 (s : Shop) (x : Claim) : P59_4 → Tr P59_4 R59_4
  | .e => let c1 : List V := [iI x.own, iI 4, iI x.a, iI x.b, iI x.mould, iI x.feature, iI x.number, iI x.worth]; let c2 := (decide (1 ≤ 1)) && true; let c3 : List V := [.agg [iI s.features, tMould.lst s.moulds, tHead.lst s.heads], .agg c1]; let c4 := outside 1 100 ([x.worth] : List Int); let c5 : Tr P59_4 R59_4 := .out (.r0 7); let c6 := outside 0 1 ([x.own] : List Int); let c7 := outside 0 5 ([4] : List Int); (.call 58 [iI 0, iI 1, .list 1 1 (litC 1 1 [iI x.own])] (.bool c6) c2 true (.br c6 (.lit true (.lit true c5)) (.call 58 [iI 1, iI 100, .list 1 1 (litC 1 1 [iI x.worth])] (.bool c4) c2 true (.br c4 (.lit true c5) (.call 58 [iI 0, iI 5, .list 1 1 (litC 1 1 [iI 4])] (.bool c7) c2 true (.br c7 c5 (.front [(0, 122, [], .arr 4 6 (fun r j => kindCells.getD (r * 4 + j) uU))] [] (((decide (0 ≤ (4 : Int)) && decide ((4 : Int) < (6 : Int))) && true) && true) true (.call 166 c3 (.bool (named4 s (⟨x.own, 4, x.a, x.b, x.mould, x.feature, x.number, x.worth⟩ : Claim))) true true (.br (!(named4 s (⟨x.own, 4, x.a, x.b, x.mould, x.feature, x.number, x.worth⟩ : Claim))) (.out (.r0 4)) (.call 167 [.agg c1] (.bool (fine4 (⟨x.own, 4, x.a, x.b, x.mould, x.feature, x.number, x.worth⟩ : Claim))) true true (.br (!(fine4 (⟨x.own, 4, x.a, x.b, x.mould, x.feature, x.number, x.worth⟩ : Claim))) (.out (.r0 2)) (.call 168 c3 (iI ((fun (_ : Shop) (_ : Claim) => (6 : Int)) s (⟨x.own, 4, x.a, x.b, x.mould, x.feature, x.number, x.worth⟩ : Claim))) true true (.br (decide (((fun (_ : Shop) (_ : Claim) => (6 : Int)) s (⟨x.own, 4, x.a, x.b, x.mould, x.feature, x.number, x.worth⟩ : Claim)) > (0 : Int))) (.call 58 [iI 1, iI ((fun (_ : Shop) (_ : Claim) => (6 : Int)) s (⟨x.own, 4, x.a, x.b, x.mould, x.feature, x.number, x.worth⟩ : Claim)), .list 1 1 (litC 1 1 [iI x.number])] (.bool (outside 1 ((fun (_ : Shop) (_ : Claim) => (6 : Int)) s (⟨x.own, 4, x.a, x.b, x.mould, x.feature, x.number, x.worth⟩ : Claim)) ([x.number] : List Int))) c2 true (.br (outside 1 ((fun (_ : Shop) (_ : Claim) => (6 : Int)) s (⟨x.own, 4, x.a, x.b, x.mould, x.feature, x.number, x.worth⟩ : Claim)) ([x.number] : List Int)) c5 (.out (.r0 0)))) (.lit false (.out (.r0 0))))))))))))))))
noncomputable def g59_4 (s : Shop) (x : Claim) : P59_4 → List Item × St
  | .e => bd Tryz.f59 [.agg [iI s.features, tMould.lst s.moulds, tHead.lst s.heads], .agg [iI x.own, iI 4, iI x.a, iI x.b, iI x.mould, iI x.feature, iI x.number, iI x.worth]] 52
noncomputable def n59_4 : R59_4 → Exit × St
  | .r0 r0 => (.ret, ⟨mk 54 [(4, iI r0)], [], []⟩)
noncomputable def v59_4 : R59_4 → V
  | .r0 r0 => iI r0
theorem s59_4 (s : Shop) (x : Claim) : Sm 0 (g59_4 s x) (T59_4 s x) (n59_4)
  | .e => ⟨400, by kernel_rfl⟩
theorem q59_4 : ∀ r, bodyQ Tryz.prog Tryz.f59 (· = v59_4 r) (n59_4 r).1 (n59_4 r).2
  | .r0 r0 => bq (iI r0) (by kernel_rfl)
theorem w59_4 (s : Shop) (x : Claim) {post : V → Prop} (h : WQ (T59_4 s x) v59_4 post .e) : PC 59 [.agg [iI s.features, tMould.lst s.moulds, tHead.lst s.heads], .agg [iI x.own, iI 4, iI x.a, iI x.b, iI x.mould, iI x.feature, iI x.number, iI x.worth]] post :=
  PCalls.wq Tryz.func59 (s59_4 s x) q59_4 h
theorem c59_4 (s : Shop) (x : Claim) (hk : x.kind = 4) (h1 : s.heads.length ≤ 4) (h2 : s.moulds.length ≤ 2) (h3 : 1 ≤ s.features ∧ s.features ≤ 4) (h4 : ∀ m ∈ s.moulds, 1 ≤ m.casts) : PC 59 [.agg (tShop.cells s), .agg (tClaim.cells x)] (· = iI (claimErr s x)) := by
  obtain ⟨own, kind, a, b, mould, feature, number, worth⟩ := x
  simp only at hk; subst hk
  generalize hx : (⟨own, 4, a, b, mould, feature, number, worth⟩ : Claim) = x
  have hm : named0 s x = true → 1 ≤ most0 s x := fun h => by
    simp only [named0, Bool.and_eq_true, index_iff] at h
    refine h4 _ ?_
    rw [List.getD_eq_getElem?_getD, List.getElem?_eq_getElem (show x.mould.toNat < s.moulds.length by omega)]; exact List.getElem_mem _
  have q1 := c170 s x h1 h2
  have q2 := c162 s x h1
  have q3 := c166 s x h2 h3
  have q4 := c171 x
  have q5 := c163 x
  have q6 := c167 x
  have q7 := c172 s x
  have q8 := c168 s x
  have q9 := c160 s x
  subst hx
  refine w59_4 _ (⟨own, 4, a, b, mould, feature, number, worth⟩ : Claim) (WP.step ?_)
  simp only [T59_4, Go, Ends', v59_4, Tr.sure, SS, outside1]
  repeat' with_reducible first | intro _ | apply And.intro
  all_goals first | exact c58w _ _ _ | exact c122 | exact q3 | exact q6 | exact q8 | (simp [claimErr, named, named0, named1, named4, pair, lasting, spare, fine0, fine1, fine4, most0, Go, Ends', v59_4, -List.getD_eq_getElem?_getD, *]; done) | (simp_all [claimErr, named, named0, named1, named4, pair, lasting, spare, fine0, fine1, fine4, most0, Go, Ends', v59_4, -List.getD_eq_getElem?_getD]; done)
  all_goals clear q1 q2 q3 q4 q5 q6 q7 q8 q9
  all_goals simp only [named0, named1, named4, fine0, fine1, fine4, most0, Bool.and_eq_true, Bool.not_eq_eq_eq_not] at *
  all_goals simp_all [claimErr, named, pair, lasting, spare]
  all_goals try (exfalso; omega)
inductive P59_5
  | e
inductive R59_5
  | r0 (r0 : Int)
noncomputable def T59_5 (s : Shop) (x : Claim) : P59_5 → Tr P59_5 R59_5
  | .e => let c1 : List V := [iI x.own, iI 5, iI x.a, iI x.b, iI x.mould, iI x.feature, iI x.number, iI x.worth]; let c2 := (decide (1 ≤ 1)) && true; let c3 : List V := [.agg [iI s.features, tMould.lst s.moulds, tHead.lst s.heads], .agg c1]; let c4 := outside 1 100 ([x.worth] : List Int); let c5 : Tr P59_5 R59_5 := .out (.r0 7); let c6 := outside 0 1 ([x.own] : List Int); let c7 := outside 0 5 ([5] : List Int); (.call 58 [iI 0, iI 1, .list 1 1 (litC 1 1 [iI x.own])] (.bool c6) c2 true (.br c6 (.lit true (.lit true c5)) (.call 58 [iI 1, iI 100, .list 1 1 (litC 1 1 [iI x.worth])] (.bool c4) c2 true (.br c4 (.lit true c5) (.call 58 [iI 0, iI 5, .list 1 1 (litC 1 1 [iI 5])] (.bool c7) c2 true (.br c7 c5 (.front [(0, 122, [], .arr 4 6 (fun r j => kindCells.getD (r * 4 + j) uU))] [] (((decide (0 ≤ (5 : Int)) && decide ((5 : Int) < (6 : Int))) && true) && true) true (.call 166 c3 (.bool (named4 s (⟨x.own, 5, x.a, x.b, x.mould, x.feature, x.number, x.worth⟩ : Claim))) true true (.br (!(named4 s (⟨x.own, 5, x.a, x.b, x.mould, x.feature, x.number, x.worth⟩ : Claim))) (.out (.r0 4)) (.call 167 [.agg c1] (.bool (fine4 (⟨x.own, 5, x.a, x.b, x.mould, x.feature, x.number, x.worth⟩ : Claim))) true true (.br (!(fine4 (⟨x.own, 5, x.a, x.b, x.mould, x.feature, x.number, x.worth⟩ : Claim))) (.out (.r0 2)) (.call 168 c3 (iI ((fun (_ : Shop) (_ : Claim) => (6 : Int)) s (⟨x.own, 5, x.a, x.b, x.mould, x.feature, x.number, x.worth⟩ : Claim))) true true (.br (decide (((fun (_ : Shop) (_ : Claim) => (6 : Int)) s (⟨x.own, 5, x.a, x.b, x.mould, x.feature, x.number, x.worth⟩ : Claim)) > (0 : Int))) (.call 58 [iI 1, iI ((fun (_ : Shop) (_ : Claim) => (6 : Int)) s (⟨x.own, 5, x.a, x.b, x.mould, x.feature, x.number, x.worth⟩ : Claim)), .list 1 1 (litC 1 1 [iI x.number])] (.bool (outside 1 ((fun (_ : Shop) (_ : Claim) => (6 : Int)) s (⟨x.own, 5, x.a, x.b, x.mould, x.feature, x.number, x.worth⟩ : Claim)) ([x.number] : List Int))) c2 true (.br (outside 1 ((fun (_ : Shop) (_ : Claim) => (6 : Int)) s (⟨x.own, 5, x.a, x.b, x.mould, x.feature, x.number, x.worth⟩ : Claim)) ([x.number] : List Int)) c5 (.out (.r0 0)))) (.lit false (.out (.r0 0))))))))))))))))
noncomputable def g59_5 (s : Shop) (x : Claim) : P59_5 → List Item × St
  | .e => bd Tryz.f59 [.agg [iI s.features, tMould.lst s.moulds, tHead.lst s.heads], .agg [iI x.own, iI 5, iI x.a, iI x.b, iI x.mould, iI x.feature, iI x.number, iI x.worth]] 52
noncomputable def n59_5 : R59_5 → Exit × St
  | .r0 r0 => (.ret, ⟨mk 54 [(4, iI r0)], [], []⟩)
noncomputable def v59_5 : R59_5 → V
  | .r0 r0 => iI r0
theorem s59_5 (s : Shop) (x : Claim) : Sm 0 (g59_5 s x) (T59_5 s x) (n59_5)
  | .e => ⟨400, by kernel_rfl⟩
theorem q59_5 : ∀ r, bodyQ Tryz.prog Tryz.f59 (· = v59_5 r) (n59_5 r).1 (n59_5 r).2
  | .r0 r0 => bq (iI r0) (by kernel_rfl)
theorem w59_5 (s : Shop) (x : Claim) {post : V → Prop} (h : WQ (T59_5 s x) v59_5 post .e) : PC 59 [.agg [iI s.features, tMould.lst s.moulds, tHead.lst s.heads], .agg [iI x.own, iI 5, iI x.a, iI x.b, iI x.mould, iI x.feature, iI x.number, iI x.worth]] post :=
  PCalls.wq Tryz.func59 (s59_5 s x) q59_5 h
theorem c59_5 (s : Shop) (x : Claim) (hk : x.kind = 5) (h1 : s.heads.length ≤ 4) (h2 : s.moulds.length ≤ 2) (h3 : 1 ≤ s.features ∧ s.features ≤ 4) (h4 : ∀ m ∈ s.moulds, 1 ≤ m.casts) : PC 59 [.agg (tShop.cells s), .agg (tClaim.cells x)] (· = iI (claimErr s x)) := by
  obtain ⟨own, kind, a, b, mould, feature, number, worth⟩ := x
  simp only at hk; subst hk
  generalize hx : (⟨own, 5, a, b, mould, feature, number, worth⟩ : Claim) = x
  have hm : named0 s x = true → 1 ≤ most0 s x := fun h => by
    simp only [named0, Bool.and_eq_true, index_iff] at h
    refine h4 _ ?_
    rw [List.getD_eq_getElem?_getD, List.getElem?_eq_getElem (show x.mould.toNat < s.moulds.length by omega)]; exact List.getElem_mem _
  have q1 := c170 s x h1 h2
  have q2 := c162 s x h1
  have q3 := c166 s x h2 h3
  have q4 := c171 x
  have q5 := c163 x
  have q6 := c167 x
  have q7 := c172 s x
  have q8 := c168 s x
  have q9 := c160 s x
  subst hx
  refine w59_5 _ (⟨own, 5, a, b, mould, feature, number, worth⟩ : Claim) (WP.step ?_)
  simp only [T59_5, Go, Ends', v59_5, Tr.sure, SS, outside1]
  repeat' with_reducible first | intro _ | apply And.intro
  all_goals first | exact c58w _ _ _ | exact c122 | exact q3 | exact q6 | exact q8 | (simp [claimErr, named, named0, named1, named4, pair, lasting, spare, fine0, fine1, fine4, most0, Go, Ends', v59_5, -List.getD_eq_getElem?_getD, *]; done) | (simp_all [claimErr, named, named0, named1, named4, pair, lasting, spare, fine0, fine1, fine4, most0, Go, Ends', v59_5, -List.getD_eq_getElem?_getD]; done)
  all_goals clear q1 q2 q3 q4 q5 q6 q7 q8 q9
  all_goals simp only [named0, named1, named4, fine0, fine1, fine4, most0, Bool.and_eq_true, Bool.not_eq_eq_eq_not] at *
  all_goals simp_all [claimErr, named, pair, lasting, spare]
  all_goals try (exfalso; omega)
theorem c59 (s : Shop) (x : Claim) (h1 : s.heads.length ≤ 4) (h2 : s.moulds.length ≤ 2) (h3 : 1 ≤ s.features ∧ s.features ≤ 4) (h4 : ∀ m ∈ s.moulds, 1 ≤ m.casts) : PC 59 [.agg (tShop.cells s), .agg (tClaim.cells x)] (· = iI (claimErr s x)) := by
  by_cases hk : within x.kind 0 5 = true
  · rw [within_iff] at hk
    rcases show x.kind = 0 ∨ x.kind = 1 ∨ x.kind = 2 ∨ x.kind = 3 ∨ x.kind = 4 ∨ x.kind = 5 by omega with h | h | h | h | h | h
    · exact c59_0 s x h h1 h2 h3 h4
    · exact c59_1 s x h h1 h2 h3 h4
    · exact c59_2 s x h h1 h2 h3 h4
    · exact c59_3 s x h h1 h2 h3 h4
    · exact c59_4 s x h h1 h2 h3 h4
    · exact c59_5 s x h h1 h2 h3 h4
  · exact c59x s x (by simpa using hk)
inductive P16
  | e
  | l0 (x0_30 : Int)
  | l1 (x1_4 : Int) (x1_47 : Int)
inductive R16
  | r0 (r0 : Int) (r1 : Int) (r2 : Int)
noncomputable def T16 (p0 : Case) : P16 → Tr P16 R16
  | .e => let c1 := shopCheck p0.shop; (.call 57 [.agg [iI p0.shop.features, tMould.lst p0.shop.moulds, tHead.lst p0.shop.heads]] (.tuple [iI (c1.1), iI (c1.2.1), iI (c1.2.2)]) true true (.br (c1.2.2 != (0 : Int)) (.out (.r0 1 0 (c1.2.2))) (.br ((p0.owners.length : Int) != (p0.shop.heads.length : Int)) (.out (.r0 2 0 3)) (.go (.l0 0)))))
  | .l0 x0_30 => let c1 := p0.owners.getD (x0_30).toNat tint.zero; let c2 := x0_30 < (p0.owners.length : Int); let c3 := outside 0 1 ([c1] : List Int); (.br (decide c2) (.need (decide (0 ≤ x0_30) && decide c2) (.call 58 [iI 0, iI 1, .list 1 1 (litC 1 1 [iI c1])] (.bool c3) ((decide (1 ≤ 1)) && true) true (.br c3 (.out (.r0 2 x0_30 7)) (.need (inR .i64 (x0_30 + (1 : Int))) (.go (.l0 (x0_30 + (1 : Int)))))))) (.br (decide ((p0.claims.length : Int) > (5 : Int))) (.out (.r0 3 0 3)) (.go (.l1 ((shopCheck p0.shop).2.2) 0))))
  | .l1 x1_4 x1_47 => let c1 := p0.claims.getD (x1_47).toNat tClaim.zero; let c2 := claimErr p0.shop c1; let c3 := x1_47 < (p0.claims.length : Int); (.br (decide c3) (.need (decide (0 ≤ x1_47) && decide c3) (.call 59 [.agg [iI p0.shop.features, tMould.lst p0.shop.moulds, tHead.lst p0.shop.heads], .agg [iI (c1.own), iI (c1.kind), iI (c1.a), iI (c1.b), iI (c1.mould), iI (c1.feature), iI (c1.number), iI (c1.worth)]] (iI c2) true true (.br (c2 != (0 : Int)) (.out (.r0 3 x1_47 c2)) (.need (inR .i64 (x1_47 + (1 : Int))) (.go (.l1 c2 (x1_47 + (1 : Int)))))))) (.out (.r0 0 0 0)))
noncomputable def g16 (p0 : Case) : P16 → List Item × St
  | .e => bd Tryz.f16 [.agg (cC p0)] 60
  | .l0 x0_30 => (cutOf Tryz.f16 0, ⟨mk 61 [(1, .ref 0 0 0), (2, iI 0), (3, iI 0), (4, iI ((shopCheck p0.shop).2.2)), (28, tint.lst p0.owners), (29, iI (p0.owners.length : Int)), (30, iI x0_30)], [.cells (cC p0)], []⟩)
  | .l1 x1_4 x1_47 => (cutOf Tryz.f16 1, ⟨mk 61 [(1, .ref 0 0 0), (2, iI 0), (3, iI 0), (4, iI x1_4), (45, tClaim.lst p0.claims), (46, iI (p0.claims.length : Int)), (47, iI x1_47)], [.cells (cC p0)], []⟩)
noncomputable def n16 : R16 → Exit × St
  | .r0 r0 r1 r2 => (.ret, ⟨mk 61 [(2, iI r0), (3, iI r1), (4, iI r2)], [], []⟩)
noncomputable def v16 : R16 → V
  | .r0 r0 r1 r2 => .tuple [iI r0, iI r1, iI r2]
theorem s16 (p0 : Case) : Sm 0 (g16 p0) (T16 p0) (n16)
  | .e => ⟨400, by kernel_rfl⟩
  | .l0 _ => ⟨400, by kernel_rfl⟩
  | .l1 _ _ => ⟨400, by kernel_rfl⟩
theorem q16 : ∀ r, bodyQ Tryz.prog Tryz.f16 (· = v16 r) (n16 r).1 (n16 r).2
  | .r0 r0 r1 r2 => bq (.tuple [iI r0, iI r1, iI r2]) (by kernel_rfl)
theorem w16 (p0 : Case) {post : V → Prop} (h : WQ (T16 p0) v16 post .e) : PC 16 [.agg (cC p0)] post :=
  PCalls.wq Tryz.func16 (s16 p0) q16 h
theorem c16 (c : Case) : PC 16 [.agg (tCase.cells c)] (· = .tuple [iI (caseCheck c).1, iI (caseCheck c).2.1, iI (caseCheck c).2.2]) := by
  refine w16 _ (WP.step ?_)
  simp only [T16, Go, Ends', v16, Tr.sure, SS]
  repeat' with_reducible first | intro _ | apply And.intro
  all_goals first | exact c57 _ | (simp [caseCheck, Go, Ends', v16, -List.getD_eq_getElem?_getD, *]; done) | skip
  rename_i h1 h2
  obtain ⟨o2, o3, o4, om, -⟩ := okShop h1
  refine WP.findE (fun i => .l0 i) rfl c.owners 0 (fun _ n => if within n 0 1 = true then 0 else 7) (fun i hi => ?_) fun hI => ?_
  · have hr : inR .i64 ((i : Int) + 1) = true := inR64 (by omega) (by omega)
    refine WP.once ?_
    simp only [T16, Tr.sure, SS, hi, z1, outside1]
    repeat' with_reducible first | intro _ | apply And.intro
    all_goals first | exact c58w _ _ _ | (simp [hr, caseCheck, Go, Ends', v16, -List.getD_eq_getElem?_getD, *]; done) | (simp_all [hr, caseCheck, Go, Ends', v16, -List.getD_eq_getElem?_getD]; done)
  · refine WP.step ?_
    simp only [T16, Go, Ends', v16, Tr.sure, SS]
    repeat' with_reducible first | intro _ | apply And.intro
    all_goals first | (simp [caseCheck, hI, Go, Ends', v16, -List.getD_eq_getElem?_getD, *]; done) | skip
    rename_i h3
    refine WP.findE (fun i => .l1 0 i) (by rw [h1]; rfl) c.claims tClaim.zero (fun _ x => claimErr c.shop x) (fun i hi => ?_) fun hJ => ?_
    · have hr : inR .i64 ((i : Int) + 1) = true := inR64 (by omega) (by omega)
      refine WP.once ?_
      simp only [T16, Tr.sure, SS, hi]
      repeat' with_reducible first | intro _ | apply And.intro
      all_goals first | exact c59 _ _ o4 o3 o2 (fun m hm => (om m hm).1.1) | (simp [hr, caseCheck, hI, Go, Ends', v16, -List.getD_eq_getElem?_getD, *]; done) | (simp +contextual [hr, caseCheck, hI, Go, Ends', v16, -List.getD_eq_getElem?_getD, *]; done)
    · refine WP.step ?_
      simp only [T16, Go, Ends', v16, Tr.sure, SS]
      repeat' with_reducible first | intro _ | apply And.intro
      all_goals simp [caseCheck, hI, hJ, Go, Ends', v16, -List.getD_eq_getElem?_getD, *]
end
noncomputable section
theorem cast_beq (a b : Cast) : (a == b) = (a.mould == b.mould && a.number == b.number) := by
  obtain ⟨a1, a2⟩ := a; obtain ⟨b1, b2⟩ := b
  rw [Bool.eq_iff_iff]; simp
end
noncomputable section
theorem tel_lit {τ : Type} (E : Ty τ) (xs : List τ) {w n : Nat} {cs : List V} (hn : n = xs.length) (hc : xs.flatMap E.cells = cs) (hw : ∀ x, (E.cells x).length = E.w) (hww : w = E.w := by rfl) {r j : Nat} (hr : r < n) (hj : j < w) : VLe (litC w n cs r j) (rowsOf E xs r j) := by
  subst hww; subst hn; subst hc
  rw [litC_eq hr, flatMap_get E hw xs r j hr hj]; exact VLe.refl _
theorem tel_one {τ : Type} (E : Ty τ) (l : List τ) {n : Nat} (hn : l.length = n) : VLe (.list E.w n (rowsOf E l)) (E.lst l) := by subst hn; exact VLe.refl _
theorem underL_int (n : Int) : underL 0 [iI n] = true := rfl
end
noncomputable section
theorem VLe.app0 {c0 c : Nat → Nat → V} (r j : Nat) : VLe (appC 0 c0 c r j) (c r j) := by
  have : appC 0 c0 c r j = c r j := by unfold appC; rw [if_neg (Nat.not_lt_zero r), Nat.sub_zero]
  rw [this]; exact VLe.refl _
inductive P146
  | e
inductive R146
  | r0 (r0 : List Head)
  | r1 (r0 : List Head)
noncomputable def T146 (p0 : List Head) : P146 → Tr P146 R146
  | .e => let c1 := rowsOf tHead p0; (.wait 2 (.own 2 78 2 (.telb 0 2 0 (rowsRev tHead ([])) c1 (.semn (opAt Tryz.f146 1 1) [(.tmp 3, tHead.lst p0)] [.rows 78 2 0 c1] (if p0.length = 0 then 2 else 1) (fun j => .bool (decide (j = 1))) (fun j => [.rows 78 2 0 c1]) true (fun j => (.br (decide (j = 1)) (.wait 2 (.own 2 78 2 (.telb 1 2 0 (rowsRev tHead ([])) c1 (.out (.r0 p0))))) (.need ((decide (0 = 0) && decide (0 + p0.length ≤ 4294967296)) && true) (.scal (fun r => (List.range 2).all fun j => (c1 r j).scalar) (.telb 1 2 (0 + p0.length) (appC 0 (litC 2 0 []) c1) c1 (.out (.r1 p0)))))))))))
noncomputable def g146 (p0 : List Head) : P146 → List Item × St
  | .e => bd Tryz.f146 [tHead.lst p0] 7
noncomputable def n146 (p0 : List Head) : R146 → Exit × St
  | .r0 r0 => (.ret, ⟨mk 8 [(2, .row 1 0)], [.gone, .rows 78 2 0 (rowsOf tHead r0)], []⟩)
  | .r1 r0 => (.ret, ⟨mk 8 [(2, .row 1 (0 + p0.length))], [.gone, .rows 78 2 (0 + p0.length) (rowsOf tHead r0)], []⟩)
theorem s146 (p0 : List Head) : Sm 0 (g146 p0) (T146 p0) (n146 p0)
  | .e => ⟨400, by kernel_rfl⟩
noncomputable def hh146 (p0 : List Head) : R146 → List Blk
  | .r0 r0 => [.gone, .rows 78 2 0 (rowsOf tHead r0)]
  | .r1 r0 => [.gone, .rows 78 2 (0 + p0.length) (rowsOf tHead r0)]
noncomputable def v146 (p0 : List Head) : R146 → V
  | .r0 r0 => .row 1 0
  | .r1 r0 => .row 1 (0 + p0.length)
theorem q146 (p0 : List Head) : ∀ r, ((n146 p0 r).1 = .normal ∨ (n146 p0 r).1 = .ret) ∧ (n146 p0 r).2.d = [] ∧ (n146 p0 r).2.h = hh146 p0 r ∧ resultV Tryz.prog Tryz.f146 (n146 p0 r).2 = some (v146 p0 r)
  | .r0 r0 => ⟨.inr rfl, rfl, rfl, by kernel_rfl⟩
  | .r1 r0 => ⟨.inr rfl, rfl, rfl, by kernel_rfl⟩
theorem w146 (p0 : List Head) {V0 : V} {h' : List Blk} (h : WP Tryz.prog ⟨none, 0⟩ (T146 p0) (Ends' fun r => v146 p0 r = V0 ∧ hh146 p0 r = h') .e) : HCalls Tryz.prog 146 [tHead.lst p0] V0 [] h' :=
  HCalls.wp mx Tryz.func146 (by kernel_rfl) (by kernel_rfl) (T146 p0) (g146 p0) (n146 p0) .e rfl (s146 p0) h fun r hr => by rw [← hr.1, ← hr.2]; exact q146 p0 r
theorem c146' (l : List Head) (hl : l.length ≤ 4294967296) : HCalls Tryz.prog 146 [tHead.lst l] (.row 1 l.length) [] [.gone, .rows 78 2 l.length (rowsOf tHead l)] := by
  have hsem : SemAny Tryz.prog (opAt Tryz.f146 1 1) [(.tmp 3, tHead.lst l)] [.rows 78 2 0 (rowsOf tHead l)] (if l.length = 0 then 2 else 1) (fun j => .bool (decide (j = 1))) (fun _ => [.rows 78 2 0 (rowsOf tHead l)]) := sem_eqNil (P := Tryz.prog) (x := .tmp 3) (e := 78) (b := 23) (by kernel_rfl)
  have hn : 0 + l.length = l.length := Nat.zero_add _
  refine w146 _ (WP.step ?_)
  simp only [T146, Go, Ends', v146, Tr.sure, SS]
  repeat' with_reducible first | intro _ | apply And.intro
  all_goals first | exact hsem | exact (VLe.app0 _ _) | exact rfl | (simp [hh146, hn, Go, Ends', v146, -List.getD_eq_getElem?_getD, *]; done) | (simp_all [hh146, hn, Go, Ends', v146, -List.getD_eq_getElem?_getD]; done) | skip
  all_goals (rename_i j hj h1; subst h1; split at hj <;> first | omega | skip; obtain rfl : l = [] := List.eq_nil_of_length_eq_zero (by assumption); rfl)
theorem c146 (h : List Blk) (l : List Head) (hl : l.length ≤ 4294967296) : HCalls Tryz.prog 146 [tHead.lst l] (.row (h.length + 1) l.length) h (h ++ [.gone, .rows 78 2 l.length (rowsOf tHead l)]) := by
  have := (c146' l hl).frame rfl rfl h
  rw [Nat.add_comm h.length 1]; exact this
inductive P77
  | e
inductive R77
  | r0 (r0 : List Int)
  | r1 (r0 : List Int)
noncomputable def T77 (p0 : List Int) : P77 → Tr P77 R77
  | .e => let c1 := rowsOf tint p0; (.wait 2 (.own 2 3 1 (.telb 0 1 0 (rowsRev tint ([])) c1 (.semn (opAt Tryz.f77 1 1) [(.tmp 3, tint.lst p0)] [.rows 3 1 0 c1] (if p0.length = 0 then 2 else 1) (fun j => .bool (decide (j = 1))) (fun j => [.rows 3 1 0 c1]) true (fun j => (.br (decide (j = 1)) (.wait 2 (.own 2 3 1 (.telb 1 1 0 (rowsRev tint ([])) c1 (.out (.r0 p0))))) (.need ((decide (0 = 0) && decide (0 + p0.length ≤ 4294967296)) && true) (.scal (fun r => (List.range 1).all fun j => (c1 r j).scalar) (.telb 1 1 (0 + p0.length) (appC 0 (litC 1 0 []) c1) c1 (.out (.r1 p0)))))))))))
noncomputable def g77 (p0 : List Int) : P77 → List Item × St
  | .e => bd Tryz.f77 [tint.lst p0] 7
noncomputable def n77 (p0 : List Int) : R77 → Exit × St
  | .r0 r0 => (.ret, ⟨mk 8 [(2, .row 1 0)], [.gone, .rows 3 1 0 (rowsOf tint r0)], []⟩)
  | .r1 r0 => (.ret, ⟨mk 8 [(2, .row 1 (0 + p0.length))], [.gone, .rows 3 1 (0 + p0.length) (rowsOf tint r0)], []⟩)
theorem s77 (p0 : List Int) : Sm 0 (g77 p0) (T77 p0) (n77 p0)
  | .e => ⟨400, by kernel_rfl⟩
noncomputable def hh77 (p0 : List Int) : R77 → List Blk
  | .r0 r0 => [.gone, .rows 3 1 0 (rowsOf tint r0)]
  | .r1 r0 => [.gone, .rows 3 1 (0 + p0.length) (rowsOf tint r0)]
noncomputable def v77 (p0 : List Int) : R77 → V
  | .r0 r0 => .row 1 0
  | .r1 r0 => .row 1 (0 + p0.length)
theorem q77 (p0 : List Int) : ∀ r, ((n77 p0 r).1 = .normal ∨ (n77 p0 r).1 = .ret) ∧ (n77 p0 r).2.d = [] ∧ (n77 p0 r).2.h = hh77 p0 r ∧ resultV Tryz.prog Tryz.f77 (n77 p0 r).2 = some (v77 p0 r)
  | .r0 r0 => ⟨.inr rfl, rfl, rfl, by kernel_rfl⟩
  | .r1 r0 => ⟨.inr rfl, rfl, rfl, by kernel_rfl⟩
theorem w77 (p0 : List Int) {V0 : V} {h' : List Blk} (h : WP Tryz.prog ⟨none, 0⟩ (T77 p0) (Ends' fun r => v77 p0 r = V0 ∧ hh77 p0 r = h') .e) : HCalls Tryz.prog 77 [tint.lst p0] V0 [] h' :=
  HCalls.wp mx Tryz.func77 (by kernel_rfl) (by kernel_rfl) (T77 p0) (g77 p0) (n77 p0) .e rfl (s77 p0) h fun r hr => by rw [← hr.1, ← hr.2]; exact q77 p0 r
theorem c77' (l : List Int) (hl : l.length ≤ 4294967296) : HCalls Tryz.prog 77 [tint.lst l] (.row 1 l.length) [] [.gone, .rows 3 1 l.length (rowsOf tint l)] := by
  have hsem : SemAny Tryz.prog (opAt Tryz.f77 1 1) [(.tmp 3, tint.lst l)] [.rows 3 1 0 (rowsOf tint l)] (if l.length = 0 then 2 else 1) (fun j => .bool (decide (j = 1))) (fun _ => [.rows 3 1 0 (rowsOf tint l)]) := sem_eqNil (P := Tryz.prog) (x := .tmp 3) (e := 3) (b := 26) (by kernel_rfl)
  have hn : 0 + l.length = l.length := Nat.zero_add _
  refine w77 _ (WP.step ?_)
  simp only [T77, Go, Ends', v77, Tr.sure, SS]
  repeat' with_reducible first | intro _ | apply And.intro
  all_goals first | exact hsem | exact (VLe.app0 _ _) | exact rfl | (simp [hh77, hn, Go, Ends', v77, -List.getD_eq_getElem?_getD, *]; done) | (simp_all [hh77, hn, Go, Ends', v77, -List.getD_eq_getElem?_getD]; done) | skip
  all_goals (rename_i j hj h1; subst h1; split at hj <;> first | omega | skip; obtain rfl : l = [] := List.eq_nil_of_length_eq_zero (by assumption); rfl)
theorem c77 (h : List Blk) (l : List Int) (hl : l.length ≤ 4294967296) : HCalls Tryz.prog 77 [tint.lst l] (.row (h.length + 1) l.length) h (h ++ [.gone, .rows 3 1 l.length (rowsOf tint l)]) := by
  have := (c77' l hl).frame rfl rfl h
  rw [Nat.add_comm h.length 1]; exact this
theorem VLe.same {τ : Type} (E : Ty τ) (l : List τ) {n : Nat} (h : n = l.length) : VLe (.list E.w n (rowsOf E l)) (E.lst l) := by subst h; exact VLe.refl _
theorem VLe.cons {a b : V} {cs bs : List V} (h : VLe a b) (t : ∀ j, VLe (cs.getD j uU) (bs.getD j uU)) : ∀ j, VLe ((a :: cs).getD j uU) ((b :: bs).getD j uU)
  | 0 => h
  | j + 1 => t j
theorem tel_rowL {τ : Type} (E : Ty τ) (l : List τ) (r0 j0 : Nat) (x : τ) {v : V} (hv : VLe v ((E.cells x).getD j0 uU)) (ho : ∀ j, j ≠ j0 → (E.cells x).getD j uU = (E.cells (l.getD r0 E.zero)).getD j uU) {r j : Nat} (hr : r < l.length) :
    VLe (if r = r0 ∧ j = j0 then v else rowsOf E l r j) (rowsOf E (l.set r0 x) r j) := by
  by_cases h : r = r0
  · subst h
    have e : (l.set r x).getD r E.zero = x := by rw [List.getD_eq_getElem?_getD, List.getElem?_set_self hr]; rfl
    by_cases hj : j = j0
    · subst hj; simp only [and_self, if_true, rowsOf, e]; exact hv
    · simp only [hj, and_false, if_false, rowsOf, e, ho j hj]; exact VLe.refl _
  · have e : (l.set r0 x).getD r E.zero = l.getD r E.zero := by rw [List.getD_eq_getElem?_getD, List.getElem?_set_ne (Ne.symm h), ← List.getD_eq_getElem?_getD]
    simp only [h, false_and, if_false, rowsOf, e]; exact VLe.refl _
theorem heads_other (l : List Head) (r0 : Nat) (s : List Int) : ∀ j, j ≠ 1 → (tHead.cells ⟨(l.getD r0 zHead).name, s⟩).getD j uU = (tHead.cells (l.getD r0 tHead.zero)).getD j uU
  | 0, _ => rfl
  | 1, h => absurd rfl h
  | _ + 2, _ => rfl
inductive P98
  | e
inductive R98
  | r0 (r0_0 : Int) (r0_1 : List Mould) (r0_2 : List Head) (r0_3 : List Int) (r0_4 : List Claim)
noncomputable def T98 (x : Case) (hd : Int) (ft : Int) (n : Int) : P98 → Tr P98 R98
  | .e => let c1 := x.shop.heads.getD (hd).toNat tHead.zero; let c5 := x.shop.heads.length ≤ x.shop.heads.length; let c6 := (c1.shows).set ((ft).toNat) n; let c2 := x.shop.heads.set ((hd).toNat) (⟨c1.name, c6⟩ : Head); let c7 : List V := [iI x.shop.features, tMould.lst x.shop.moulds, .list 2 x.shop.heads.length (rowsOf tHead c2), tint.lst x.owners, tClaim.lst x.claims]; let c8 := (c1.shows).length; let c9 := (c1.shows).length ≤ (c1.shows).length; let c10 : List V := [iI x.shop.features, tMould.lst x.shop.moulds, tHead.lst c2, tint.lst x.owners, tClaim.lst x.claims]; let c11 : List V := [iI 0, .nils, .nils, .nils, .nils]; let c12 := rowsOf tHead x.shop.heads; let c3 : List Blk := [.cells [iI x.shop.features, tMould.lst x.shop.moulds, .row 3 x.shop.heads.length, tint.lst x.owners, tClaim.lst x.claims], .cells c11, .gone, .rowsL 78 2 x.shop.heads.length c12 ((hd).toNat) 1 (.row 5 c8), .gone, .rows 3 1 c8 (rowsOf tint (c1.shows))]; let c4 : List Blk := [.cells [iI x.shop.features, tMould.lst x.shop.moulds, .row 3 x.shop.heads.length, tint.lst x.owners, tClaim.lst x.claims], .cells c11, .gone, .rows 78 2 x.shop.heads.length c12, .gone, .rows 3 1 c8 (rowsOf tint (c1.shows))]; let c13 : V := .list 2 x.shop.heads.length (rowsOf tHead c2); let c14 := ([iI n] : List V); let c15 := rowsOf tint c6; let c16 := (decide c5) && true; (.hcall 146 [tHead.lst x.shop.heads] (.row 3 x.shop.heads.length) [.cells (cC x), .cells c11] [.cells (cC x), .cells c11, .gone, .rows 78 2 x.shop.heads.length c12] true (.need ((decide (0 ≤ hd) && decide (hd < (x.shop.heads.length : Int))) && decide c5) (.need (decide ((hd).toNat < x.shop.heads.length) && decide (1 < 2)) (.hcall 77 [tint.lst (c1.shows)] (.row 5 c8) [.cells [iI x.shop.features, tMould.lst x.shop.moulds, .row 3 x.shop.heads.length, tint.lst x.owners, tClaim.lst x.claims], .cells c11, .gone, .rows 78 2 x.shop.heads.length c12] c4 true (.sem (opAt Tryz.f98 3 8) [(.tmp 28, .ref 3 ((hd).toNat) 1), (.tmp 26, .row 5 c8)] c4 (uU) c3 true (.sem (opAt Tryz.f98 4 3) [(.tmp 31, .ref 3 ((hd).toNat) 1)] c3 (.row 5 c8) c3 true (.need ((decide (0 ≤ ft) && decide (ft < (c8 : Int))) && decide c9) (.need ((decide ((ft).toNat < (c1.shows).length) && decide (0 + c14.length ≤ 1)) && underL 0 c14) (.telb 5 1 c8 (fun r' j => if r' = (ft).toNat ∧ 0 ≤ j ∧ j < 0 + c14.length then c14.getD (j - 0) uU else (rowsOf tint (c1.shows)) r' j) c15 (.wait 2 (.frz 5 (((decide c9) && ((decide c9) && true)) && ((decide c9) && true)) (.vle 26 (.list 1 c8 c15) (tint.lst c6) (.vle 32 (.list 1 c8 c15) (tint.lst c6) (.telb 3 2 x.shop.heads.length (fun r' j' => if r' = (hd).toNat ∧ j' = 1 then (.list 1 c8 c15 : V) else c12 r' j') (rowsOf tHead c2) (.frz 3 (((decide c5) && c16) && (c16 && (c16 && true))) (.vle 13 c13 (tHead.lst c2) (.vle 18 c13 (tHead.lst c2) (.telc 0 c7 c10 (.telc 1 c7 c10 (.out (.r0 x.shop.features x.shop.moulds c2 x.owners x.claims)))))))))))))))))))))
noncomputable def g98 (x : Case) (hd : Int) (ft : Int) (n : Int) : P98 → List Item × St
  | .e => bd Tryz.f98 [.agg (cC x), iI hd, iI ft, iI n] 33
noncomputable def n98 : R98 → Exit × St
  | .r0 r0_0 r0_1 r0_2 r0_3 r0_4 => (.ret, ⟨mk 37 [(8, .ref 1 0 0)], [.gone, .cells [iI r0_0, tMould.lst r0_1, tHead.lst r0_2, tint.lst r0_3, tClaim.lst r0_4]], []⟩)
noncomputable def v98 : R98 → V
  | .r0 r0_0 r0_1 r0_2 r0_3 r0_4 => .agg [iI r0_0, tMould.lst r0_1, tHead.lst r0_2, tint.lst r0_3, tClaim.lst r0_4]
theorem s98 (x : Case) (hd : Int) (ft : Int) (n : Int) : Sm 0 (g98 x hd ft n) (T98 x hd ft n) (n98)
  | .e => ⟨400, by kernel_rfl⟩
theorem q98 : ∀ r, bodyQ Tryz.prog Tryz.f98 (· = v98 r) (n98 r).1 (n98 r).2
  | .r0 r0_0 r0_1 r0_2 r0_3 r0_4 => bq (.agg [iI r0_0, tMould.lst r0_1, tHead.lst r0_2, tint.lst r0_3, tClaim.lst r0_4]) (by kernel_rfl)
theorem w98 (x : Case) (hd : Int) (ft : Int) (n : Int) {post : V → Prop} (h : WQ (T98 x hd ft n) v98 post .e) : PC 98 [.agg (cC x), iI hd, iI ft, iI n] post :=
  PCalls.wq Tryz.func98 (s98 x hd ft n) q98 h
theorem c98 (x : Case) (hd ft n : Int) (h1 : 0 ≤ hd ∧ hd < x.shop.heads.length) (h2 : 0 ≤ ft ∧ ft < (x.shop.heads.getD hd.toNat zHead).shows.length) (h3 : x.shop.heads.length ≤ 4294967296) (h4 : (x.shop.heads.getD hd.toNat zHead).shows.length ≤ 4294967296) :
    PC 98 [.agg (tCase.cells x), iI hd, iI ft, iI n] (· = .agg (tCase.cells (readC x hd ft n))) := by
  have hr : hd.toNat < x.shop.heads.length := by omega
  have hf : ft.toNat < (x.shop.heads.getD hd.toNat zHead).shows.length := by omega
  refine w98 _ _ _ _ (WP.step ?_)
  simp only [T98, Go, Ends', v98, Tr.sure, SS, h1.1, h1.2, h2.1, h2.2, hr, hf, z1, z3]
  repeat' with_reducible first | intro _ | apply And.intro
  all_goals first | exact c146 _ _ h3 | exact c77 _ _ h4 | exact tel_set tint _ _ _ _ rfl rfl rfl _ _ (by assumption) (by assumption) | (simp [Go, Ends', v98, -List.getD_eq_getElem?_getD, *]; done) | skip
  all_goals
    have hs : (x.shop.heads.getD hd.toNat zHead).shows.length = ((x.shop.heads.getD hd.toNat zHead).shows.set ft.toNat n).length := by simp
    have hh : x.shop.heads.length = (x.shop.heads.set hd.toNat ⟨(x.shop.heads.getD hd.toNat zHead).name, (x.shop.heads.getD hd.toNat zHead).shows.set ft.toNat n⟩).length := by simp
    first
    | rfl
    | exact VLe.same tint _ hs
    | exact VLe.same tHead _ hh
    | exact tel_rowL tHead _ _ _ _ (VLe.same tint _ hs) (heads_other _ _ _) (by assumption)
    | exact VLe.cons (VLe.refl _) (VLe.cons (VLe.refl _) (VLe.cons (VLe.same tHead _ hh) fun _ => VLe.refl _)) _
    | exact sem_storeL (by kernel_rfl) rfl rfl hr (by decide)
    | exact sem_loadL (by kernel_rfl) (by kernel_rfl) rfl
end
noncomputable section
def lastI (l : List Int) : Int := if l.length = 0 then -1 else l.getD (l.length - 1) 0
def pickF (b : Int) (l : List Int) : List (List Int) := (List.range (b - (lastI l + 1)).toNat).map fun (k : Nat) => l ++ [lastI l + 1 + (k : Int)]
theorem picks_succ (b : Int) (n : Nat) : picks b (n + 1) = (picks b n).flatMap (pickF b) := rfl
theorem lastI_mem {l : List Int} (h : l ≠ []) : lastI l ∈ l := by
  have : l.length ≠ 0 := by simpa using h
  rw [lastI, if_neg this, List.getD_eq_getElem?_getD, List.getElem?_eq_getElem (by omega)]; exact List.getElem_mem _
structure Pick (b : Int) (n : Nat) (l : List Int) : Prop where
  len : l.length = n
  asc : l.Pairwise (· < ·)
  lo : ∀ x ∈ l, 0 ≤ x
  hi : ∀ x ∈ l, x < b
theorem Pick.last {b : Int} {n : Nat} {l : List Int} (h : Pick b n l) : -1 ≤ lastI l := by
  by_cases e : l = []
  · subst e; decide
  · have := h.lo _ (lastI_mem e); omega
theorem le_last {l : List Int} (h : l.Pairwise (· < ·)) : ∀ x ∈ l, x ≤ lastI l := by
  intro x hx
  obtain ⟨i, hi, rfl⟩ := List.getElem_of_mem hx
  have hn : l.length ≠ 0 := by omega
  rw [lastI, if_neg hn, List.getD_eq_getElem?_getD, List.getElem?_eq_getElem (show l.length - 1 < l.length by omega), Option.getD_some]
  rcases Nat.lt_or_ge i (l.length - 1) with q | q
  · exact Int.le_of_lt (List.pairwise_iff_getElem.1 h i (l.length - 1) hi (by omega) q)
  · have : i = l.length - 1 := by omega
    subst this; exact Int.le_refl _
theorem mem_pickF {b : Int} {l m : List Int} : m ∈ pickF b l ↔ ∃ x, lastI l < x ∧ x < b ∧ m = l ++ [x] := by
  simp only [pickF, List.mem_map, List.mem_range]
  constructor
  · rintro ⟨k, hk, rfl⟩; exact ⟨_, by omega, by omega, rfl⟩
  · rintro ⟨x, h1, h2, rfl⟩; exact ⟨(x - (lastI l + 1)).toNat, by omega, by congr 2; omega⟩
theorem picks_ok (b : Int) : ∀ (n : Nat) (l : List Int), l ∈ picks b n ↔ Pick b n l
  | 0, l => by
    simp only [picks, List.mem_singleton]
    exact ⟨fun h => by subst h; exact ⟨rfl, .nil, by simp, by simp⟩, fun h => List.eq_nil_of_length_eq_zero h.len⟩
  | n + 1, l => by
    rw [picks_succ, List.mem_flatMap]
    constructor
    · rintro ⟨m, hm, hl⟩
      obtain ⟨x, h1, h2, rfl⟩ := mem_pickF.1 hl
      have hp := (picks_ok b n m).1 hm
      refine ⟨by simp [hp.len], ?_, fun y hy => ?_, fun y hy => ?_⟩
      · rw [List.pairwise_append]
        exact ⟨hp.asc, by simp, fun a ha c hc => by simp only [List.mem_singleton] at hc; subst hc; have := le_last hp.asc a ha; omega⟩
      · rcases List.mem_append.1 hy with q | q
        · exact hp.lo y q
        · simp only [List.mem_singleton] at q; subst q; have := hp.last; omega
      · rcases List.mem_append.1 hy with q | q
        · exact hp.hi y q
        · simp only [List.mem_singleton] at q; subst q; exact h2
    · intro h
      have hne : l ≠ [] := by intro e; subst e; have := h.len; simp at this
      obtain ⟨m, x, rfl⟩ : ∃ m x, l = m ++ [x] := ⟨l.dropLast, l.getLast hne, (List.dropLast_concat_getLast hne).symm⟩
      have hp := List.pairwise_append.1 h.asc
      have hm : Pick b n m := ⟨by have := h.len; simp at this; exact this, hp.1, fun y hy => h.lo y (List.mem_append_left _ hy), fun y hy => h.hi y (List.mem_append_left _ hy)⟩
      refine ⟨m, (picks_ok b n m).2 hm, mem_pickF.2 ⟨x, ?_, h.hi x (by simp), rfl⟩⟩
      by_cases e : m = []
      · subst e
        have := h.lo x (by simp)
        simp [lastI]; omega
      · exact hp.2.2 _ (lastI_mem e) x (by simp)
end
noncomputable section
theorem countP_take {τ : Type} (p : τ → Bool) (l : List τ) (d : τ) {i : Nat} (hi : i < l.length) : (l.take (i + 1)).countP p = (l.take i).countP p + (if p (l.getD i d) = true then 1 else 0) := by
  rw [show l.take (i + 1) = l.take i ++ [l.getD i d] from by rw [List.take_add_one, List.getD_eq_getElem?_getD, List.getElem?_eq_getElem hi]; rfl, List.countP_append]; simp [List.countP_cons]
def falls (l : List Int) (i : Nat) : Bool := decide (1 ≤ i) && decide (l.getD i 0 ≤ l.getD (i - 1) 0)
theorem asc_falls (l : List Int) : asc l = !(List.range l.length).any (falls l) := rfl
end
noncomputable section
def filtI (p : Nat → Bool) (n : Nat) : List Int := ((List.range n).filter p).map fun (i : Nat) => (i : Int)
theorem filtI_succ (p : Nat → Bool) (n : Nat) : filtI p (n + 1) = if p n = true then filtI p n ++ [(n : Int)] else filtI p n := by
  unfold filtI; rw [List.range_succ, List.filter_append]
  cases h : p n <;> simp [h]
theorem filtI_rev (p : Nat → Bool) (n : Nat) : (filtI p (n + 1)).reverse = if p n = true then (n : Int) :: (filtI p n).reverse else (filtI p n).reverse := by
  rw [filtI_succ]; split <;> simp
theorem filtI_len (p : Nat → Bool) (n : Nat) : (filtI p n).length ≤ n := by
  unfold filtI; rw [List.length_map]; exact Nat.le_trans (List.length_filter_le _ _) (by simp)
theorem worth_take (c : Case) (l : List Int) {i : Nat} (hi : i < l.length) : worth c (l.take (i + 1)) = worth c (l.take i) + (cl c (l.getD i 0).toNat).worth := by
  unfold worth; rw [take_snoc 0 l i hi, List.foldl_append]; rfl
end
noncomputable section
def less : List Int → List Int → Bool
  | [], [] => false
  | [], _ :: _ => true
  | _ :: _, [] => false
  | x :: a, y :: b => if x = y then less a b else decide (x < y)
theorem VLe.rr {τ : Type} (E : Ty τ) (X : List τ) : VLe (.list E.w X.reverse.length (rowsRev E X.reverse)) (E.lst X) := by
  have := VLe.rev E X.reverse; rwa [List.reverse_reverse] at this
end
noncomputable section
def maxZ (f : Int → Int) (l : List Int) : Int := l.foldl (fun n s => max n (f s)) 0
def grantR (c : Case) : List Int × List Int × Int :=
  if (truthsE c 0).2 ≠ 0 then ([], [], (truthsE c 0).2)
  else (each c.claims.length ((caseSets c).filter fun s => manyZ s == maxZ manyZ (caseSets c)) 1, each c.claims.length ((caseSets c).filter fun s => manyZ s == maxZ manyZ (caseSets c)) 2, 0)
def allP (k : Int) (n : Nat) : List (List Int) := (List.range n).flatMap fun m => picks k m
theorem find_firstI {τ : Type} (p : τ → Bool) (d : τ) : ∀ (l : List τ) (i j : Nat), firstI p i l = some j → ∃ q, j = i + q ∧ l.find? p = some (l.getD q d)
  | [], _, _, h => by cases h
  | x :: l, i, j, h => by
    simp only [firstI] at h
    by_cases hx : p x = true
    · rw [if_pos hx] at h; cases h
      exact ⟨0, rfl, by rw [List.find?_cons_of_pos hx]; rfl⟩
    · rw [if_neg hx] at h
      obtain ⟨q, h1, h2⟩ := find_firstI p d l (i + 1) j h
      exact ⟨q + 1, by omega, by rw [List.find?_cons_of_neg hx, h2]; rfl⟩
theorem find_none {τ : Type} (p : τ → Bool) (l : List τ) (h : firstI p 0 l = none) : l.find? p = none := by
  rw [List.find?_eq_none]; intro x hx hp
  have := any_of_none h
  rw [List.any_eq_false] at this
  exact this x hx hp
def fallR (c : Case) : List Int × Int :=
  if (truthsE c 0).2 ≠ 0 then ([], (truthsE c 0).2)
  else ((match (allP c.claims.length c.claims.length).find? (fun l => can (caseSets c) (others c.claims.length l)) with | some l => l | none => others c.claims.length []), 0)
def better (c : Case) (sets b l : List Int) : List Int := if can sets l = true ∧ (worth c l - worth c b > 0 ∨ (worth c l - worth c b = 0 ∧ less l b = true)) then l else b
def allQ (k : Int) (n : Nat) : List (List Int) := (List.range n).flatMap fun m => picks k (m + 1)
def bestR (c : Case) (sets : List Int) (n : Nat) : List Int := (allQ c.claims.length n).foldl (better c sets) []
def mostR (c : Case) : List Int × Int × Int :=
  if (truthsE c 0).2 ≠ 0 then ([], 0, (truthsE c 0).2) else (bestR c (caseSets c) c.claims.length, worth c (bestR c (caseSets c) c.claims.length), 0)
structure OkL (c : Case) (l : List Int) : Prop where
  mem : ∀ n ∈ l, 0 ≤ n ∧ n < c.claims.length
  len : l.length ≤ 8
theorem worth_bd (c : Case) (l : List Int) (h : OkCase c) (hl : OkL c l) : 0 ≤ worth c l ∧ worth c l ≤ 800 := by
  have hw : ∀ m : Nat, m ≤ l.length → 0 ≤ worth c (l.take m) ∧ worth c (l.take m) ≤ m * 100 := by
    intro m
    induction m with
    | zero => intro _; simp [worth]
    | succ m ih =>
      intro hm
      have h1 := ih (by omega)
      have h2 := hl.mem _ (getD_mem 0 l m (by omega))
      have h3 := (h.cl (show (l.getD m 0).toNat < c.claims.length by omega)).worth
      rw [worth_take c l (by omega)]; omega
  have := hw l.length (Nat.le_refl _)
  rw [List.take_length] at this
  have := hl.len
  omega
theorem okL_foldl {c : Case} {sets : List Int} : ∀ (L : List (List Int)) (b : List Int), OkL c b → (∀ l ∈ L, OkL c l) → OkL c (L.foldl (better c sets) b)
  | [], _, hb, _ => hb
  | l :: L, b, hb, hL => by
    rw [List.foldl_cons]
    refine okL_foldl L _ ?_ fun m hm => hL m (by simp [hm])
    unfold better; split
    · exact hL l (by simp)
    · exact hb
theorem okL_picks {c : Case} {n : Nat} (h : n ≤ 8) : ∀ l ∈ picks c.claims.length n, OkL c l := fun l hl => by
  have := (picks_ok _ _ l).1 hl
  exact ⟨fun x hx => ⟨this.lo x hx, this.hi x hx⟩, by have := this.len; omega⟩
theorem okL_best {c : Case} {sets : List Int} {n : Nat} (h : n ≤ 7) : OkL c (bestR c sets n) := by
  refine okL_foldl _ _ ⟨by simp, by simp⟩ fun l hl => ?_
  simp only [allQ, List.mem_flatMap, List.mem_range] at hl
  obtain ⟨m, h1, h2⟩ := hl
  exact okL_picks (by omega) l h2
theorem foldl_take {σ τ : Type} (f : σ → τ → σ) (s : σ) (l : List τ) (d : τ) {i : Nat} (hi : i < l.length) : (l.take (i + 1)).foldl f s = f ((l.take i).foldl f s) (l.getD i d) := by
  rw [take_snoc d l i hi, List.foldl_append]; rfl
def fewer (a b : List Int) : Bool := if a.length ≠ b.length then decide (a.length < b.length) else less a b
end
noncomputable section
def sameI (a b : List Int) : Bool := decide (a = b)
def sameL (a b : List (List Int)) : Bool := decide (a = b)
theorem take_eq_snoc {τ : Type} (d : τ) {a b : List τ} {i : Nat} (ha : i < a.length) (hb : i < b.length) (h : a.take i = b.take i) (e : a.getD i d = b.getD i d) : a.take (i + 1) = b.take (i + 1) := by
  rw [take_snoc d a i ha, take_snoc d b i hb, h, e]
inductive P20
  | e
  | l0 (x0_5 : Bool) (x0_6 : Int)
inductive R20
  | r0 (r0 : Bool)
noncomputable def T20 (p0 : List Int) (p1 : List Int) : P20 → Tr P20 R20
  | .e => (.go (.l0 ((p0.length : Int) == (p1.length : Int)) 0))
  | .l0 x0_5 x0_6 => let c1 := x0_6 < (p0.length : Int); (.br x0_5 (.br (decide c1) (.front [] [] (((decide (0 ≤ x0_6) && decide c1) && ((decide (0 ≤ x0_6) && decide (x0_6 < (p1.length : Int))) && true)) && true) true (.need (inR .i64 (x0_6 + (1 : Int))) (.go (.l0 ((p0.getD (x0_6).toNat tint.zero) == (p1.getD (x0_6).toNat tint.zero)) (x0_6 + (1 : Int)))))) (.out (.r0 x0_5))) (.lit false (.out (.r0 x0_5))))
noncomputable def g20 (p0 : List Int) (p1 : List Int) : P20 → List Item × St
  | .e => bd Tryz.f20 [tint.lst p0, tint.lst p1] 29
  | .l0 x0_5 x0_6 => (cutOf Tryz.f20 0, ⟨mk 31 [(0, tint.lst p0), (1, tint.lst p1), (5, .bool x0_5), (6, iI x0_6)], [], []⟩)
noncomputable def n20 : R20 → Exit × St
  | .r0 r0 => (.ret, ⟨mk 31 [(4, .bool r0)], [], []⟩)
noncomputable def v20 : R20 → V
  | .r0 r0 => .bool r0
theorem s20 (p0 : List Int) (p1 : List Int) : Sm 0 (g20 p0 p1) (T20 p0 p1) (n20)
  | .e => ⟨400, by kernel_rfl⟩
  | .l0 _ _ => ⟨400, by kernel_rfl⟩
theorem q20 : ∀ r, bodyQ Tryz.prog Tryz.f20 (· = v20 r) (n20 r).1 (n20 r).2
  | .r0 r0 => bq (.bool r0) (by kernel_rfl)
theorem w20 (p0 : List Int) (p1 : List Int) {post : V → Prop} (h : WQ (T20 p0 p1) v20 post .e) : PC 20 [tint.lst p0, tint.lst p1] post :=
  PCalls.wq Tryz.func20 (s20 p0 p1) q20 h
theorem e20 : ∀ xs w, (callFunc 20 xs).run Tryz.prog w = .ok (.enter 20 xs) w := PCalls.enters Tryz.func20 (c := Tryz.f20.body.getD .skip) (by kernel_rfl) (by kernel_rfl)
theorem c20 (a b : List Int) : PC 20 [tint.lst a, tint.lst b] (· = .bool (sameI a b)) := by
  refine PCalls.assume e20 0 (by simp) .list fun hl => ?_
  have hfalse : a ≠ b → ∀ i, WP Tryz.prog ⟨none, 0⟩ (T20 a b) (Ends' fun r => v20 r = .bool (sameI a b)) (.l0 false i) := fun h i => by
    have hs : sameI a b = false := by simpa [sameI] using h
    refine WP.step ?_
    simp only [T20, Go, Ends', v20, Tr.sure, SS]
    repeat' with_reducible first | intro _ | apply And.intro
    all_goals simp [hs, Go, Ends', v20, -List.getD_eq_getElem?_getD, *]
  refine w20 _ _ (WP.step ?_)
  simp only [T20, Tr.sure, Go]
  by_cases he : a.length = b.length
  · have e1 : ((a.length : Int) == (b.length : Int)) = true := by simp [he]
    rw [e1]
    refine WP.count (fun i => .l0 true (i : Int)) rfl a.length (fun i => a.take i = b.take i) rfl (fun i hi hI => ?_) fun hI => ?_
    · have hb : i < b.length := by omega
      have hr := inRi hi hl
      have hi' : (i : Int) < a.length := by omega
      have hb' : (i : Int) < b.length := by omega
      by_cases hx : a.getD i 0 = b.getD i 0
      · have hn := take_eq_snoc 0 hi hb hI hx
        refine WP.once ?_
        simp only [T20, Tr.sure, SS, hi', hb', hx, z1, beq_self_eq_true]
        repeat' with_reducible first | intro _ | apply And.intro
        all_goals simp [hr, hn, Go, Ends', v20, -List.getD_eq_getElem?_getD, *]
      · have hne : a ≠ b := fun h => hx (by rw [h])
        have hx2 : (a.getD i 0 == b.getD i 0) = false := by simpa using hx
        have hgo := hfalse hne ((i : Int) + 1)
        refine WP.once ?_
        simp only [T20, Tr.sure, SS, hi', hb', hx2, z1]
        repeat' with_reducible first | intro _ | apply And.intro
        all_goals first | exact (Or.inr hgo) | (simp [hr, Go, Ends', v20, -List.getD_eq_getElem?_getD, *]; done)
    · have heq : a = b := by rw [List.take_length, he, List.take_length] at hI; exact hI
      have hs : sameI a b = true := by simpa [sameI] using heq
      refine WP.step ?_
      simp only [T20, Go, Ends', v20, Tr.sure, SS, Int.lt_irrefl]
      repeat' with_reducible first | intro _ | apply And.intro
      all_goals simp_all [hs, Go, Ends', v20, -List.getD_eq_getElem?_getD]
  · have e1 : ((a.length : Int) == (b.length : Int)) = false := by simp; omega
    rw [e1]
    exact hfalse (fun h => he (by rw [h])) 0
inductive P28
  | e
  | l0 (x0_5 : Bool) (x0_6 : Int)
inductive R28
  | r0 (r0 : Bool)
noncomputable def T28 (p0 : List (List Int)) (p1 : List (List Int)) : P28 → Tr P28 R28
  | .e => (.go (.l0 ((p0.length : Int) == (p1.length : Int)) 0))
  | .l0 x0_5 x0_6 => let c1 := sameI (p0.getD (x0_6).toNat (tlist tint).zero) (p1.getD (x0_6).toNat (tlist tint).zero); let c2 := x0_6 < (p0.length : Int); (.br x0_5 (.br (decide c2) (.front [] [] (((decide (0 ≤ x0_6) && decide c2) && ((decide (0 ≤ x0_6) && decide (x0_6 < (p1.length : Int))) && true)) && true) true (.call 20 [tint.lst (p0.getD (x0_6).toNat (tlist tint).zero), tint.lst (p1.getD (x0_6).toNat (tlist tint).zero)] (.bool c1) true true (.need (inR .i64 (x0_6 + (1 : Int))) (.go (.l0 c1 (x0_6 + (1 : Int))))))) (.out (.r0 x0_5))) (.lit false (.out (.r0 x0_5))))
noncomputable def g28 (p0 : List (List Int)) (p1 : List (List Int)) : P28 → List Item × St
  | .e => bd Tryz.f28 [(tlist tint).lst p0, (tlist tint).lst p1] 29
  | .l0 x0_5 x0_6 => (cutOf Tryz.f28 0, ⟨mk 31 [(0, (tlist tint).lst p0), (1, (tlist tint).lst p1), (5, .bool x0_5), (6, iI x0_6)], [], []⟩)
noncomputable def n28 : R28 → Exit × St
  | .r0 r0 => (.ret, ⟨mk 31 [(4, .bool r0)], [], []⟩)
noncomputable def v28 : R28 → V
  | .r0 r0 => .bool r0
theorem s28 (p0 : List (List Int)) (p1 : List (List Int)) : Sm 0 (g28 p0 p1) (T28 p0 p1) (n28)
  | .e => ⟨400, by kernel_rfl⟩
  | .l0 _ _ => ⟨400, by kernel_rfl⟩
theorem q28 : ∀ r, bodyQ Tryz.prog Tryz.f28 (· = v28 r) (n28 r).1 (n28 r).2
  | .r0 r0 => bq (.bool r0) (by kernel_rfl)
theorem w28 (p0 : List (List Int)) (p1 : List (List Int)) {post : V → Prop} (h : WQ (T28 p0 p1) v28 post .e) : PC 28 [(tlist tint).lst p0, (tlist tint).lst p1] post :=
  PCalls.wq Tryz.func28 (s28 p0 p1) q28 h
theorem e28 : ∀ xs w, (callFunc 28 xs).run Tryz.prog w = .ok (.enter 28 xs) w := PCalls.enters Tryz.func28 (c := Tryz.f28.body.getD .skip) (by kernel_rfl) (by kernel_rfl)
theorem c28 (a b : List (List Int)) : PC 28 [(tlist tint).lst a, (tlist tint).lst b] (· = .bool (sameL a b)) := by
  refine PCalls.assume e28 0 (by simp) .list fun hl => ?_
  have hfalse : a ≠ b → ∀ i, WP Tryz.prog ⟨none, 0⟩ (T28 a b) (Ends' fun r => v28 r = .bool (sameL a b)) (.l0 false i) := fun h i => by
    have hs : sameL a b = false := by simpa [sameL] using h
    refine WP.step ?_
    simp only [T28, Go, Ends', v28, Tr.sure, SS]
    repeat' with_reducible first | intro _ | apply And.intro
    all_goals simp [hs, Go, Ends', v28, -List.getD_eq_getElem?_getD, *]
  refine w28 _ _ (WP.step ?_)
  simp only [T28, Tr.sure, Go]
  by_cases he : a.length = b.length
  · have e1 : ((a.length : Int) == (b.length : Int)) = true := by simp [he]
    rw [e1]
    refine WP.count (fun i => .l0 true (i : Int)) rfl a.length (fun i => a.take i = b.take i) rfl (fun i hi hI => ?_) fun hI => ?_
    · have hb : i < b.length := by omega
      have hr := inRi hi hl
      have hi' : (i : Int) < a.length := by omega
      have hb' : (i : Int) < b.length := by omega
      have hz : (tlist tint).zero = ([] : List Int) := rfl
      have hc := c20 (a.getD i []) (b.getD i [])
      by_cases hx : a.getD i [] = b.getD i []
      · have hn := take_eq_snoc [] hi hb hI hx
        have hx2 : sameI (a.getD i []) (b.getD i []) = true := by simpa [sameI] using hx
        rw [hx2] at hc
        refine WP.once ?_
        simp only [T28, Tr.sure, SS, hi', hb', hx2, hz]
        repeat' with_reducible first | intro _ | apply And.intro
        all_goals first | exact hc | (simp [hr, hn, Go, Ends', v28, -List.getD_eq_getElem?_getD, *]; done)
      · have hne : a ≠ b := fun h => hx (by rw [h])
        have hx2 : sameI (a.getD i []) (b.getD i []) = false := by simpa [sameI] using hx
        have hgo := hfalse hne ((i : Int) + 1)
        rw [hx2] at hc
        refine WP.once ?_
        simp only [T28, Tr.sure, SS, hi', hb', hx2, hz]
        repeat' with_reducible first | intro _ | apply And.intro
        all_goals first | exact hc | exact (Or.inr hgo) | (simp [hr, Go, Ends', v28, -List.getD_eq_getElem?_getD, *]; done)
    · have heq : a = b := by rw [List.take_length, he, List.take_length] at hI; exact hI
      have hs : sameL a b = true := by simpa [sameL] using heq
      refine WP.step ?_
      simp only [T28, Go, Ends', v28, Tr.sure, SS, Int.lt_irrefl]
      repeat' with_reducible first | intro _ | apply And.intro
      all_goals simp_all [hs, Go, Ends', v28, -List.getD_eq_getElem?_getD]
  · have e1 : ((a.length : Int) == (b.length : Int)) = false := by simp; omega
    rw [e1]
    exact hfalse (fun h => he (by rw [h])) 0
def leastStep (c : Case) (l : List Cast) (m own : Int) (i : Nat) (n : Int) : Int :=
  if ((l.getD i zCast).mould == m && (c.owners.getD i 0 == own && (n == 0 || decide ((l.getD i zCast).number < n)))) = true then (l.getD i zCast).number else n
def least (c : Case) (l : List Cast) (m own : Int) : Int := natF (leastStep c l m own) 0 l.length
def oldP (c : Case) (m : Int) (l : List Cast) : Bool := (least c l m 0 != 0 && least c l m 1 != 0) && decide (least c l m 0 < least c l m 1)
def newP (c : Case) (m : Int) (l : List Cast) : Bool := (least c l m 0 != 0 && least c l m 1 != 0) && !decide (least c l m 0 < least c l m 1)
def olderR (c : Case) (m : Int) : Int × Int :=
  if (truthsE c (indexErr m c.shop.moulds.length)).2 ≠ 0 then (0, (truthsE c (indexErr m c.shop.moulds.length)).2)
  else if (truths c.shop).countP (oldP c m) = 0 ∧ (truths c.shop).countP (newP c m) = 0 then (0, 9)
  else if (truths c.shop).countP (newP c m) = 0 then (0, 0)
  else if (truths c.shop).countP (oldP c m) = 0 then (1, 0) else (2, 0)
theorem countP_takeG {τ : Type} (p : τ → Bool) (l : List τ) (d : τ) {i : Nat} (hi : i < l.length) : (((l.take (i + 1)).countP p : Nat) : Int) = if p (l.getD i d) = true then ((l.take i).countP p : Int) + 1 else ((l.take i).countP p : Int) := by
  rw [countP_take p l d hi]; split <;> simp
theorem okCase_read {c : Case} (h : OkCase c) {hd ft n : Int} (h1 : 0 ≤ hd ∧ hd < c.shop.heads.length) (hn : 0 ≤ n ∧ n ≤ 2) : OkCase (readC c hd ft n) := by
  have hm : c.shop.heads.getD hd.toNat zHead ∈ c.shop.heads := getD_mem zHead _ _ (by omega)
  have hh := h.shop.head _ hm
  refine ⟨⟨h.shop.feat, h.shop.nm, ?_, h.shop.mould, fun x hx => ?_⟩, ?_, h.own, h.five, fun x hx => ?_⟩
  · simp only [readC, List.length_set]; exact h.shop.nh
  · simp only [readC] at hx ⊢
    rcases List.mem_or_eq_of_mem_set hx with q | q
    · exact h.shop.head x q
    · subst q
      refine ⟨by simp only [List.length_set]; exact hh.1, fun y hy => ?_⟩
      rcases List.mem_or_eq_of_mem_set hy with q | q
      · exact hh.2 y q
      · omega
  · simp only [readC, List.length_set]; exact h.many
  · have k := h.claim x hx
    refine ⟨k.own, k.worth, k.kind, fun e => ?_, fun e => ?_, fun e => ?_⟩
    · simpa [readC] using k.cast e
    · simpa [readC] using k.pair e
    · simpa [readC] using k.last e
def lookedP (c : Case) (i : Int) (e : Entry) (n : Int) : Bool := decide (((caseSets (readC c e.head e.feature n)).length : Int) > 0) && settled (caseSets (readC c e.head e.feature n)) i == 0
def looked (c : Case) (i : Int) (e : Entry) : Bool := !(lookedP c i e 1) && !(lookedP c i e 2)
theorem flat_find {τ : Type} {f : Nat → List τ} {p : τ → Bool} {i n : Nat} {l : τ} (hn : i < n) (h0 : ((List.range i).flatMap f).find? p = none) (h1 : (f i).find? p = some l) : ((List.range n).flatMap f).find? p = some l := by
  obtain ⟨m, rfl⟩ := Nat.exists_eq_add_of_lt hn
  have : ∀ m, ((List.range (i + m + 1)).flatMap f).find? p = some l := by
    intro m
    induction m with
    | zero => rw [Nat.add_zero, List.range_succ, List.flatMap_append, List.find?_append, h0]; simp [h1]
    | succ m ih => rw [show i + (m + 1) + 1 = (i + m + 1) + 1 by omega, List.range_succ, List.flatMap_append, List.find?_append, ih]; rfl
  exact this m
theorem flat_none {τ : Type} {f : Nat → List τ} {p : τ → Bool} {i : Nat} (h0 : ((List.range i).flatMap f).find? p = none) (h1 : (f i).find? p = none) : ((List.range (i + 1)).flatMap f).find? p = none := by
  rw [List.range_succ, List.flatMap_append, List.find?_append, h0]; simp [h1]
def entriesOf (F : Int) (h : Nat) : List Entry := (List.range F.toNat).map fun (f : Nat) => (⟨(h : Int), (f : Int)⟩ : Entry)
def unreadP (c : Case) (e : Entry) : Bool := (c.shop.heads.getD e.head.toNat zHead).shows.getD e.feature.toNat 0 == 0
def lookP (c : Case) (i : Int) (e : Entry) : Bool := unreadP c e && looked c i e
def lookR (c : Case) (i : Int) : Entry × Int :=
  if (holdsR c i).2 ≠ 0 then (⟨0, 0⟩, (holdsR c i).2) else if (holdsR c i).1 ≠ 0 then (⟨0, 0⟩, 2)
  else match ((List.range c.shop.heads.length).flatMap (entriesOf c.shop.features)).find? (lookP c i) with | some e => (e, 0) | none => (⟨0, 0⟩, 9)
end
noncomputable section
inductive P64
  | e
inductive R64
  | r0 (r0 : Int)
noncomputable def T64 : P64 → Tr P64 R64
  | .e => (.out (.r0 0))
noncomputable def g64 : P64 → List Item × St
  | .e => bd Tryz.f64 [] 1
noncomputable def n64 : R64 → Exit × St
  | .r0 r0 => (.ret, ⟨mk 1 [(0, iI r0)], [], []⟩)
noncomputable def v64 : R64 → V
  | .r0 r0 => iI r0
theorem s64 : Sm 0 (g64) (T64) (n64)
  | .e => ⟨400, by kernel_rfl⟩
theorem q64 : ∀ r, bodyQ Tryz.prog Tryz.f64 (· = v64 r) (n64 r).1 (n64 r).2
  | .r0 r0 => bq (iI r0) (by kernel_rfl)
theorem w64 {post : V → Prop} (h : WQ (T64) v64 post .e) : PC 64 [] post :=
  PCalls.wq Tryz.func64 (s64) q64 h
theorem c64 : PC 64 [] (· = iI 0) := by
  refine w64  (WP.step ?_)
  simp only [T64, Go, Ends', v64, Tr.sure, SS]
  repeat' with_reducible first | intro _ | apply And.intro
inductive P132
  | e
inductive R132
  | r0 (r0 : Int)
noncomputable def T132 (m : Int) (n : Int) : P132 → Tr P132 R132
  | .e => let c1 := outside 0 (m - (1 : Int)) ([n] : List Int); (.need (inR .i64 (m - (1 : Int))) (.call 58 [iI 0, iI (m - (1 : Int)), .list 1 1 (litC 1 1 [iI n])] (.bool c1) ((decide (1 ≤ 1)) && true) true (.br c1 (.out (.r0 4)) (.out (.r0 0)))))
noncomputable def g132 (m : Int) (n : Int) : P132 → List Item × St
  | .e => bd Tryz.f132 [rR (iI m), rR (iI n)] 6
noncomputable def n132 : R132 → Exit × St
  | .r0 r0 => (.ret, ⟨mk 8 [(2, iI r0)], [], []⟩)
noncomputable def v132 : R132 → V
  | .r0 r0 => iI r0
theorem s132 (m : Int) (n : Int) : Sm 0 (g132 m n) (T132 m n) (n132)
  | .e => ⟨400, by kernel_rfl⟩
theorem q132 : ∀ r, bodyQ Tryz.prog Tryz.f132 (· = v132 r) (n132 r).1 (n132 r).2
  | .r0 r0 => bq (iI r0) (by kernel_rfl)
theorem w132 (m : Int) (n : Int) {post : V → Prop} (h : WQ (T132 m n) v132 post .e) : PC 132 [rR (iI m), rR (iI n)] post :=
  PCalls.wq Tryz.func132 (s132 m n) q132 h
theorem c132 (many : Nat) (n : Int) (hm : many ≤ maxn) : PC 132 [rR (iI (many : Int)), rR (iI n)] (· = iI (indexErr n many)) := by
  have hr : inR .i64 ((many : Int) - 1) = true := by unfold maxn at hm; exact inR64 (by omega) (by omega)
  refine w132 _ _ (WP.step ?_)
  simp only [T132, Go, Ends', v132, Tr.sure, SS, outside1]
  repeat' with_reducible first | intro _ | apply And.intro
  all_goals first | exact (c58w _ _ _) | (simp [indexErr, hr, Go, Ends', v132, -List.getD_eq_getElem?_getD, *]; done)
theorem bit_and : ∀ s : Nat, s < 32 → ∀ n : Nat, n < 6 → bitsOf .and .i64 ((s : Int).fdiv (2 ^ (min n 64))) 1 = if hasZ s n = true then 1 else 0 := by decide
theorem bit_andI {s n : Int} (hs : 0 ≤ s ∧ s < 32) (hn : 0 ≤ n ∧ n ≤ 5) : bitsOf .and .i64 (s.fdiv (2 ^ (min n.toNat 64))) 1 = if hasZ s n = true then 1 else 0 := by
  obtain ⟨a, rfl⟩ := Int.eq_ofNat_of_zero_le hs.1
  obtain ⟨b, rfl⟩ := Int.eq_ofNat_of_zero_le hn.1
  exact bit_and a (by omega) b (by omega)
inductive P67
  | e
  | l0 (x0_5 : Int) (x0_10 : Int)
inductive R67
  | r0 (r0 : Int)
noncomputable def T67 (l : List Int) (n : Int) : P67 → Tr P67 R67
  | .e => (.go (.l0 0 0))
  | .l0 x0_5 x0_10 => let c1 := x0_5 + (bitsOf .and .i64 ((l.getD (x0_10).toNat tint.zero).fdiv (2 ^ (min (n).toNat 64))) (1 : Int)); let c2 := (l.length : Int); (.br (decide (x0_10 < c2)) (.need (decide (0 ≤ x0_10) && decide (x0_10 < c2)) (.need (decide (0 ≤ n)) (.need (inR .i64 c1) (.need (inR .i64 (x0_10 + (1 : Int))) (.go (.l0 c1 (x0_10 + (1 : Int)))))))) (.br (x0_5 == c2) (.out (.r0 1)) (.br (x0_5 == (0 : Int)) (.out (.r0 2)) (.out (.r0 0)))))
noncomputable def g67 (l : List Int) (n : Int) : P67 → List Item × St
  | .e => bd Tryz.f67 [tint.lst l, iI n] 26
  | .l0 x0_5 x0_10 => (cutOf Tryz.f67 0, ⟨mk 28 [(0, tint.lst l), (1, iI n), (5, iI x0_5), (8, tint.lst l), (9, iI (l.length : Int)), (10, iI x0_10)], [], []⟩)
noncomputable def n67 : R67 → Exit × St
  | .r0 r0 => (.ret, ⟨mk 28 [(4, iI r0)], [], []⟩)
noncomputable def v67 : R67 → V
  | .r0 r0 => iI r0
theorem s67 (l : List Int) (n : Int) : Sm 0 (g67 l n) (T67 l n) (n67)
  | .e => ⟨400, by kernel_rfl⟩
  | .l0 _ _ => ⟨400, by kernel_rfl⟩
theorem q67 : ∀ r, bodyQ Tryz.prog Tryz.f67 (· = v67 r) (n67 r).1 (n67 r).2
  | .r0 r0 => bq (iI r0) (by kernel_rfl)
theorem w67 (l : List Int) (n : Int) {post : V → Prop} (h : WQ (T67 l n) v67 post .e) : PC 67 [tint.lst l, iI n] post :=
  PCalls.wq Tryz.func67 (s67 l n) q67 h
theorem e67 : ∀ xs w, (callFunc 67 xs).run Tryz.prog w = .ok (.enter 67 xs) w := PCalls.enters Tryz.func67 (c := Tryz.f67.body.getD .skip) (by kernel_rfl) (by kernel_rfl)
theorem c67 (l : List Int) (n : Int) (hs : ∀ s ∈ l, 0 ≤ s ∧ s < 32) (hn : 0 ≤ n ∧ n ≤ 5) : PC 67 [tint.lst l, iI n] (· = iI (settled l n)) := by
  refine PCalls.assume e67 0 (by simp) .list fun hl => ?_
  refine w67 _ _ (WP.step ?_)
  simp only [T67, Go, Ends', v67, Tr.sure, SS]
  repeat' with_reducible first | intro _ | apply And.intro
  refine WP.run (fun i => .l0 (((l.take i).countP fun s => hasZ s n : Nat) : Int) i) rfl l.length (fun i hi => ?_) ?_
  · have hr := inRi hi hl
    have hb := bit_andI (hs _ (getD_mem 0 l i hi)) hn
    have ht := countP_take (fun s => hasZ s n) l 0 hi
    have hle : (l.take i).countP (fun s => hasZ s n) ≤ i := Nat.le_trans List.countP_le_length (by simp; omega)
    have hc : (((l.take i).countP fun s => hasZ s n : Nat) : Int) + (if hasZ (l.getD i 0) n = true then 1 else 0) = (((l.take (i + 1)).countP fun s => hasZ s n : Nat) : Int) := by rw [ht]; split <;> simp
    have hr2 : inR .i64 (((l.take (i + 1)).countP fun s => hasZ s n : Nat) : Int) = true := by unfold maxn at hl; rw [ht]; exact inR64 (by omega) (by split <;> omega)
    have hi' : (i : Int) < l.length := by omega
    refine WP.once ?_
    simp only [T67, Tr.sure, SS, hi', hi, z1, hb, hc, hn.1]
    repeat' with_reducible first | intro _ | apply And.intro
    all_goals first | (simp [hr, hr2, Go, Ends', v67, -List.getD_eq_getElem?_getD, *]; done) | (simp_all [hr, hr2, Go, Ends', v67, -List.getD_eq_getElem?_getD]; done)
  · rw [List.take_length]
    generalize hk : (l.countP fun s => hasZ s n) = k
    have hset : settled l n = if (k : Int) = (l.length : Int) then 1 else if (k : Int) = 0 then 2 else 0 := by
      subst hk; unfold settled; simp only [Int.natCast_inj, Int.natCast_eq_zero]
    refine WP.step ?_
    simp only [T67, Go, Ends', v67, Tr.sure, SS, Int.lt_irrefl]
    repeat' with_reducible first | intro _ | apply And.intro
    all_goals first | (simp [hset, Go, Ends', v67, -List.getD_eq_getElem?_getD, *]; done) | (simp_all [hset, Go, Ends', v67, -List.getD_eq_getElem?_getD]; done)
def cell (v : V) : V := rR (v)
inductive P66
  | e
inductive R66
  | r0 (r0_c0_0 : Int) (r0_c1_0 : Int)
noncomputable def T66 (n : Int) (m : Int) : P66 → Tr P66 R66
  | .e => (.out (.r0 m n))
noncomputable def g66 (n : Int) (m : Int) : P66 → List Item × St
  | .e => bd Tryz.f66 [iI n, iI m] 4
noncomputable def n66 : R66 → Exit × St
  | .r0 r0_c0_0 r0_c1_0 => (.ret, ⟨mk 6 [(4, fG 132 [.ref 1 0 0, .ref 0 0 0])], [.cells [iI r0_c1_0], .cells [iI r0_c0_0]], []⟩)
noncomputable def v66 : R66 → V
  | .r0 r0_c0_0 r0_c1_0 => fG 132 [rR (iI r0_c0_0), rR (iI r0_c1_0)]
theorem s66 (n : Int) (m : Int) : Sm 0 (g66 n m) (T66 n m) (n66)
  | .e => ⟨400, by kernel_rfl⟩
theorem q66 : ∀ r, bodyQ Tryz.prog Tryz.f66 (· = v66 r) (n66 r).1 (n66 r).2
  | .r0 r0_c0_0 r0_c1_0 => ⟨.inr rfl, by simp [n66], (fG 132 [.ref 1 0 0, .ref 0 0 0]), (fG 132 [rR (iI r0_c0_0), rR (iI r0_c1_0)]), by kernel_rfl, (.func rfl rfl (by intro j hj; exact absurd hj (by simp)) (by intro j hj; match j, hj with | 0, _ => exact .weak (.ref (n := 1) rfl (Nat.le_refl _) (by intro j hj; match j, hj with | 0, _ => exact .imm rfl)) (VLe.refl _) | 1, _ => exact .weak (.ref (n := 1) rfl (Nat.le_refl _) (by intro j hj; match j, hj with | 0, _ => exact .imm rfl)) (VLe.refl _))), rfl⟩
theorem w66 (n : Int) (m : Int) {post : V → Prop} (h : WQ (T66 n m) v66 post .e) : PC 66 [iI n, iI m] post :=
  PCalls.wq Tryz.func66 (s66 n m) q66 h
theorem c66 (n m : Int) : PC 66 [iI n, iI m] (· = fG 132 [rR (iI m), rR (iI n)]) := by
  refine w66 _ _ (WP.step ?_)
  simp only [T66, Go, Ends', v66, Tr.sure, SS]
  repeat' with_reducible first | intro _ | apply And.intro
inductive P70
  | e
inductive R70
  | r0 (r0_c0_0 : Int) (r0_c1_0 : List Int)
noncomputable def T70 (l : List Int) (m : Int) : P70 → Tr P70 R70
  | .e => (.out (.r0 m l))
noncomputable def g70 (l : List Int) (m : Int) : P70 → List Item × St
  | .e => bd Tryz.f70 [tint.lst l, iI m] 4
noncomputable def n70 : R70 → Exit × St
  | .r0 r0_c0_0 r0_c1_0 => (.ret, ⟨mk 6 [(4, fG 134 [.ref 1 0 0, .ref 0 0 0])], [.cells [tint.lst r0_c1_0], .cells [iI r0_c0_0]], []⟩)
noncomputable def v70 : R70 → V
  | .r0 r0_c0_0 r0_c1_0 => fG 134 [rR (iI r0_c0_0), rR (tint.lst r0_c1_0)]
theorem s70 (l : List Int) (m : Int) : Sm 0 (g70 l m) (T70 l m) (n70)
  | .e => ⟨400, by kernel_rfl⟩
theorem q70 : ∀ r, bodyQ Tryz.prog Tryz.f70 (· = v70 r) (n70 r).1 (n70 r).2
  | .r0 r0_c0_0 r0_c1_0 => ⟨.inr rfl, by simp [n70], (fG 134 [.ref 1 0 0, .ref 0 0 0]), (fG 134 [rR (iI r0_c0_0), rR (tint.lst r0_c1_0)]), by kernel_rfl, (.func rfl rfl (by intro j hj; exact absurd hj (by simp)) (by intro j hj; match j, hj with | 0, _ => exact .weak (.ref (n := 1) rfl (Nat.le_refl _) (by intro j hj; match j, hj with | 0, _ => exact .imm rfl)) (VLe.refl _) | 1, _ => exact .weak (.ref (n := 1) rfl (Nat.le_refl _) (by intro j hj; match j, hj with | 0, _ => exact .imm rfl)) (VLe.refl _))), rfl⟩
theorem w70 (l : List Int) (m : Int) {post : V → Prop} (h : WQ (T70 l m) v70 post .e) : PC 70 [tint.lst l, iI m] post :=
  PCalls.wq Tryz.func70 (s70 l m) q70 h
theorem c70 (l : List Int) (m : Int) : PC 70 [tint.lst l, iI m] (· = fG 134 [rR (iI m), rR (tint.lst l)]) := by
  refine w70 _ _ (WP.step ?_)
  simp only [T70, Go, Ends', v70, Tr.sure, SS]
  repeat' with_reducible first | intro _ | apply And.intro
inductive P134
  | e
  | l0 (x0_3 : Int)
inductive R134
  | r0 (r0 : Int)
noncomputable def T134 (m : Int) (l : List Int) : P134 → Tr P134 R134
  | .e => let c1 := m - (1 : Int); (.need (inR .i64 c1) (.call 58 [iI 0, iI c1, tint.lst l] (.bool (outside 0 c1 l)) true true (.br (outside 0 c1 l) (.out (.r0 4)) (.go (.l0 1)))))
  | .l0 x0_3 => let c1 := x0_3 - (1 : Int); let c2 := (l.length : Int); (.br (decide (x0_3 < c2)) (.front [] [] (((decide (0 ≤ x0_3) && decide (x0_3 < c2)) && ((inR .i64 c1) && ((decide (0 ≤ c1) && decide (c1 < c2)) && true))) && true) true (.br (decide ((l.getD (x0_3).toNat tint.zero) ≤ (l.getD (c1).toNat tint.zero))) (.out (.r0 2)) (.need (inR .i64 (x0_3 + (1 : Int))) (.go (.l0 (x0_3 + (1 : Int))))))) (.out (.r0 0)))
noncomputable def g134 (m : Int) (l : List Int) : P134 → List Item × St
  | .e => bd Tryz.f134 [rR (iI m), rR (tint.lst l)] 22
  | .l0 x0_3 => (cutOf Tryz.f134 0, ⟨mk 24 [(1, rR (tint.lst l)), (3, iI x0_3)], [], []⟩)
noncomputable def n134 : R134 → Exit × St
  | .r0 r0 => (.ret, ⟨mk 24 [(2, iI r0)], [], []⟩)
noncomputable def v134 : R134 → V
  | .r0 r0 => iI r0
theorem s134 (m : Int) (l : List Int) : Sm 0 (g134 m l) (T134 m l) (n134)
  | .e => ⟨400, by kernel_rfl⟩
  | .l0 _ => ⟨400, by kernel_rfl⟩
theorem q134 : ∀ r, bodyQ Tryz.prog Tryz.f134 (· = v134 r) (n134 r).1 (n134 r).2
  | .r0 r0 => bq (iI r0) (by kernel_rfl)
theorem w134 (m : Int) (l : List Int) {post : V → Prop} (h : WQ (T134 m l) v134 post .e) : PC 134 [rR (iI m), rR (tint.lst l)] post :=
  PCalls.wq Tryz.func134 (s134 m l) q134 h
theorem e134 : ∀ xs w, (callFunc 134 xs).run Tryz.prog w = .ok (.enter 134 xs) w := PCalls.enters Tryz.func134 (c := Tryz.f134.body.getD .skip) (by kernel_rfl) (by kernel_rfl)
theorem c134 (many : Nat) (l : List Int) (hm : many ≤ maxn) : PC 134 [rR (iI (many : Int)), rR (tint.lst l)] (· = iI (listErr many l)) := by
  refine PCalls.assume e134 1 (by simp) (.cref 0 (by decide) .list) fun hl => ?_
  have hr0 : inR .i64 ((many : Int) - 1) = true := by unfold maxn at hm; exact inR64 (by omega) (by omega)
  by_cases ho : outside 0 ((many : Int) - 1) l = true
  · have he : listErr many l = 4 := by unfold listErr; rw [if_pos]; exact ho
    have k58 := c58 0 ((many : Int) - 1) l
    rw [ho] at k58
    refine w134 _ _ (WP.step ?_)
    simp only [T134, Go, Ends', v134, Tr.sure, SS, ho]
    repeat' with_reducible first | intro _ | apply And.intro
    all_goals first | exact k58 | (simp [hr0, he, Go, Ends', v134, -List.getD_eq_getElem?_getD, *]; done)
  · rw [Bool.not_eq_true] at ho
    have ha : (l.any fun n => !within n 0 ((many : Int) - 1)) = false := ho
    have k58 := c58 0 ((many : Int) - 1) l
    rw [ho] at k58
    refine w134 _ _ (WP.step ?_)
    simp only [T134, Go, Ends', v134, Tr.sure, SS, ho]
    repeat' with_reducible first | intro _ | apply And.intro
    all_goals first | exact k58 | (simp [hr0, Go, Ends', v134, -List.getD_eq_getElem?_getD, *]; done) | skip
    refine WP.count (fun j => .l0 ((j : Int) + 1)) (by simp) (l.length - 1) (fun j => ∀ i, i ≤ j → falls l i = false) (fun i hi => by rw [Nat.le_zero.1 hi]; rfl) (fun j hj hI => ?_) fun hI => ?_
    · have hj1 : (j : Int) + 1 < l.length := by omega
      have hr : inR .i64 ((j : Int) + 1 + 1) = true := by unfold maxn at hl; exact inR64 (by omega) (by omega)
      have hr2 : inR .i64 ((j : Int) + 1 - 1) = true := by unfold maxn at hl; exact inR64 (by omega) (by omega)
      have e1 : ((j : Int) + 1).toNat = j + 1 := by omega
      have e2 : ((j : Int) + 1 - 1).toNat = j := by omega
      have hf : falls l (j + 1) = decide (l.getD (j + 1) 0 ≤ l.getD j 0) := by simp [falls]
      have hl2 : falls l (j + 1) = true → listErr many l = 2 := fun h => by
        have : asc l = false := by rw [asc_falls, List.any_eq_true.2 ⟨j + 1, List.mem_range.2 (by omega), h⟩]; rfl
        simp only [listErr, ha, this, Bool.false_eq_true, if_false]
      have hnext : falls l (j + 1) = false → ∀ i, i ≤ j + 1 → falls l i = false := fun h i hi => by
        rcases Nat.lt_or_ge i (j + 1) with q | q
        · exact hI i (by omega)
        · obtain rfl : i = j + 1 := by omega
          exact h
      have hn0 : 0 ≤ (j : Int) + 1 := by omega
      have hn1 : (j : Int) + 1 - 1 < l.length := by omega
      have hn2 : 0 ≤ (j : Int) + 1 - 1 := by omega
      refine WP.once ?_
      simp only [T134, Tr.sure, SS, hj1, z1, e1, e2, hn0, hn1, hn2]
      repeat' with_reducible first | intro _ | apply And.intro
      all_goals first | (simp [hr, hr2, Go, Ends', v134, -List.getD_eq_getElem?_getD, *]; done) | (simp_all [hr, hr2, Go, Ends', v134, -List.getD_eq_getElem?_getD]; done)
    · have hge : ¬ ((l.length - 1 : Nat) : Int) + 1 < l.length := by omega
      have hasc : asc l = true := by
        rw [asc_falls, Bool.not_eq_true', Bool.eq_false_iff]
        intro h
        rw [List.any_eq_true] at h
        obtain ⟨i, h1, h2⟩ := h
        rw [hI i (by rw [List.mem_range] at h1; omega)] at h2; cases h2
      have he : listErr many l = 0 := by simp only [listErr, ha, hasc, Bool.false_eq_true, if_false, if_true]
      refine WP.step ?_
      simp only [T134, Go, Ends', v134, Tr.sure, SS, hge]
      repeat' with_reducible first | intro _ | apply And.intro
      all_goals simp [he, Go, Ends', v134, -List.getD_eq_getElem?_getD, *]
def orB (s n : Int) : Int := bitsOf .or .i64 s ((1 : Int) * 2 ^ (min n.toNat 64))
def setZ (l : List Int) : Int := l.foldl orB 0
theorem or_all : (allS (fun s => allS (fun n => decide (0 ≤ orB s n ∧ orB s n < 32)) 5) 32) = true := by kernel_rfl
theorem and_or_all : (allS (fun x => allS (fun s => allS (fun n => (bitsOf .and .i64 x (orB s n) == orB s n) == ((bitsOf .and .i64 x s == (s : Int)) && hasZ x n)) 5) 32) 32) = true := by kernel_rfl
theorem orB_lt {s n : Int} (hs : 0 ≤ s ∧ s < 32) (hn : 0 ≤ n ∧ n < 5) : 0 ≤ orB s n ∧ orB s n < 32 := by
  obtain ⟨a, rfl⟩ := Int.eq_ofNat_of_zero_le hs.1
  obtain ⟨b, rfl⟩ := Int.eq_ofNat_of_zero_le hn.1
  simpa using allS_iff (allS_iff or_all (i := a) (by omega)) (i := b) (by omega)
theorem and_or {x s n : Int} (hx : 0 ≤ x ∧ x < 32) (hs : 0 ≤ s ∧ s < 32) (hn : 0 ≤ n ∧ n < 5) : (bitsOf .and .i64 x (orB s n) == orB s n) = ((bitsOf .and .i64 x s == s) && hasZ x n) := by
  obtain ⟨c, rfl⟩ := Int.eq_ofNat_of_zero_le hx.1
  obtain ⟨a, rfl⟩ := Int.eq_ofNat_of_zero_le hs.1
  obtain ⟨b, rfl⟩ := Int.eq_ofNat_of_zero_le hn.1
  have := allS_iff (allS_iff (allS_iff and_or_all (i := c) (by omega)) (i := a) (by omega)) (i := b) (by omega)
  exact eq_of_beq this
theorem fold_and : ∀ (l : List Int) (s x : Int), (∀ n ∈ l, 0 ≤ n ∧ n < 5) → 0 ≤ s ∧ s < 32 → 0 ≤ x ∧ x < 32 → (bitsOf .and .i64 x (l.foldl orB s) == l.foldl orB s) = ((bitsOf .and .i64 x s == s) && allZ x l)
  | [], s, x, _, _, _ => by simp [allZ]
  | n :: l, s, x, h, hs, hx => by
    have hn := h n (by simp)
    rw [List.foldl_cons, fold_and l _ x (fun m hm => h m (by simp [hm])) (orB_lt hs hn) hx, and_or hx hs hn]
    simp [allZ, Bool.and_assoc]
theorem and_set {l : List Int} {x : Int} (h : ∀ n ∈ l, 0 ≤ n ∧ n < 5) (hx : 0 ≤ x ∧ x < 32) : (bitsOf .and .i64 x (setZ l) == setZ l) = allZ x l := by
  have h0 : (bitsOf .and .i64 x 0 == 0) = true := by
    obtain ⟨c, rfl⟩ := Int.eq_ofNat_of_zero_le hx.1
    exact allS_iff (p := fun c => bitsOf .and .i64 (c : Int) 0 == 0) (n := 32) (by kernel_rfl) (by omega)
  unfold setZ; rw [fold_and l 0 x h ⟨by omega, by omega⟩ hx, h0, Bool.true_and]
inductive P72
  | e
  | l0 (x0_2 : Int) (x0_7 : Int)
inductive R72
  | r0 (r0 : Int)
noncomputable def T72 (l : List Int) : P72 → Tr P72 R72
  | .e => (.go (.l0 0 0))
  | .l0 x0_2 x0_7 => let c1 := (1 : Int) * 2 ^ (min ((l.getD (x0_7).toNat tint.zero)).toNat 64); (.br (decide (x0_7 < (l.length : Int))) (.need (decide (0 ≤ x0_7) && decide (x0_7 < (l.length : Int))) (.need (decide (0 ≤ (l.getD (x0_7).toNat tint.zero)) && inR .i64 c1) (.need (inR .i64 (x0_7 + (1 : Int))) (.go (.l0 (bitsOf .or .i64 x0_2 c1) (x0_7 + (1 : Int))))))) (.out (.r0 x0_2)))
noncomputable def g72 (l : List Int) : P72 → List Item × St
  | .e => bd Tryz.f72 [tint.lst l] 16
  | .l0 x0_2 x0_7 => (cutOf Tryz.f72 0, ⟨mk 17 [(2, iI x0_2), (5, tint.lst l), (6, iI (l.length : Int)), (7, iI x0_7)], [], []⟩)
noncomputable def n72 : R72 → Exit × St
  | .r0 r0 => (.ret, ⟨mk 17 [(2, iI r0)], [], []⟩)
noncomputable def v72 : R72 → V
  | .r0 r0 => iI r0
theorem s72 (l : List Int) : Sm 0 (g72 l) (T72 l) (n72)
  | .e => ⟨400, by kernel_rfl⟩
  | .l0 _ _ => ⟨400, by kernel_rfl⟩
theorem q72 : ∀ r, bodyQ Tryz.prog Tryz.f72 (· = v72 r) (n72 r).1 (n72 r).2
  | .r0 r0 => bq (iI r0) (by kernel_rfl)
theorem w72 (l : List Int) {post : V → Prop} (h : WQ (T72 l) v72 post .e) : PC 72 [tint.lst l] post :=
  PCalls.wq Tryz.func72 (s72 l) q72 h
theorem e72 : ∀ xs w, (callFunc 72 xs).run Tryz.prog w = .ok (.enter 72 xs) w := PCalls.enters Tryz.func72 (c := Tryz.f72.body.getD .skip) (by kernel_rfl) (by kernel_rfl)
theorem c72 (l : List Int) (h : ∀ n ∈ l, 0 ≤ n ∧ n < 5) : PC 72 [tint.lst l] (· = iI (setZ l)) := by
  refine PCalls.assume e72 0 (by simp) .list fun hl => ?_
  refine w72 _ (WP.step ?_)
  simp only [T72, Go, Ends', v72, Tr.sure, SS]
  repeat' with_reducible first | intro _ | apply And.intro
  refine WP.run (fun i => .l0 (setZ (l.take i)) i) rfl l.length (fun i hi => ?_) ?_
  · have hr := inRi hi hl
    have hn := h _ (getD_mem 0 l i hi)
    have ht : setZ (l.take (i + 1)) = bitsOf .or .i64 (setZ (l.take i)) ((1 : Int) * 2 ^ (min (l.getD i 0).toNat 64)) := foldl_take orB 0 l 0 hi
    have hp : inR .i64 ((1 : Int) * 2 ^ (min (l.getD i 0).toNat 64)) = true := by
      rcases show l.getD i 0 = 0 ∨ l.getD i 0 = 1 ∨ l.getD i 0 = 2 ∨ l.getD i 0 = 3 ∨ l.getD i 0 = 4 by omega with e | e | e | e | e <;> rw [e] <;> decide
    have hi' : (i : Int) < l.length := by omega
    rw [ht]
    refine WP.once ?_
    simp only [T72, Tr.sure, SS, hi', hi, z1, hn.1, hp]
    repeat' with_reducible first | intro _ | apply And.intro
    all_goals simp [hr, Go, Ends', v72, -List.getD_eq_getElem?_getD, *]
  · rw [List.take_length]
    refine WP.step ?_
    simp only [T72, Go, Ends', v72, Tr.sure, SS, Int.lt_irrefl]
    repeat' with_reducible first | intro _ | apply And.intro
inductive P135
  | e
inductive R135
  | r0 (r0 : Bool)
noncomputable def T135 (x : Int) (s : Int) : P135 → Tr P135 R135
  | .e => (.out (.r0 ((bitsOf .and .i64 x s) == s)))
noncomputable def g135 (x : Int) (s : Int) : P135 → List Item × St
  | .e => bd Tryz.f135 [iI x, rR (iI s)] 7
noncomputable def n135 : R135 → Exit × St
  | .r0 r0 => (.ret, ⟨mk 9 [(3, .bool r0)], [], []⟩)
noncomputable def v135 : R135 → V
  | .r0 r0 => .bool r0
theorem s135 (x : Int) (s : Int) : Sm 0 (g135 x s) (T135 x s) (n135)
  | .e => ⟨400, by kernel_rfl⟩
theorem q135 : ∀ r, bodyQ Tryz.prog Tryz.f135 (· = v135 r) (n135 r).1 (n135 r).2
  | .r0 r0 => bq (.bool r0) (by kernel_rfl)
theorem w135 (x : Int) (s : Int) {post : V → Prop} (h : WQ (T135 x s) v135 post .e) : PC 135 [iI x, rR (iI s)] post :=
  PCalls.wq Tryz.func135 (s135 x s) q135 h
theorem c135 (x s : Int) : PC 135 [iI x, rR (iI s)] (· = .bool (bitsOf .and .i64 x s == s)) := by
  refine w135 _ _ (WP.step ?_)
  simp only [T135, Go, Ends', v135, Tr.sure, SS]
  repeat' with_reducible first | intro _ | apply And.intro
def listZ (s : Int) : List Int := filtI (fun (i : Nat) => hasZ s (i : Int)) 5
inductive P83
  | e
  | l0 (x0_4 : Int) (a0_0 : List Int)
inductive R83
  | r0 (r0 : List Int)
noncomputable def T83 (s : Int) : P83 → Tr P83 R83
  | .e => (.wait 2 (.own 2 3 1 (.go (.l0 0 ([])))))
  | .l0 x0_4 a0_0 => let c1 := x0_4 + (1 : Int); (.br (decide (x0_4 < (5 : Int))) (.need (decide (0 ≤ x0_4)) (.br ((bitsOf .and .i64 (s.fdiv (2 ^ (min (x0_4).toNat 64))) (1 : Int)) == (1 : Int)) (.need ((decide (a0_0.length = a0_0.length) && decide (a0_0.length + 1 ≤ 4294967296)) && decide (1 ≤ 1)) (.scal (fun _ => true) (.need (inR .i64 c1) (.go (.l0 c1 (x0_4 :: a0_0)))))) (.need (inR .i64 c1) (.go (.l0 c1 a0_0))))) (.out (.r0 a0_0)))
noncomputable def g83 (s : Int) : P83 → List Item × St
  | .e => bd Tryz.f83 [iI s] 17
  | .l0 x0_4 a0_0 => (cutOf Tryz.f83 0, ⟨mk 18 [(0, iI s), (2, .row 0 a0_0.length), (4, iI x0_4)], [.rows 3 1 a0_0.length (rowsRev tint a0_0)], []⟩)
noncomputable def n83 : R83 → Exit × St
  | .r0 r0 => (.ret, ⟨mk 18 [(2, .row 0 r0.length)], [.rows 3 1 r0.length (rowsRev tint r0)], []⟩)
noncomputable def v83 : R83 → V
  | .r0 r0 => tint.lst r0.reverse
theorem s83 (s : Int) : Sm 0 (g83 s) (T83 s) (n83)
  | .e => ⟨400, by kernel_rfl⟩
  | .l0 _ _ => ⟨400, by kernel_rfl⟩
theorem q83 : ∀ r, bodyQ Tryz.prog Tryz.f83 (· = v83 r) (n83 r).1 (n83 r).2
  | .r0 r0 => ⟨.inr rfl, by simp [n83], (.row 0 r0.length), (tint.lst r0.reverse), by kernel_rfl, (.weak (.row rfl (Nat.le_refl _)) (VLe.rev tint r0)), rfl⟩
theorem w83 (s : Int) {post : V → Prop} (h : WQ (T83 s) v83 post .e) : PC 83 [iI s] post :=
  PCalls.wq Tryz.func83 (s83 s) q83 h
theorem c83 (s : Int) (hs : 0 ≤ s ∧ s < 32) : PC 83 [iI s] (· = tint.lst (listZ s)) := by
  refine w83 _ (WP.step ?_)
  simp only [T83, Go, Ends', v83, Tr.sure, SS]
  repeat' with_reducible first | intro _ | apply And.intro
  refine WP.run (fun i => .l0 i (filtI (fun (q : Nat) => hasZ s (q : Int)) i).reverse) rfl 5 (fun i hi => ?_) ?_
  · have hr : inR .i64 ((i : Int) + 1) = true := inR64 (by omega) (by omega)
    have hb := bit_andI hs (show 0 ≤ (i : Int) ∧ (i : Int) ≤ 5 by omega)
    have hle : (filtI (fun (q : Nat) => hasZ s (q : Int)) i).reverse.length + 1 ≤ 4294967296 := by rw [List.length_reverse]; have := filtI_len (fun (q : Nat) => hasZ s (q : Int)) i; omega
    have hn := filtI_rev (fun (q : Nat) => hasZ s (q : Int)) i
    have hi' : (i : Int) < 5 := by omega
    rw [Int.toNat_natCast] at hb
    generalize (filtI (fun (q : Nat) => hasZ s (q : Int)) (i + 1)).reverse = B at *
    generalize (filtI (fun (q : Nat) => hasZ s (q : Int)) i).reverse = A at *
    cases hz : hasZ s (i : Int) with
    | true =>
      rw [hz] at hb
      rw [hn, hz]
      refine WP.once ?_
      simp only [T83, Tr.sure, SS, hi', hb]
      repeat' with_reducible first | intro _ | apply And.intro
      all_goals first | (simp [hr, hle, Go, Ends', v83, -List.getD_eq_getElem?_getD, *]; done) | (simp_all [hr, hle, Go, Ends', v83, -List.getD_eq_getElem?_getD]; done)
    | false =>
      rw [hz] at hb
      rw [hn, hz]
      refine WP.once ?_
      simp only [T83, Tr.sure, SS, hi', hb]
      repeat' with_reducible first | intro _ | apply And.intro
      all_goals first | (simp [hr, hle, Go, Ends', v83, -List.getD_eq_getElem?_getD, *]; done) | (simp_all [hr, hle, Go, Ends', v83, -List.getD_eq_getElem?_getD]; done)
  · refine WP.step ?_
    simp only [T83, Go, Ends', v83, Tr.sure, SS, Int.lt_irrefl]
    repeat' with_reducible first | intro _ | apply And.intro
    all_goals first | (simp [listZ, Go, Ends', v83, -List.getD_eq_getElem?_getD, *]; done) | (simp_all [listZ, Go, Ends', v83, -List.getD_eq_getElem?_getD]; done)
end
end Go.Proofs.YtdamoemndifpmaaGreat
