/-
  Part of the proof of ClaimKnown. Conditions: those that stand in each theorem.
-/
import Derived.Test.YtdamoemndifpmaaGreatB13
set_option linter.unusedSimpArgs false
set_option linter.unusedVariables false
set_option maxRecDepth 100000
namespace Go.Proofs.YtdamoemndifpmaaGreat
open Ab Go
noncomputable section
theorem known_follow : followR demoCase [] = ([], 0) := by unfold followR; rw [demo_truths, demo_sets]; decide +kernel
theorem known_older : olderR demoCase 1 = (0, 9) := by unfold olderR; rw [demo_truths]; decide +kernel
theorem known_look0 : lookR demoCase 0 = (⟨0, 0⟩, 9) := by decide +kernel
theorem known_look2 : lookR demoCase 2 = (⟨0, 0⟩, 2) := by decide +kernel
inductive P7
  | e
inductive R7
  | r0 (r0 : Bool)
noncomputable def T7 : P7 → Tr P7 R7
  | .e => let c1 := cC demoCase; (.call 41 [.bool false] (.agg c1) true true (.call 29 [.agg c1, .nils] (.tuple [tint.lst ([] : List Int), iI 0]) true true (.call 37 [.agg c1, iI 1] (.tuple [iI 0, iI 9]) true true (.call 39 [.agg c1, iI 0] (.tuple [.agg [iI 0, iI 0], iI 9]) true true (.call 39 [.agg c1, iI 2] (.tuple [.agg [iI 0, iI 0], iI 2]) true true (.lit true (.lit true (.lit true (.lit true (.br (((([] : List Int).length) : Int) == (0 : Int)) (.call 23 [] (.bool true) true true (.out (.r0 true))) (.out (.r0 false))))))))))))
noncomputable def g7 : P7 → List Item × St
  | .e => bd Tryz.f7 [] 53
noncomputable def n7 : R7 → Exit × St
  | .r0 r0 => (.ret, ⟨mk 53 [(0, .bool r0)], [], []⟩)
noncomputable def v7 : R7 → V
  | .r0 r0 => .bool r0
theorem s7 : Sm 0 (g7) (T7) (n7)
  | .e => ⟨400, by kernel_rfl⟩
theorem q7 : ∀ r, bodyQ Tryz.prog Tryz.f7 (· = v7 r) (n7 r).1 (n7 r).2
  | .r0 r0 => bq (.bool r0) (by kernel_rfl)
theorem w7 {post : V → Prop} (h : WQ (T7) v7 post .e) : PC 7 [] post :=
  PCalls.wq Tryz.func7 (s7) q7 h
theorem k29 : PC 29 [.agg (tCase.cells demoCase), .nils] (· = .tuple [tint.lst [], iI 0]) := by
  have := PCalls.arg (pre := [.agg (tCase.cells demoCase)]) (c29 demoCase []) VLe.nils; rw [known_follow] at this; exact this
theorem k37 : PC 37 [.agg (tCase.cells demoCase), iI 1] (· = .tuple [iI 0, iI 9]) := by
  have := c37 demoCase 1; rw [known_older] at this; exact this
theorem k39_0 : PC 39 [.agg (tCase.cells demoCase), iI 0] (· = .tuple [.agg [iI 0, iI 0], iI 9]) := by
  have := c39 demoCase 0; rw [known_look0] at this; exact this
theorem k39_2 : PC 39 [.agg (tCase.cells demoCase), iI 2] (· = .tuple [.agg [iI 0, iI 0], iI 2]) := by
  have := c39 demoCase 2; rw [known_look2] at this; exact this
theorem c7 : PC 7 [] (· = .bool true) := by
  refine w7  (WP.step ?_)
  simp only [T7, Go, Ends', v7, Tr.sure, SS]
  repeat' with_reducible first | intro _ | apply And.intro
  all_goals first | exact c41f | exact k29 | exact k37 | exact k39_0 | exact k39_2 | exact c23 | (simp_all [Go, Ends', v7, -List.getD_eq_getElem?_getD]; done)
end
end Go.Proofs.YtdamoemndifpmaaGreat
