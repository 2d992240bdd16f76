/-
  Part of the proof of DoorKnown. Conditions: those that stand in each theorem.
-/
import Derived.Test.YtfgmckfomckliaaB13
set_option linter.unusedSimpArgs false
set_option linter.unusedVariables false
set_option maxRecDepth 100000
namespace Go.Proofs.Ytfgmckfomckliaa
open Ab Go
noncomputable section
theorem kn_12 : schoolR bkB 12 = (72, 0) := by decide +kernel
theorem kn_13 : schoolR bkB 13 = (72, 0) := by decide +kernel
theorem kn_together : togetherR bkB 0 = (150, 150, 0) := by decide +kernel
theorem kn_could : couldR bkB 2 = (⟨42, 72⟩, 0) := by kernel_rfl
theorem kn_first : firstT bkB 2 = (⟨0, 0, []⟩, 0, 8) := by kernel_rfl
theorem kn_missed : missedR bkB 0 = (0, 0) := by kernel_rfl
inductive P3k
  | e
inductive R3k
  | r0 (r0 : Bool)
noncomputable def T3k : P3k → Tr P3k R3k
  | .e => (.call 4 [] (.agg [.int .i64 bkB.price, tRoom.lst bkB.rooms, tDay.lst bkB.days]) true true (.call 5 [.agg [.int .i64 bkB.price, tRoom.lst bkB.rooms, tDay.lst bkB.days], .int .i64 12] (.tuple [.int .i64 72, .int .i64 0]) true true (.call 5 [.agg [.int .i64 bkB.price, tRoom.lst bkB.rooms, tDay.lst bkB.days], .int .i64 13] (.tuple [.int .i64 72, .int .i64 0]) true true (.call 6 [.agg [.int .i64 bkB.price, tRoom.lst bkB.rooms, tDay.lst bkB.days], .int .i64 0] (.tuple [.int .i64 150, .int .i64 150, .int .i64 0]) true true (.call 7 [.agg [.int .i64 bkB.price, tRoom.lst bkB.rooms, tDay.lst bkB.days], .int .i64 2] (.tuple [.agg [.int .i64 42, .int .i64 72], .int .i64 0]) true true (.call 8 [.agg [.int .i64 bkB.price, tRoom.lst bkB.rooms, tDay.lst bkB.days], .int .i64 2] (.tuple [.agg [.int .i64 0, .int .i64 0, tint.lst ([] : List Int)], .int .i64 0, .int .i64 8]) true true (.call 9 [.agg [.int .i64 bkB.price, tRoom.lst bkB.rooms, tDay.lst bkB.days], .int .i64 0] (.tuple [.int .i64 0, .int .i64 0]) true true (.br (((42 : Int) == (42 : Int)) && (((72 : Int) == (72 : Int)) && true)) (.front [(40, 10, [.int .i64 42, .int .i64 72], .agg [.int .i64 42, .int .i64 72]), (48, 11, [], .bool true)] [(43, true)] ((((((42 : Int) == (42 : Int)) && (((72 : Int) == (72 : Int)) && true)) == true) && true) && true) true (.out (.r0 true))) (.front [(40, 10, [.int .i64 42, .int .i64 72], .agg [.int .i64 42, .int .i64 72])] [(43, false)] ((((((42 : Int) == (42 : Int)) && (((72 : Int) == (72 : Int)) && true)) == false) && true) && true) true (.out (.r0 false)))))))))))
noncomputable def g3k : P3k → List Item × St
  | .e => ([.code (Try.f3.body.getD .skip)], ⟨[] ++ List.replicate 99 .undef, [], []⟩)
noncomputable def n3k : R3k → Exit × St
  | .r0 r0 => (.ret, ⟨mk 99 [(0, .bool r0)], [], []⟩)
noncomputable def v3k : R3k → V
  | .r0 r0 => .bool r0
theorem s3k : ∀ a, ∃ k, runG Try.prog 0 k (startOf (g3k a).1) (g3k a).2 ((T3k a).toD (g3k) (n3k)) = some ((T3k a).toD (g3k) (n3k))
  | .e => ⟨400, by kernel_rfl⟩
theorem q3k : ∀ r, bodyQ Try.prog Try.f3 (· = v3k r) (n3k r).1 (n3k r).2
  | .r0 r0 => ⟨.inr rfl, by simp [n3k], (.bool r0), (.bool r0), by kernel_rfl, (.imm rfl), rfl⟩
theorem w3k {post : V → Prop} (h : WP Try.prog ⟨none, 0⟩ (T3k) (Ends' fun r => post (v3k r)) .e) : PCalls Try.prog 3 [] post :=
  PCalls.wp mx Try.func3 (by kernel_rfl) (by kernel_rfl) (T3k) (g3k) (n3k) .e rfl (s3k) h fun r hr => bodyQ_mono (q3k r) fun v hv => by subst hv; exact hr
theorem k5a : PCalls Try.prog 5 [.agg (tBook.cells bkB), .int .i64 12] (· = .tuple [.int .i64 72, .int .i64 0]) := by
  have := c15 bkB 12 SmB.bk; rw [kn_12] at this; exact this
theorem k5b : PCalls Try.prog 5 [.agg (tBook.cells bkB), .int .i64 13] (· = .tuple [.int .i64 72, .int .i64 0]) := by
  have := c15 bkB 13 SmB.bk; rw [kn_13] at this; exact this
theorem k6a : PCalls Try.prog 6 [.agg (tBook.cells bkB), .int .i64 0] (· = .tuple [.int .i64 150, .int .i64 150, .int .i64 0]) := by
  have := c17 bkB 0 SmB.bk; rw [kn_together] at this; exact this
theorem k7a : PCalls Try.prog 7 [.agg (tBook.cells bkB), .int .i64 2] (· = .tuple [.agg [.int .i64 42, .int .i64 72], .int .i64 0]) := by
  have := c19 bkB 2 SmB.bk; rw [kn_could] at this; exact this
theorem k8a : PCalls Try.prog 8 [.agg (tBook.cells bkB), .int .i64 2] (· = .tuple [.agg [.int .i64 0, .int .i64 0, tint.lst []], .int .i64 0, .int .i64 8]) := by
  have := c22 bkB 2 SmB.bk; rw [kn_first] at this; exact this
theorem k9a : PCalls Try.prog 9 [.agg (tBook.cells bkB), .int .i64 0] (· = .tuple [.int .i64 0, .int .i64 0]) := by
  have := c31 bkB 0 SmB.bk; rw [kn_missed] at this; exact this
theorem c3k : PCalls Try.prog 3 [] (· = .bool true) := by
  refine w3k  (WP.step ?_)
  simp only [T3k, Go, Ends', v3k, Tr.sure, List.forall_mem_cons, List.not_mem_nil, false_imp_iff, true_imp_iff, implies_true, and_true, true_and, decide_eq_true_eq, decide_eq_false_iff_not, Bool.not_eq_eq_eq_not, Bool.not_true, Bool.not_false, beq_iff_eq, beq_eq_false_iff_ne, bne_iff_ne, bne_eq_false_iff_eq, Bool.and_eq_true, Bool.true_eq_false, Bool.false_eq_true, Int.lt_irrefl, Int.ofNat_lt, not_false_eq_true, not_true_eq_false, Int.toNat_natCast, Int.natCast_nonneg, ne_eq, gt_iff_lt, ge_iff_le, Int.natCast_eq_zero]
  repeat' (first | exact True.intro | (with_reducible intro _) | (with_reducible refine And.intro ?_ ?_))
  all_goals first | (exact c73) | (exact (c74 _ _)) | (exact k5a) | (exact k5b) | (exact k6a) | (exact k7a) | (exact k8a) | (exact k9a) | (exact c21) | (simp [Go, Ends', v3k, z1, z2, z3, z4, z5, -List.getD_eq_getElem?_getD, *]; done) | (simp_all [Go, Ends', v3k, z1, z2, z3, z4, z5, -List.getD_eq_getElem?_getD]; done) | (simp +contextual [Go, Ends', v3k, z1, z2, z3, z4, z5, -List.getD_eq_getElem?_getD, *]; done) | skip
end
end Go.Proofs.Ytfgmckfomckliaa
