/-
  Part of the proof of DoorFirsts. Conditions: those that stand in each theorem.
-/
import Derived.Test.YtfgmckfomckliaaGreatF01
set_option linter.unusedSimpArgs false
set_option linter.unusedVariables false
set_option maxRecDepth 100000
namespace Go.Proofs.YtfgmckfomckliaaGreat
open Ab Go
noncomputable section
inductive P26
  | e
inductive R26
  | r0 (r0_0 : Int) (r0_1 : Int) (r1_0 : Int) (r1_1 : Int) (r2 : Int)
noncomputable def T26 (b : Book) (d : Int) : P26 → Tr P26 R26
  | .e => let c1 := explainedR b d (askedR b d); let c2 := spanR (c1.1) 1; let c3 := spanR (c1.1) 0; (.front [(4, 65, [.agg (cC b), iI d], iI (askedR b d)), (5, 76, [.agg (cC b), iI d, iI (askedR b d)], .tuple [tTruth.lst (c1.1), iI (c1.2)])] [] true true (.br (c1.2 != (0 : Int)) (.out (.r0 0 0 0 0 (c1.2))) (.call 81 [tTruth.lst (c1.1), iI 0] (.agg [iI (c3.lo), iI (c3.hi)]) true true (.call 81 [tTruth.lst (c1.1), iI 1] (.agg [iI (c2.lo), iI (c2.hi)]) true true (.out (.r0 (c3.lo) (c3.hi) (c2.lo) (c2.hi) 0))))))
noncomputable def g26 (b : Book) (d : Int) : P26 → List Item × St
  | .e => bd Tryz.f26 [.agg (cC b), iI d] 25
noncomputable def n26 : R26 → Exit × St
  | .r0 r0_0 r0_1 r1_0 r1_1 r2 => (.ret, ⟨mk 27 [(4, .ref 1 0 0), (5, .ref 2 0 0), (6, iI r2)], [.gone, .cells [iI r0_0, iI r0_1], .cells [iI r1_0, iI r1_1]], []⟩)
noncomputable def v26 : R26 → V
  | .r0 r0_0 r0_1 r1_0 r1_1 r2 => .tuple [.agg [iI r0_0, iI r0_1], .agg [iI r1_0, iI r1_1], iI r2]
theorem s26 (b : Book) (d : Int) : Sm 0 (g26 b d) (T26 b d) (n26)
  | .e => ⟨400, by kernel_rfl⟩
theorem q26 : ∀ r, bodyQ Tryz.prog Tryz.f26 (· = v26 r) (n26 r).1 (n26 r).2
  | .r0 r0_0 r0_1 r1_0 r1_1 r2 => bq (.tuple [.agg [iI r0_0, iI r0_1], .agg [iI r1_0, iI r1_1], iI r2]) (by kernel_rfl)
theorem w26 (b : Book) (d : Int) {post : V → Prop} (h : WQ (T26 b d) v26 post .e) : PC 26 [.agg (cC b), iI d] post :=
  PCalls.wq Tryz.func26 (s26 b d) q26 h
theorem c26 (b : Book) (d : Int) : PC 26 [.agg (tBook.cells b), iI d] (· = .tuple [.agg (tSpan.cells (visR b d).1), .agg (tSpan.cells (visR b d).2.1), iI (visR b d).2.2]) := by
  have k76 := c76 b d (askedR b d) (asked76 id)
  rcases explained_cases b d (askedR b d) with ⟨f, hf, hf0⟩ | ⟨ha, hf, h0⟩
  · have e : visR b d = (⟨0, 0⟩, ⟨0, 0⟩, f) := by unfold visR; rw [hf, if_pos hf0]
    rw [hf] at k76
    refine w26 b d (WP.step ?_)
    simp only [T26, Go, Ends', v26, Tr.sure, SS, hf]
    repeat' with_reducible first | intro _ | apply And.intro
    all_goals first | exact (c65 _ _) | exact k76 | (simp [e, hf0, tSpan, Go, Ends', v26, -List.getD_eq_getElem?_getD, *]; done) | (simp_all [e, hf0, tSpan, Go, Ends', v26, -List.getD_eq_getElem?_getD]; done)
  · obtain ⟨h, hd1, hd2, hday⟩ := asked_ok ha
    have e : visR b d = (spanR (agreeD b d) 0, spanR (agreeD b d) 1, 0) := by unfold visR; rw [hf, if_neg (fun q => q rfl)]
    rw [hf] at k76
    have hin := agreeD_in h hday
    have hnr := h.nr
    have k81 := fun at_ ha => c81 (agreeD b d) at_ b.rooms.length h0 (agreeD_len h hday) (fun t ht => (hin t ht).1) (by omega) ha
    have k0 := k81 0 (by omega)
    have k1 := k81 1 (by omega)
    refine w26 b d (WP.step ?_)
    simp only [T26, Go, Ends', v26, Tr.sure, SS, hf]
    repeat' with_reducible first | intro _ | apply And.intro
    all_goals first | exact (c65 _ _) | exact k76 | exact k0 | exact k1 | (simp [e, tSpan, Go, Ends', v26, -List.getD_eq_getElem?_getD, *]; done)
inductive P28
  | e
inductive R28
  | r0 (r0_0 : Int) (r0_1 : Int) (r1 : Int)
noncomputable def T28 (b : Book) (d : Int) (r : Int) : P28 → Tr P28 R28
  | .e => let c1 : Tr P28 R28 := .call 76 [.agg (cC b), iI d, iI (askedR b d)] (.tuple [tTruth.lst ((explainedR b d (askedR b d)).1), iI ((explainedR b d (askedR b d)).2)]) true true (.br ((explainedR b d (askedR b d)).2 != (0 : Int)) (.out (.r0 0 0 ((explainedR b d (askedR b d)).2))) (.need (inR .i64 ((2 : Int) + r)) (.call 81 [tTruth.lst ((explainedR b d (askedR b d)).1), iI ((2 : Int) + r)] (.agg [iI ((spanR ((explainedR b d (askedR b d)).1) ((2 : Int) + r)).lo), iI ((spanR ((explainedR b d (askedR b d)).1) ((2 : Int) + r)).hi)]) true true (.out (.r0 ((spanR ((explainedR b d (askedR b d)).1) ((2 : Int) + r)).lo) ((spanR ((explainedR b d (askedR b d)).1) ((2 : Int) + r)).hi) 0))))); let c3 := (b.rooms.length : Int) - (1 : Int); let c4 := explainedR b d 4; let c2 := spanR (c4.1) ((2 : Int) + r); (.call 65 [.agg (cC b), iI d] (iI (askedR b d)) true true (.br ((askedR b d) == (0 : Int)) (.need (inR .i64 c3) (.call 58 [iI r, iI 0, iI c3] (.bool (within r 0 c3)) true true (.br (!(within r 0 c3)) (.call 76 [.agg (cC b), iI d, iI 4] (.tuple [tTruth.lst (c4.1), iI (c4.2)]) true true (.br (c4.2 != (0 : Int)) (.out (.r0 0 0 (c4.2))) (.need (inR .i64 ((2 : Int) + r)) (.call 81 [tTruth.lst (c4.1), iI ((2 : Int) + r)] (.agg [iI (c2.lo), iI (c2.hi)]) true true (.out (.r0 (c2.lo) (c2.hi) 0)))))) c1))) (.lit false c1)))
noncomputable def g28 (b : Book) (d : Int) (r : Int) : P28 → List Item × St
  | .e => bd Tryz.f28 [.agg (cC b), iI d, iI r] 36
noncomputable def n28 : R28 → Exit × St
  | .r0 r0_0 r0_1 r1 => (.ret, ⟨mk 39 [(6, .ref 1 0 0), (7, iI r1)], [.gone, .cells [iI r0_0, iI r0_1]], []⟩)
noncomputable def v28 : R28 → V
  | .r0 r0_0 r0_1 r1 => .tuple [.agg [iI r0_0, iI r0_1], iI r1]
theorem s28 (b : Book) (d : Int) (r : Int) : Sm 0 (g28 b d r) (T28 b d r) (n28)
  | .e => ⟨400, by kernel_rfl⟩
theorem q28 : ∀ r, bodyQ Tryz.prog Tryz.f28 (· = v28 r) (n28 r).1 (n28 r).2
  | .r0 r0_0 r0_1 r1 => bq (.tuple [.agg [iI r0_0, iI r0_1], iI r1]) (by kernel_rfl)
theorem w28 (b : Book) (d : Int) (r : Int) {post : V → Prop} (h : WQ (T28 b d r) v28 post .e) : PC 28 [.agg (cC b), iI d, iI r] post :=
  PCalls.wq Tryz.func28 (s28 b d r) q28 h
theorem c28 (b : Book) (d r : Int) : PC 28 [.agg (tBook.cells b), iI d, iI r] (· = .tuple [.agg (tSpan.cells (roomR b d r).1), iI (roomR b d r).2]) := by
  by_cases ha : askedR b d = 0
  · obtain ⟨h, hd1, hd2, hday⟩ := asked_ok ha
    have hnr := h.nr
    have q1 : inR .i64 ((b.rooms.length : Int) - 1) = true := inR64 (by omega) (by omega)
    by_cases hw : within r 0 ((b.rooms.length : Int) - 1) = true
    · have hw' := within_iff.1 hw
      have he : roomE b d r = 0 := by unfold roomE; rw [if_neg (fun q => q ha), if_pos hw]
      have k76 := c76 b d (askedR b d) (asked76 id)
      have q2 : inR .i64 (2 + r) = true := inR64 (by omega) (by omega)
      rcases explained_cases b d (askedR b d) with ⟨f, hf, hf0⟩ | ⟨-, hf, h0⟩
      · have e : roomR b d r = (⟨0, 0⟩, f) := by rw [ha] at hf; unfold roomR; rw [he, hf, if_pos hf0]
        rw [hf] at k76
        refine w28 b d r (WP.step ?_)
        simp only [T28, Go, Ends', v28, Tr.sure, SS, hf]
        repeat' with_reducible first | intro _ | apply And.intro
        all_goals first | exact (c65 _ _) | exact (c58 _ _ _) | exact k76 | (simp [e, hf0, tSpan, q1, ha, hw, Go, Ends', v28, -List.getD_eq_getElem?_getD, *]; done) | (simp_all [e, hf0, tSpan, q1, ha, hw, Go, Ends', v28, -List.getD_eq_getElem?_getD]; done)
      · have e : roomR b d r = (spanR (agreeD b d) (2 + r), 0) := by rw [ha] at hf; unfold roomR; rw [he, hf, if_neg (fun q => q rfl)]
        rw [hf] at k76
        have hin := agreeD_in h hday
        have k81 := c81 (agreeD b d) (2 + r) b.rooms.length h0 (agreeD_len h hday) (fun t ht => (hin t ht).1) (by omega) (by omega)
        refine w28 b d r (WP.step ?_)
        simp only [T28, Go, Ends', v28, Tr.sure, SS, hf]
        repeat' with_reducible first | intro _ | apply And.intro
        all_goals first | exact (c65 _ _) | exact (c58 _ _ _) | exact k76 | exact k81 | (simp [e, tSpan, q1, q2, ha, hw, Go, Ends', v28, -List.getD_eq_getElem?_getD, *]; done) | (simp_all [e, tSpan, q1, q2, ha, hw, Go, Ends', v28, -List.getD_eq_getElem?_getD]; done)
    · have he : roomE b d r = 4 := by unfold roomE; rw [if_neg (fun q => q ha), if_neg hw]
      have hx : explainedR b d 4 = ([], 4) := rfl
      have k76 := c76 b d 4 (fun q => absurd q (by decide))
      rw [hx] at k76
      have e : roomR b d r = (⟨0, 0⟩, 4) := by unfold roomR; rw [he, hx]; rfl
      have hw' := Bool.eq_false_iff.2 hw
      refine w28 b d r (WP.step ?_)
      simp only [T28, Go, Ends', v28, Tr.sure, SS, hx]
      repeat' with_reducible first | intro _ | apply And.intro
      all_goals first | exact (c65 _ _) | exact (c58 _ _ _) | exact k76 | (simp [e, tSpan, q1, ha, hw', Go, Ends', v28, -List.getD_eq_getElem?_getD, *]; done) | (simp_all [e, tSpan, q1, ha, hw', Go, Ends', v28, -List.getD_eq_getElem?_getD]; done)
  · have he : roomE b d r = askedR b d := by unfold roomE; rw [if_pos ha]
    have hx : explainedR b d (askedR b d) = ([], askedR b d) := by unfold explainedR; rw [if_pos ha]
    have k76 := c76 b d (askedR b d) (asked76 id)
    rw [hx] at k76
    have e : roomR b d r = (⟨0, 0⟩, askedR b d) := by unfold roomR; rw [he, hx, if_pos ha]
    refine w28 b d r (WP.step ?_)
    simp only [T28, Go, Ends', v28, Tr.sure, SS, hx]
    repeat' with_reducible first | intro _ | apply And.intro
    all_goals first | exact (c65 _ _) | exact k76 | (simp [e, tSpan, ha, Go, Ends', v28, -List.getD_eq_getElem?_getD, *]; done) | (simp_all [e, tSpan, ha, Go, Ends', v28, -List.getD_eq_getElem?_getD]; done)
inductive P30
  | e
inductive R30
  | r0 (r0_0 : Int) (r0_1 : Int) (r0_2 : Int) (r0_3 : Int) (r1 : Int)
noncomputable def T30 (b : Book) (d : Int) : P30 → Tr P30 R30
  | .e => let c1 := firstT b d; let c2 := b.price.tdiv (2 : Int); let c3 := c1.1.rooms; (.wait 2 (.telb 1 1 4 (fun _ j => ([iI 0] : List V).getD j uU) (rowsFn tint (fun _ => tint.zero)) (.call 23 [.agg (cC b), iI d] (.tuple [.agg [iI (c1.1.adults), iI (c1.1.children), tint.lst c3], iI (c1.2.1), iI (c1.2.2)]) true true (.br (c1.2.2 != (0 : Int)) (.out (.r0 0 0 0 0 (c1.2.2))) (.front [(13, 44, [.agg (cC b), iI d], iI (feesD b d)), (17, 45, [.agg (cC b), tint.lst c3], iI (extraR b c3))] [] (((inR .i64 (b.price * c1.1.adults)) && ((decide ((2 : Int) ≠ 0) && inR .i64 c2) && ((inR .i64 (c2 * c1.1.children)) && true))) && true) true (.out (.r0 (b.price * c1.1.adults) (c2 * c1.1.children) (feesD b d) (extraR b c3) 0)))))))
noncomputable def g30 (b : Book) (d : Int) : P30 → List Item × St
  | .e => bd Tryz.f30 [.agg (cC b), iI d] 37
noncomputable def n30 : R30 → Exit × St
  | .r0 r0_0 r0_1 r0_2 r0_3 r1 => (.ret, ⟨mk 39 [(4, .ref 1 0 0), (5, iI r1)], [.gone, .rows 49 1 4 (fun r j => ([iI r0_0, iI r0_1, iI r0_2, iI r0_3] : List V).getD (r * 1 + j) uU)], []⟩)
noncomputable def v30 : R30 → V
  | .r0 r0_0 r0_1 r0_2 r0_3 r1 => .tuple [.arr 1 4 (rowsFn tint (fn4 r0_0 r0_1 r0_2 r0_3)), iI r1]
theorem s30 (b : Book) (d : Int) : Sm 0 (g30 b d) (T30 b d) (n30)
  | .e => ⟨400, by kernel_rfl⟩
theorem q30 : ∀ r, bodyQ Tryz.prog Tryz.f30 (· = v30 r) (n30 r).1 (n30 r).2
  | .r0 r0_0 r0_1 r0_2 r0_3 r1 => ⟨.inr rfl, by simp [n30], (.tuple [.arr 1 4 (fun r j => ([iI r0_0, iI r0_1, iI r0_2, iI r0_3] : List V).getD (r * 1 + j) uU), iI r1]), (.tuple [.arr 1 4 (rowsFn tint (fn4 r0_0 r0_1 r0_2 r0_3)), iI r1]), by kernel_rfl, (.tuple rfl fun j hj => match j, hj with | 0, _ => .weak (.imm rfl) (arr4 _ _ _ _) | 1, _ => .imm rfl), rfl⟩
theorem w30 (b : Book) (d : Int) {post : V → Prop} (h : WQ (T30 b d) v30 post .e) : PC 30 [.agg (cC b), iI d] post :=
  PCalls.wq Tryz.func30 (s30 b d) q30 h
theorem first_cases (b : Book) (d : Int) : (∃ f, firstT b d = (⟨0, 0, []⟩, 0, f) ∧ f ≠ 0 ∧ (explainedR b d (askedR b d)).2 = f) ∨ (askedR b d = 0 ∧ 0 < (agreeD b d).length ∧ firstT b d = (bestD (agreeD b d), ((agreeD b d).length : Int), 0)) := by
  unfold firstT
  rcases explained_cases b d (askedR b d) with ⟨f, hf, hf0⟩ | ⟨ha, hf, h0⟩
  · rw [hf, if_pos hf0]; exact .inl ⟨f, rfl, hf0, rfl⟩
  · rw [hf, if_neg (fun q => q rfl)]; exact .inr ⟨ha, h0, rfl⟩
theorem c30 (b : Book) (d : Int) : PC 30 [.agg (tBook.cells b), iI d] (· = .tuple [.arr 1 4 (rowsFn tint (splitR b d).1), iI (splitR b d).2]) := by
  have k23 := c23 b d
  have hz : ∀ r j, VLe (([iI 0] : List V).getD j uU) (rowsFn tint (fun _ => 0) r j) := fun r j => VLe.refl _
  rcases first_cases b d with ⟨f, hf, hf0, -⟩ | ⟨ha, h0, hf⟩
  · have e : splitR b d = (fn4 0 0 0 0, f) := by unfold splitR; rw [hf, if_pos hf0]
    rw [hf] at k23
    refine w30 b d (WP.step ?_)
    simp only [T30, Go, Ends', v30, Tr.sure, SS, hf, z1]
    repeat' with_reducible first | intro _ | apply And.intro
    all_goals first | exact k23 | exact (by with_reducible exact hz _ _) | (simp [e, hf0, Go, Ends', v30, -List.getD_eq_getElem?_getD, *]; done) | (simp_all [e, hf0, Go, Ends', v30, -List.getD_eq_getElem?_getD]; done)
  · obtain ⟨h, hd1, hd2, hday⟩ := asked_ok ha
    have hd : 0 ≤ d ∧ d < b.days.length := ⟨hd1, hd2⟩
    obtain ⟨m1, m2, m3, m4⟩ := agreeD_in h hday _ (bestD_mem h0)
    have hnr := h.nr
    rw [hf] at k23
    have e : splitR b d = (fn4 (b.price * (bestD (agreeD b d)).adults) (b.price.tdiv 2 * (bestD (agreeD b d)).children) (feesD b d) (extraR b (bestD (agreeD b d)).rooms), 0) := by unfold splitR; rw [hf]; rfl
    have k44 := c44 b d h hd
    generalize bestD (agreeD b d) = t at *
    have k45 := c45 b t.rooms h (fun n hn => by have := m2 n hn; omega) (by omega)
    have hm1 := half_mul h m3
    have hm2 := half_mul h m4
    have q0 : inR .i64 (b.price.tdiv 2) = true := by have := half_in h; exact inR64 (by omega) (by omega)
    have q1 : inR .i64 (b.price * t.adults) = true := inR64 (by omega) (by omega)
    have q2 : inR .i64 (b.price.tdiv 2 * t.children) = true := inR64 (by omega) (by omega)
    refine w30 b d (WP.step ?_)
    simp only [T30, Go, Ends', v30, Tr.sure, SS, hf, z1]
    repeat' with_reducible first | intro _ | apply And.intro
    all_goals first | exact k23 | exact k44 | exact k45 | exact (by with_reducible exact hz _ _) | (simp [e, q0, q1, q2, Go, Ends', v30, -List.getD_eq_getElem?_getD, *]; done)
end
noncomputable section
theorem first_how (b : Book) (d : Int) : (∃ f, firstT b d = (zTruth, 0, f) ∧ f ≠ 0 ∧ (askedR b d = 0 → f = 8 ∧ (agreeD b d).length = 0)) ∨ (askedR b d = 0 ∧ 0 < (agreeD b d).length ∧ firstT b d = (bestD (agreeD b d), ((agreeD b d).length : Int), 0)) := by
  by_cases ha : askedR b d = 0
  · by_cases hz : (agreeD b d).length = 0
    · have hx : explainedR b d (askedR b d) = ([], 8) := by unfold explainedR; rw [if_neg (fun q => q ha), if_pos hz]
      left
      refine ⟨8, ?_, by decide, fun _ => ⟨rfl, hz⟩⟩
      unfold firstT; rw [hx]; rfl
    · have hx : explainedR b d (askedR b d) = (agreeD b d, 0) := by unfold explainedR; rw [if_neg (fun q => q ha), if_neg hz]
      right
      refine ⟨ha, by omega, ?_⟩
      unfold firstT; rw [hx]; rfl
  · have hx : explainedR b d (askedR b d) = ([], askedR b d) := by unfold explainedR; rw [if_pos ha]
    left
    refine ⟨askedR b d, ?_, ha, fun h => absurd h ha⟩
    unfold firstT; rw [hx, if_pos ha]; rfl
theorem first_len (b : Book) (d : Int) : (firstT b d).1.rooms.length ≤ 1000 := by
  rcases first_how b d with ⟨f, e, _⟩ | ⟨ha, h0, e⟩
  · rw [e]; show (0 : Nat) ≤ 1000; decide
  · rw [e]
    obtain ⟨h, hd1, hd2, hday⟩ := asked_ok ha
    have h1 := (agreeD_in h hday _ (bestD_mem h0)).1
    have h2 := h.nr
    show (bestD (agreeD b d)).rooms.length ≤ 1000
    omega
inductive P4
  | e
inductive R4
  | r0 (r0 : Bool)
noncomputable def T4 (b : Book) (x : Asked) : P4 → Tr P4 R4
  | .e => let c2 := visR b x.day; let c3 := roomR b x.day x.room; let c4 := splitR b x.day; let c5 := firstT b x.day; let c1 : List V := [iI (c5.1.adults), iI (c5.1.children), tint.lst (c5.1.rooms)]; let c6 : Tr P4 R4 := .out (.r0 false); let c7 : List V := [.agg (cC b), iI x.day]; let c8 : V := .tuple [.agg [iI (c2.1.lo), iI (c2.1.hi)], .agg [iI (c2.2.1.lo), iI (c2.2.1.hi)], iI (c2.2.2)]; let c9 : V := .tuple [.agg [iI (c3.1.lo), iI (c3.1.hi)], iI (c3.2)]; let c10 : V := .tuple [.arr 1 4 (rowsFn tint (c4.1)), iI (c4.2)]; let c11 : Tr P4 R4 := .lit true c6; let c12 : V := .tuple [.agg c1, iI (c5.2.1), iI (c5.2.2)]; let c13 : List V := [.agg (cC b), iI x.day, iI x.room]; (.call 22 c7 c12 true true (.call 23 c7 c12 true true (.call 24 [.agg c1, .agg c1] (.bool (alikeR (c5.1) (c5.1))) true true (.br (!(alikeR (c5.1) (c5.1))) (.lit true c11) (.br (c5.2.1 != c5.2.1) c11 (.br (c5.2.2 != c5.2.2) c6 (.call 25 c7 c8 true true (.call 26 c7 c8 true true (.br (!((c2.1.lo == c2.1.lo) && ((c2.1.hi == c2.1.hi) && true))) (.lit true c11) (.br (!((c2.2.1.lo == c2.2.1.lo) && ((c2.2.1.hi == c2.2.1.hi) && true))) c11 (.br (c2.2.2 != c2.2.2) c6 (.call 27 c13 c9 true true (.call 28 c13 c9 true true (.br (!((c3.1.lo == c3.1.lo) && ((c3.1.hi == c3.1.hi) && true))) c11 (.br (c3.2 != c3.2) c6 (.call 29 c7 c10 true true (.call 30 c7 c10 true true (.br ((((c4.1) 0) == ((c4.1) 0)) && ((((c4.1) 1) == ((c4.1) 1)) && ((((c4.1) 2) == ((c4.1) 2)) && ((((c4.1) 3) == ((c4.1) 3)) && true)))) (.br (c4.2 == c4.2) (.call 21 [] (.bool true) true true (.out (.r0 true))) c6) (.lit false c6)))))))))))))))))))
noncomputable def g4 (b : Book) (x : Asked) : P4 → List Item × St
  | .e => bd Tryz.f4 [.agg (cC b), .agg [iI x.children, iI x.day, iI x.room]] 125
noncomputable def n4 : R4 → Exit × St
  | .r0 r0 => (.ret, ⟨mk 127 [(4, .bool r0)], [], []⟩)
noncomputable def v4 : R4 → V
  | .r0 r0 => .bool r0
theorem s4 (b : Book) (x : Asked) : Sm 0 (g4 b x) (T4 b x) (n4)
  | .e => ⟨400, by kernel_rfl⟩
theorem q4 : ∀ r, bodyQ Tryz.prog Tryz.f4 (· = v4 r) (n4 r).1 (n4 r).2
  | .r0 r0 => bq (.bool r0) (by kernel_rfl)
theorem w4 (b : Book) (x : Asked) {post : V → Prop} (h : WQ (T4 b x) v4 post .e) : PC 4 [.agg (cC b), .agg [iI x.children, iI x.day, iI x.room]] post :=
  PCalls.wq Tryz.func4 (s4 b x) q4 h
theorem alike_self (t : Truth) : alikeR t t = true := by simp [alikeR, sameI]
theorem c4 (b : Book) (x : Asked) (hs : SmB b) : PC 4 [.agg (tBook.cells b), .agg (tAsked.cells x)] (· = .bool true) := by
  refine w4 b x (WP.step ?_)
  simp only [T4, Go, Ends', v4, Tr.sure, SS]
  repeat' with_reducible first | intro _ | apply And.intro
  all_goals first | exact (c22 b _ hs) | exact (c23 b _) | exact (c24 _ _ (first_len _ _) (first_len _ _)) | exact (c25 b _ hs) | exact (c26 b _) | exact (c27 b _ _ hs) | exact (c28 b _ _) | exact (c29 b _ hs) | exact (c30 b _) | exact c21 | (simp_all [alike_self, Go, Ends', v4, -List.getD_eq_getElem?_getD]; done)
end
end Go.Proofs.YtfgmckfomckliaaGreat
