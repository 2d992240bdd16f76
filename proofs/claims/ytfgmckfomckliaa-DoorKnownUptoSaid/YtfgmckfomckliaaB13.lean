/-
  Part of the proof of the law DoorKnown. Conditions: those that stand in each theorem.
-/
import Derived.Test.YtfgmckfomckliaaRows
import Derived.ChangeArms
import Derived.ChangeSame
import Derived.WideKeyArgs
import Derived.WalkKit
import Derived.ProofKit
import Derived.OpenShut
import Derived.JoinedCond
import Derived.Test.YtfgmckfomckliaaB12
set_option linter.unusedSimpArgs false
set_option linter.unusedVariables false
set_option maxRecDepth 100000
namespace Go.Proofs.Ytfgmckfomckliaa
open Ab Go
noncomputable section
inductive P107
  | e
inductive R107
  | r0 (r0_0 : Int) (r0_1 : Int)
noncomputable def T107 (x : Int) (y : Int) : P107 → Tr P107 R107
  | .e => (.out (.r0 x y))
noncomputable def g107 (x : Int) (y : Int) : P107 → List Item × St
  | .e => bd Try.f12 [iI x, iI y] 6
noncomputable def n107 : R107 → Exit × St
  | .r0 r0_0 r0_1 => (.ret, ⟨mk 8 [(4, .ref 0 0 0)], [.cells [iI r0_0, iI r0_1]], []⟩)
noncomputable def v107 : R107 → V
  | .r0 r0_0 r0_1 => .agg [iI r0_0, iI r0_1]
theorem s107 (x : Int) (y : Int) : Sm 0 (g107 x y) (T107 x y) (n107)
  | .e => ⟨400, by kernel_rfl⟩
theorem q107 : ∀ r, bodyQ Try.prog Try.f12 (· = v107 r) (n107 r).1 (n107 r).2
  | .r0 r0_0 r0_1 => bq (.agg [iI r0_0, iI r0_1]) (by kernel_rfl)
theorem w107 (x : Int) (y : Int) {post : V → Prop} (h : WQ (T107 x y) v107 post .e) : PC 12 [iI x, iI y] post :=
  PCalls.wq Try.func12 (s107 x y) q107 h
theorem c107 (x y : Int) : PC 12 [iI x, iI y] (· = .agg [iI x, iI y]) := by
  refine w107 x y (WP.step ?_)
  simp only [T107, Go, Ends', v107, Tr.sure, SS]
  repeat' with_reducible first | intro _ | apply And.intro
  all_goals first
    | rfl
inductive P74
  | e
inductive R74
  | r0 (r0_0 : Int) (r0_1 : Int)
noncomputable def T74 (x : Int) (y : Int) : P74 → Tr P74 R74
  | .e => (.out (.r0 x y))
noncomputable def g74 (x : Int) (y : Int) : P74 → List Item × St
  | .e => bd Try.f10 [iI x, iI y] 6
noncomputable def n74 : R74 → Exit × St
  | .r0 r0_0 r0_1 => (.ret, ⟨mk 8 [(4, .ref 0 0 0)], [.cells [iI r0_0, iI r0_1]], []⟩)
noncomputable def v74 : R74 → V
  | .r0 r0_0 r0_1 => .agg [iI r0_0, iI r0_1]
theorem s74 (x : Int) (y : Int) : Sm 0 (g74 x y) (T74 x y) (n74)
  | .e => ⟨400, by kernel_rfl⟩
theorem q74 : ∀ r, bodyQ Try.prog Try.f10 (· = v74 r) (n74 r).1 (n74 r).2
  | .r0 r0_0 r0_1 => bq (.agg [iI r0_0, iI r0_1]) (by kernel_rfl)
theorem w74 (x : Int) (y : Int) {post : V → Prop} (h : WQ (T74 x y) v74 post .e) : PC 10 [iI x, iI y] post :=
  PCalls.wq Try.func10 (s74 x y) q74 h
theorem c74 (x y : Int) : PC 10 [iI x, iI y] (· = .agg [iI x, iI y]) := by
  refine w74 x y (WP.step ?_)
  simp only [T74, Go, Ends', v74, Tr.sure, SS]
  repeat' with_reducible first | intro _ | apply And.intro
  all_goals first
    | rfl
theorem litC_le {w n : Nat} {cs bs : List V} (h : ∀ j, VLe (cs.getD j uU) (bs.getD j uU)) : VLe (.list w n (litC w n cs)) (.list w n (litC w n bs)) := fun G β x hx => by
  cases hx with
  | list0 => exact .list0
  | list h1 h2 h3 h4 h5 =>
    exact .list h1 h2 h3 h4 fun r j hr hj => by
      have h6 := h5 r j hr hj
      rw [litC_eq hr] at h6 ⊢
      exact h (r * w + j) _ _ _ h6
theorem days_tell : VLe (.list 5 3 (litC 5 3 [tSchool.lst bkDay0.schools, iI 40, iI 2, tCount.lst bkDay0.rooms, iI 408, tSchool.lst bkDay1.schools, iI 30, iI 0, tCount.lst bkDay1.rooms, iI 198, .nils, iI 5, iI 0, tCount.lst bkDay2.rooms, iI 114])) (tDay.lst bkDays) := fun G β x hx => by
  have h1 := litC_le (w := 5) (n := 3) (bs := [tSchool.lst bkDay0.schools, iI 40, iI 2, tCount.lst bkDay0.rooms, iI 408, tSchool.lst bkDay1.schools, iI 30, iI 0, tCount.lst bkDay1.rooms, iI 198, tSchool.lst bkDay2.schools, iI 5, iI 0, tCount.lst bkDay2.rooms, iI 114]) (VLe.at (v := .nils) (v' := tSchool.lst bkDay2.schools) VLe.nils [tSchool.lst bkDay0.schools, iI 40, iI 2, tCount.lst bkDay0.rooms, iI 408, tSchool.lst bkDay1.schools, iI 30, iI 0, tCount.lst bkDay1.rooms, iI 198] [iI 5, iI 0, tCount.lst bkDay2.rooms, iI 114]) _ _ _ hx
  have h2 : VLe _ (tDay.lst bkDays) := VLe.lit tDay bkDays (by rfl) (by rfl) (fun _ => rfl)
  exact h2 _ _ _ h1
inductive P73
  | e
inductive R73
  | r0 (r0_0 : Int) (r0_1 : List Room) (r0_2 : List Day)
noncomputable def T73 : P73 → Tr P73 R73
  | .e => let c2 := ([(⟨(ByteArray.mk #[110, 111, 114, 116, 104]), 14⟩ : School), (⟨(ByteArray.mk #[115, 111, 117, 116, 104]), 12⟩ : School)] : List School); let c3 := (decide (1 ≤ 1)) && true; let c4 := ByteArray.mk #[99, 104, 97, 109, 98, 101, 114]; let c5 := ByteArray.mk #[112, 97, 114, 105, 115, 104]; let c6 := ([(⟨c5, 27⟩ : School)] : List School); let c7 := ([(⟨c4, 6, 20⟩ : Room)] : List Room); let c8 := ([(⟨25, 1⟩ : Count)] : List Count); let c9 := ([(⟨18, 3⟩ : Count)] : List Count); let c10 := ([(⟨2, 0⟩ : Count)] : List Count); let c1 := ([(⟨c6, (⟨40, 2⟩ : Count), c9, 408⟩ : Day), (⟨c2, (⟨30, 0⟩ : Count), c8, 198⟩ : Day), (⟨[], (⟨5, 0⟩ : Count), c10, 114⟩ : Day)] : List Day); (.call 12 [iI 40, iI 2] (.agg [iI 40, iI 2]) true true (.call 12 [iI 18, iI 3] (.agg [iI 18, iI 3]) true true (.wait 0 (.frz 2 c3 (.wait 0 (.vle 4 (.list 2 1 (litC 2 1 [.str c5, iI 27])) (tSchool.lst c6) (.wait 0 (.frz 3 c3 (.wait 0 (.vle 7 (.list 2 1 (litC 2 1 [iI 18, iI 3])) (tCount.lst c9) (.call 12 [iI 30, iI 0] (.agg [iI 30, iI 0]) true true (.call 12 [iI 25, iI 1] (.agg [iI 25, iI 1]) true true (.wait 0 (.frz 4 ((decide (2 ≤ 2)) && true) (.wait 0 (.vle 11 (.list 2 2 (litC 2 2 [.str (ByteArray.mk #[110, 111, 114, 116, 104]), iI 14, .str (ByteArray.mk #[115, 111, 117, 116, 104]), iI 12])) (tSchool.lst c2) (.wait 0 (.frz 5 c3 (.wait 0 (.vle 14 (.list 2 1 (litC 2 1 [iI 25, iI 1])) (tCount.lst c8) (.call 12 [iI 5, iI 0] (.agg [iI 5, iI 0]) true true (.call 12 [iI 2, iI 0] (.agg [iI 2, iI 0]) true true (.wait 0 (.frz 6 c3 (.wait 0 (.vle 18 (.list 2 1 (litC 2 1 [iI 2, iI 0])) (tCount.lst c10) (.wait 0 (.frz 1 c3 (.wait 0 (.vle 2 (.list 3 1 (litC 3 1 [.str c4, iI 6, iI 20])) (tRoom.lst c7) (.wait 0 (.frz 7 ((decide (3 ≤ 3)) && true) (.wait 0 (.vle 20 (.list 5 3 (litC 5 3 [tSchool.lst c6, iI 40, iI 2, tCount.lst c9, iI 408, tSchool.lst c2, iI 30, iI 0, tCount.lst c8, iI 198, .nils, iI 5, iI 0, tCount.lst c10, iI 114])) (tDay.lst c1) (.out (.r0 12 c7 c1))))))))))))))))))))))))))))))))))))
noncomputable def g73 : P73 → List Item × St
  | .e => bd Try.f4 [] 22
noncomputable def n73 : R73 → Exit × St
  | .r0 r0_0 r0_1 r0_2 => (.ret, ⟨mk 22 [(0, .ref 0 0 0)], [.cells [iI r0_0, tRoom.lst r0_1, tDay.lst r0_2]], []⟩)
noncomputable def v73 : R73 → V
  | .r0 r0_0 r0_1 r0_2 => .agg [iI r0_0, tRoom.lst r0_1, tDay.lst r0_2]
theorem s73 : Sm 0 (g73) (T73) (n73)
  | .e => ⟨400, by kernel_rfl⟩
theorem q73 : ∀ r, bodyQ Try.prog Try.f4 (· = v73 r) (n73 r).1 (n73 r).2
  | .r0 r0_0 r0_1 r0_2 => bq (.agg [iI r0_0, tRoom.lst r0_1, tDay.lst r0_2]) (by kernel_rfl)
theorem w73 {post : V → Prop} (h : WQ (T73) v73 post .e) : PC 4 [] post :=
  PCalls.wq Try.func4 (s73) q73 h
theorem c73 : PC 4 [] (· = .agg (tBook.cells bkB)) := by
  refine w73  (WP.step ?_)
  simp only [T73, Go, Ends', v73, Tr.sure, SS]
  repeat' with_reducible first | intro _ | apply And.intro
  all_goals first | exact (c107 _ _) | exact (VLe.lit tRoom _ (by rfl) (by rfl) (fun _ => rfl)) | exact (VLe.lit tSchool _ (by rfl) (by rfl) (fun _ => rfl)) | exact (VLe.lit tCount _ (by rfl) (by rfl) (fun _ => rfl)) | exact days_tell | (simp [Go, Ends', v73, -List.getD_eq_getElem?_getD, *]; done) | skip
  all_goals first
    | rfl
end
noncomputable section
inductive P21
  | e
inductive R21
  | r0 (r0 : Bool)
noncomputable def T21 : P21 → Tr P21 R21
  | .e => let c1 := ((336 : Int) == (336 : Int)) && (((450 : Int) == (450 : Int)) && true); let c2 : List V := [.agg [iI 8, iI 7, tint.lst ([20] : List Int)], .agg [iI 8, iI 7, .list 1 1 (litC 1 1 [iI 20])]]; let c3 := (((fn4 96 42 150 120) 0) == (96 : Int)) && ((((fn4 96 42 150 120) 1) == (42 : Int)) && ((((fn4 96 42 150 120) 2) == (150 : Int)) && ((((fn4 96 42 150 120) 3) == (120 : Int)) && true))); let c4 := ((8 : Int) == (8 : Int)) && (((12 : Int) == (12 : Int)) && true); let c5 := ((1 : Int) == (1 : Int)) && (((7 : Int) == (7 : Int)) && true); let c6 := ((18 : Int) == (18 : Int)) && (((20 : Int) == (20 : Int)) && true); let c7 : List V := [iI 336, iI 450]; let c8 : List V := [iI 8, iI 12]; let c9 : List V := [iI 1, iI 7]; let c10 : List V := [iI 18, iI 20]; let c11 : Tr P21 R21 := .out (.r0 false); let c12 : List V := [.agg (cC bkB), iI 0]; let c13 : List V := [.agg (cC bkB), iI 1]; let c14 := c1 == true; let c15 := ([⟨1, 0⟩, ⟨2, -1⟩] : List Entry); let c16 := c4 == true; (.call 4 [] (.agg (cC bkB)) true true (.call 5 [.agg (cC bkB), iI 27] (.tuple [iI 150, iI 0]) true true (.call 6 c13 (.tuple [iI 150, iI 144, iI 0]) true true (.call 7 c12 (.tuple [.agg c7, iI 0]) true true (.call 7 c13 (.tuple [.agg [iI 0, iI 0], iI 8]) true true (.call 8 c12 (.tuple [.agg [iI 8, iI 7, tint.lst ([20] : List Int)], iI 9, iI 0]) true true (.call 24 c12 (.tuple [.agg c8, .agg c9, iI 0]) true true (.call 25 [.agg (cC bkB), iI 0, iI 0] (.tuple [.agg c10, iI 0]) true true (.call 26 c12 (.tuple [.arr 1 4 (rowsFn tint (fn4 96 42 150 120)), iI 0]) true true (.call 9 [.agg (cC bkB), iI 2] (.tuple [iI 3, iI 0]) true true (.call 9 c13 (.tuple [iI 0, iI 9]) true true (.call 27 [.agg (cC bkB)] (.tuple [tEntry.lst c15, iI 0]) true true (.br c1 (.br c4 (.br c5 (.br c6 (.br c3 (.front [(56, 10, c7, .agg c7), (63, 28, c2, .bool true), (71, 10, c8, .agg c8), (76, 10, c9, .agg c9), (81, 10, c10, .agg c10), (98, 29, [tEntry.lst c15, .list 2 2 (litC 2 2 [iI 1, iI 0, iI 2, iI (-1)])], .bool true)] [(59, true), (74, true), (79, true), (84, true), (89, true)] ((c14 && (c16 && ((c5 == true) && ((c6 == true) && ((c3 == true) && true))))) && true) true (.out (.r0 true))) (.front [(56, 10, c7, .agg c7), (63, 28, c2, .bool true), (71, 10, c8, .agg c8), (76, 10, c9, .agg c9), (81, 10, c10, .agg c10)] [(59, true), (74, true), (79, true), (84, true), (89, false)] ((c14 && (c16 && ((c5 == true) && ((c6 == true) && ((c3 == false) && true))))) && true) true c11)) (.front [(56, 10, c7, .agg c7), (63, 28, c2, .bool true), (71, 10, c8, .agg c8), (76, 10, c9, .agg c9), (81, 10, c10, .agg c10)] [(59, true), (74, true), (79, true), (84, false)] ((c14 && (c16 && ((c5 == true) && ((c6 == false) && true)))) && true) true c11)) (.front [(56, 10, c7, .agg c7), (63, 28, c2, .bool true), (71, 10, c8, .agg c8), (76, 10, c9, .agg c9)] [(59, true), (74, true), (79, false)] ((c14 && (c16 && ((c5 == false) && true))) && true) true c11)) (.front [(56, 10, c7, .agg c7), (63, 28, c2, .bool true), (71, 10, c8, .agg c8)] [(59, true), (74, false)] ((c14 && ((c4 == false) && true)) && true) true c11)) (.front [(56, 10, c7, .agg c7)] [(59, false)] (((c1 == false) && true) && true) true c11))))))))))))))
noncomputable def g21 : P21 → List Item × St
  | .e => bd Try.f11 [] 186
noncomputable def n21 : R21 → Exit × St
  | .r0 r0 => (.ret, ⟨mk 186 [(0, .bool r0)], [], []⟩)
noncomputable def v21 : R21 → V
  | .r0 r0 => .bool r0
theorem s21 : Sm 0 (g21) (T21) (n21)
  | .e => ⟨400, by kernel_rfl⟩
theorem q21 : ∀ r, bodyQ Try.prog Try.f11 (· = v21 r) (n21 r).1 (n21 r).2
  | .r0 r0 => bq (.bool r0) (by kernel_rfl)
theorem w21 {post : V → Prop} (h : WQ (T21) v21 post .e) : PC 11 [] post :=
  PCalls.wq Try.func11 (s21) q21 h
theorem SmB.bk : SmB bkB := .of_ok (asked_ok (b := bkB) (d := 0) (by unfold askedR; rw [bk_check]; rfl)).1
theorem a15 : PC 5 [.agg (tBook.cells bkB), iI 27] (· = .tuple [iI 150, iI 0]) := by
  have := c15 bkB 27 SmB.bk; rw [bk_school] at this; exact this
theorem a17 : PC 6 [.agg (tBook.cells bkB), iI 1] (· = .tuple [iI 150, iI 144, iI 0]) := by
  have := c17 bkB 1 SmB.bk; rw [bk_together] at this; exact this
theorem a19_0 : PC 7 [.agg (tBook.cells bkB), iI 0] (· = .tuple [.agg [iI 336, iI 450], iI 0]) := by
  have := c19 bkB 0 SmB.bk; rw [bk_could0] at this; exact this
theorem a19_1 : PC 7 [.agg (tBook.cells bkB), iI 1] (· = .tuple [.agg [iI 0, iI 0], iI 8]) := by
  have := c19 bkB 1 SmB.bk; rw [bk_could1] at this; exact this
theorem a22 : PC 8 [.agg (tBook.cells bkB), iI 0] (· = .tuple [.agg [iI 8, iI 7, tint.lst [20]], iI 9, iI 0]) := by
  have := c22 bkB 0 SmB.bk; rw [bk_first] at this; exact this
theorem a25 : PC 24 [.agg (tBook.cells bkB), iI 0] (· = .tuple [.agg [iI 8, iI 12], .agg [iI 1, iI 7], iI 0]) := by
  have := c25 bkB 0 SmB.bk; rw [bk_vis] at this; exact this
theorem a27 : PC 25 [.agg (tBook.cells bkB), iI 0, iI 0] (· = .tuple [.agg [iI 18, iI 20], iI 0]) := by
  have := c27 bkB 0 0 SmB.bk; rw [bk_room] at this; exact this
theorem a29 : PC 26 [.agg (tBook.cells bkB), iI 0] (· = .tuple [.arr 1 4 (rowsFn tint (fn4 96 42 150 120)), iI 0]) := by
  have := c29 bkB 0 SmB.bk; rw [bk_split] at this; exact this
theorem a31_2 : PC 9 [.agg (tBook.cells bkB), iI 2] (· = .tuple [iI 3, iI 0]) := by
  have := c31 bkB 2 SmB.bk; rw [bk_missed2] at this; exact this
theorem a31_1 : PC 9 [.agg (tBook.cells bkB), iI 1] (· = .tuple [iI 0, iI 9]) := by
  have := c31 bkB 1 SmB.bk; rw [bk_missed1] at this; exact this
theorem a33 : PC 27 [.agg (tBook.cells bkB)] (· = .tuple [tEntry.lst [⟨1, 0⟩, ⟨2, -1⟩], iI 0]) := by
  have := c33 bkB SmB.bk; rw [bk_wrong] at this; exact this
theorem a24 : PC 28 [.agg [iI 8, iI 7, tint.lst [20]], .agg [iI 8, iI 7, .list 1 1 (litC 1 1 [iI 20])]] (· = .bool true) := by
  have h1 : VLe (.agg [iI 8, iI 7, .list 1 1 (litC 1 1 [iI 20])]) (.agg (tTruth.cells ⟨8, 7, [20]⟩)) := fun G β x hx => by
    cases hx with
    | agg hl h => exact .agg hl fun j hj => VLe.at (VLe.lit tint [20] rfl rfl (fun _ => rfl)) [iI 8, iI 7] [] j _ _ _ (h j hj)
  have := PCalls.arg (pre := [.agg (tTruth.cells ⟨8, 7, [20]⟩)]) (c24 ⟨8, 7, [20]⟩ ⟨8, 7, [20]⟩ (by decide) (by decide)) h1
  have e : alikeR ⟨8, 7, [20]⟩ ⟨8, 7, [20]⟩ = true := by simp [alikeR, sameI]
  rw [e] at this; exact this
theorem a35 : PC 29 [tEntry.lst [⟨1, 0⟩, ⟨2, -1⟩], .list 2 2 (litC 2 2 [iI 1, iI 0, iI 2, iI (-1)])] (· = .bool true) := by
  have := PCalls.arg (pre := [tEntry.lst [⟨1, 0⟩, ⟨2, -1⟩]]) (c35 [⟨1, 0⟩, ⟨2, -1⟩] [⟨1, 0⟩, ⟨2, -1⟩]) (VLe.lit tEntry [⟨1, 0⟩, ⟨2, -1⟩] rfl rfl (fun _ => rfl))
  have e : sameE [⟨1, 0⟩, ⟨2, -1⟩] [⟨1, 0⟩, ⟨2, -1⟩] = true := by simp [sameE]
  rw [e] at this; exact this
theorem fn4_at (a b c d : Int) : fn4 a b c d 0 = a ∧ fn4 a b c d 1 = b ∧ fn4 a b c d 2 = c ∧ fn4 a b c d 3 = d := ⟨rfl, rfl, rfl, rfl⟩
theorem fn4_is : ((fn4 96 42 150 120 0 == 96) && ((fn4 96 42 150 120 1 == 42) && ((fn4 96 42 150 120 2 == 150) && ((fn4 96 42 150 120 3 == 120) && true)))) = true := rfl
theorem c21 : PC 11 [] (· = .bool true) := by
  refine w21  (WP.step ?_)
  simp only [T21, Go, Ends', v21, Tr.sure, SS]
  repeat' with_reducible first | intro _ | apply And.intro
  all_goals first | exact c73 | exact (c74 _ _) | exact a15 | exact a17 | exact a19_0 | exact a19_1 | exact a22 | exact a25 | exact a27 | exact a29 | exact a31_2 | exact a31_1 | exact a33 | exact a24 | exact a35 | (simp [fn4_is, (fn4_at _ _ _ _), Go, Ends', v21, -List.getD_eq_getElem?_getD, *]; done) | (simp_all [fn4_is, (fn4_at _ _ _ _), Go, Ends', v21, -List.getD_eq_getElem?_getD]; done)
end
end Go.Proofs.Ytfgmckfomckliaa
namespace Go.Proofs.Ytfgmckfomckliaa
open Ab Go.ChangeShapes Go.WideShapes Go.RowKit
def GW (W : World) : Kept := ⟨fun b => W.heap[b]?, ambOf W⟩
theorem bulk_one {H : Type} (d : DataW H) : 1 ≤ Rows.uptoBulk d := by
  cases d with
  | lit l => cases l <;> simp [Rows.uptoBulk]
  | nil => simp [Rows.uptoBulk]
  | ptr d => simp [Rows.uptoBulk]
  | slice elems spare => simp [Rows.uptoBulk]
  | agg parts => simp [Rows.uptoBulk]
  | iface t d => simp [Rows.uptoBulk]
  | map entries => simp [Rows.uptoBulk]
  | held h => simp [Rows.uptoBulk]
theorem bulk_part {H : Type} {d : DataW H} {l : List (DataW H)} (h : d ∈ l) : Rows.uptoBulk d ≤ Rows.uptoBulkAll l := by
  induction l with
  | nil => cases h
  | cons x r ih =>
    simp only [Rows.uptoBulkAll]
    cases List.mem_cons.1 h with
    | inl e => subst e; omega
    | inr e => have := ih e; omega
theorem bulk_length {H : Type} (l : List (DataW H)) : l.length ≤ Rows.uptoBulkAll l := by
  induction l with
  | nil => simp [Rows.uptoBulkAll]
  | cons x r ih => have := bulk_one x; simp only [Rows.uptoBulkAll, List.length_cons]; omega
def Opens (P : Program) (W : World) (C : List V → Prop) (t : TypeId) : Prop :=
  ∀ (H : Type) (enc : TypeId × Value → H) (n : Nat) (cs : List Value) (x : DataW H × List MemPlace), DataW.trod enc P W 0 (fun _ => true) true n t cs = some x → Rows.uptoBulk x.1 ≤ 1048576 →
    ∃ vs, C vs ∧ vs.length = cs.length ∧ ∀ j, j < vs.length → Rel (GW W) [] (vs.getD j .undef) (cs.getD j Go.undef)
section
variable {P : Program} {W : World} {t e : TypeId}
theorem Opens.mono {C C' : List V → Prop} (h : Opens P W C t) (hC : ∀ vs, C vs → C' vs) : Opens P W C' t := fun H enc n cs x hx hb => by
  obtain ⟨vs, h1, h2, h3⟩ := h H enc n cs x hx hb
  exact ⟨vs, hC vs h1, h2, h3⟩
theorem Opens.int {k : IntKind} (ht : P.underlying t = some (.int k)) : Opens P W (fun vs => ∃ n, vs = [.int k n]) t := fun H enc n cs x h _ => by
  obtain ⟨m, rfl, -, -⟩ := DataW.trod_int ht h
  refine ⟨[.int k m], ⟨m, rfl⟩, rfl, fun j hj => ?_⟩
  obtain rfl : j = 0 := by simpa using hj
  exact .int k m
theorem Opens.str (ht : P.underlying t = some .string) : Opens P W (fun vs => ∃ s, vs = [.str s]) t := fun H enc n cs x h _ => by
  obtain ⟨s, rfl, -, -⟩ := DataW.trod_string ht h
  refine ⟨[.str s], ⟨s, rfl⟩, rfl, fun j hj => ?_⟩
  obtain rfl : j = 0 := by simpa using hj
  exact .str s
theorem Opens.sliceP {τ : Type} {E : Ty τ} {p : τ → Prop} (ht : P.underlying t = some (.slice e)) (he : Opens P W (fun vs => ∃ x, p x ∧ vs = E.cells x) e) (hw : P.cellsOf e = E.w) (h0 : 0 < E.w) (hl : ∀ x, (E.cells x).length = E.w) :
    Opens P W (fun vs => ∃ l, l.length ≤ 1048576 ∧ (∀ x ∈ l, p x) ∧ vs = [.list E.w l.length (rowsOf E l)]) t := fun H enc n cs x h hb => by
  rcases DataW.trod_slice ht h with ⟨rfl, -⟩ | ⟨a, len, cap, elems, rest, m, -, rfl, rfl, -, hlc, hcm, hel, hget, -, -⟩
  · refine ⟨[.list E.w 0 (rowsOf E [])], ⟨[], Nat.zero_le _, fun x hx => absurd hx List.not_mem_nil, rfl⟩, rfl, fun j hj => ?_⟩
    obtain rfl : j = 0 := by simpa using hj
    exact .list0
  · simp only [Rows.uptoBulk] at hb
    have hlen : len ≤ 1048576 := by
      have := bulk_length (elems.map (·.1))
      rw [List.length_map] at this; omega
    have hstep : ∀ i, i < len → ∃ x : τ, p x ∧ ∃ cs', W.cells? 0 (a.add (i * E.w)) E.w = some cs' ∧ ∀ j, j < E.w → Rel (GW W) [] ((E.cells x).getD j .undef) (cs'.getD j Go.undef) := fun i hi => by
      have h1 := hget i hi
      have hy : elems[i]? = some elems[i] := List.getElem?_eq_getElem (by omega)
      rw [hy, Option.bind_eq_some_iff] at h1
      obtain ⟨cs', h3, h4⟩ := h1
      have hm : (elems[i]).1 ∈ elems.map (·.1) := List.mem_map.2 ⟨_, List.getElem_mem _, rfl⟩
      obtain ⟨vs, ⟨x, px, rfl⟩, h5, h6⟩ := he H enc m cs' _ h4 (by have := bulk_part hm; omega)
      rw [hw] at h3
      exact ⟨x, px, cs', h3, fun j hj => h6 j (by rw [hl]; exact hj)⟩
    obtain ⟨f, hf⟩ : ∃ f : Fin len → τ, ∀ i : Fin len, p (f i) ∧ ∃ cs', W.cells? 0 (a.add (i.1 * E.w)) E.w = some cs' ∧ ∀ j, j < E.w → Rel (GW W) [] ((E.cells (f i)).getD j .undef) (cs'.getD j Go.undef) :=
      ⟨fun i => (hstep i.1 i.2).choose, fun i => (hstep i.1 i.2).choose_spec⟩
    refine ⟨[.list E.w (List.ofFn f).length (rowsOf E (List.ofFn f))], ⟨_, by rw [List.length_ofFn]; exact hlen, fun x hx => by
      obtain ⟨i, rfl⟩ := List.mem_ofFn.1 hx
      exact (hf i).1, rfl⟩, rfl, fun j hj => ?_⟩
    obtain rfl : j = 0 := by simpa using hj
    show Rel _ _ (.list E.w (List.ofFn f).length (rowsOf E (List.ofFn f))) (.slice (some a) len cap)
    rw [List.length_ofFn]
    rcases Nat.eq_zero_or_pos len with rfl | hpos
    · exact .list0
    · obtain ⟨b, off, spot⟩ := a
      have cell : ∀ i j, (hi : i < len) → j < E.w → ∃ u, W.cell? (((Addr.mk b off spot).add (i * E.w)).add j) = some u ∧ Rel (GW W) [] ((E.cells (f ⟨i, hi⟩)).getD j .undef) u := fun i j hi hj => by
        obtain ⟨-, cs', h1, h2⟩ := hf ⟨i, hi⟩
        obtain ⟨-, h3, h4⟩ := World.cells?_some h1
        have h5 := h4 j hj
        have hjl : j < cs'.length := by rw [h3]; exact hj
        rw [List.getElem?_eq_getElem hjl] at h5
        refine ⟨cs'[j], h5, ?_⟩
        have := h2 j hj
        rwa [List.getD_eq_getElem?_getD (l := cs'), List.getElem?_eq_getElem hjl] at this
      have hspot : spot = none := by
        obtain ⟨u, h1, -⟩ := cell 0 0 hpos h0
        cases spot with
        | none => rfl
        | some s =>
          exfalso
          rw [Nat.zero_mul] at h1
          simp only [Addr.add, if_true] at h1
          unfold World.cell? at h1
          split at h1
          · simp at h1
          · cases h1
      subst hspot
      obtain ⟨c, e', fz, hblk⟩ : ∃ c e' fz, W.heap[b]? = some (.cells c e' fz) := by
        obtain ⟨u, h1, -⟩ := cell 0 0 hpos h0
        rw [addr_add, addr_add] at h1
        unfold World.cell? at h1
        split at h1
        · rename_i c e' fz hh; exact ⟨c, e', fz, hh⟩
        · cases h1
      have look : ∀ k l, W.cell? (((Addr.mk b off none).add k).add l) = c[off + (k + l)]? := fun k l => by rw [addr_add, addr_add, Nat.add_assoc]; simp only [World.cell?, hblk]; simp
      refine .list (G := GW W) (cs := c) (e := e') (fz := fz) hblk ?_ hlc (by unfold maxn; omega) fun i j hi hj => ?_
      · obtain ⟨u, h1, -⟩ := cell (len - 1) (E.w - 1) (by omega) (by omega)
        rw [look] at h1
        have := (Array.getElem?_eq_some_iff.1 h1).1
        have e1 : len * E.w = (len - 1) * E.w + E.w := by rw [← Nat.succ_mul]; congr 1; omega
        omega
      · obtain ⟨u, h1, h2⟩ := cell i j hi hj
        rw [look] at h1
        rw [Array.getD_eq_getD_getElem?, h1]
        show Rel _ _ ((E.cells ((List.ofFn f).getD i E.zero)).getD j .undef) u
        rw [List.getD_eq_getElem?_getD (l := List.ofFn f), List.getElem?_ofFn, dif_pos hi]
        exact h2
theorem Opens.slice {τ : Type} {E : Ty τ} (ht : P.underlying t = some (.slice e)) (he : Opens P W (fun vs => ∃ x, vs = E.cells x) e) (hw : P.cellsOf e = E.w) (h0 : 0 < E.w) (hl : ∀ x, (E.cells x).length = E.w) :
    Opens P W (fun vs => ∃ l, vs = [.list E.w l.length (rowsOf E l)]) t :=
  (Opens.sliceP (p := fun _ => True) ht (he.mono fun _ ⟨x, h⟩ => ⟨x, trivial, h⟩) hw h0 hl).mono fun _ ⟨l, _, _, h⟩ => ⟨l, h⟩
def Parts : List (List V → Prop) → List V → Prop
  | [], vs => vs = []
  | C :: Cs, vs => ∃ a b, vs = a ++ b ∧ C a ∧ Parts Cs b
def OpensL (P : Program) (W : World) : List (List V → Prop) → List Field → Prop
  | [], [] => True
  | C :: Cs, f :: fs => Opens P W C f.type ∧ OpensL P W Cs fs
  | _, _ => False
def laid (P : Program) (tot : Nat) : Nat → List Field → Bool
  | o, [] => o == tot
  | o, f :: fs => f.offset == o && decide (o + P.cellsOf f.type ≤ tot) && laid P tot (o + P.cellsOf f.type) fs
theorem parts_ok {H : Type} {enc : TypeId × Value → H} {n : Nat} {cs : List Value} : ∀ (Cs : List (List V → Prop)) (fl : List Field) (o : Nat) (ys : List (DataW H × List MemPlace)), OpensL P W Cs fl → laid P cs.length o fl = true → ys.length = fl.length →
    (∀ (i : Nat) (f : Field), fl[i]? = some f → DataW.trod enc P W 0 (fun _ => true) true n f.type ((cs.drop f.offset).take (P.cellsOf f.type)) = ys[i]?) → Rows.uptoBulkAll (ys.map (·.1)) ≤ 1048576 →
    ∃ vs, Parts Cs vs ∧ vs.length = cs.length - o ∧ ∀ j, j < vs.length → Rel (GW W) [] (vs.getD j .undef) (cs.getD (o + j) Go.undef)
  | [], [], o, ys, _, hlay, _, _, _ => by
    simp only [laid, beq_iff_eq] at hlay
    exact ⟨[], rfl, by simp [hlay], fun j hj => absurd hj (Nat.not_lt_zero _)⟩
  | [], f :: fl, _, _, h, _, _, _, _ => h.elim
  | C :: Cs, [], _, _, h, _, _, _, _ => h.elim
  | C :: Cs, f :: fl, o, [], _, _, hl, _, _ => by simp at hl
  | C :: Cs, f :: fl, o, y :: ys, h, hlay, hl, hget, hb => by
    simp only [laid, Bool.and_eq_true, beq_iff_eq, decide_eq_true_eq] at hlay
    obtain ⟨⟨ho, hle⟩, hrest⟩ := hlay
    simp only [List.map_cons, Rows.uptoBulkAll] at hb
    have h1 := hget 0 f rfl
    simp only [List.getElem?_cons_zero] at h1
    obtain ⟨a, ha, la, ra⟩ := h.1 H enc n _ _ h1 (by omega)
    obtain ⟨b, hb1, lb, rb⟩ := parts_ok Cs fl (o + P.cellsOf f.type) ys h.2 hrest (by simpa using hl) (fun i g hi => by simpa using hget (i + 1) g (by simpa using hi)) (by omega)
    have la' : a.length = P.cellsOf f.type := by rw [la, List.length_take, List.length_drop, ho]; omega
    refine ⟨a ++ b, ⟨a, b, rfl, ha, hb1⟩, by rw [List.length_append, la', lb]; omega, fun j hj => ?_⟩
    rcases Nat.lt_or_ge j a.length with q | q
    · rw [getD_append_left q]
      have := ra j q
      rw [List.getD_eq_getElem?_getD (l := List.take _ _), List.getElem?_take_of_lt (by omega), List.getElem?_drop, ho, ← List.getD_eq_getElem?_getD] at this
      exact this
    · rw [getD_append_right q]
      have := rb (j - a.length) (by rw [List.length_append] at hj; omega)
      rw [la'] at this ⊢
      rw [show o + P.cellsOf f.type + (j - P.cellsOf f.type) = o + j by omega] at this
      exact this
theorem Opens.struct {fs : Array Field} (ht : P.underlying t = some (.struct fs)) (Cs : List (List V → Prop)) (ho : OpensL P W Cs fs.toList) (hlay : laid P (P.cellsOf t) 0 fs.toList = true) : Opens P W (Parts Cs) t := fun H enc n cs x h hb => by
  obtain ⟨xs, m, -, rfl, hl, hlen, hf⟩ := DataW.trod_struct ht h
  simp only [Rows.uptoBulk] at hb
  obtain ⟨vs, h1, h2, h3⟩ := parts_ok (enc := enc) (n := m) Cs fs.toList 0 xs ho (by rw [hl]; exact hlay) (by simpa using hlen) (fun i f hi => hf i f (by simpa using hi)) (by omega)
  exact ⟨vs, h1, by simpa using h2, fun j hj => by simpa using h3 j hj⟩
theorem val_struct {H : Type} {enc : TypeId × Value → H} {fs : Array Field} {base : Nat} {v : Value} {d : DataW H} {ps : List MemPlace} {C : List V → Prop} (ht : P.underlying t = some (.struct fs)) (hok : Value.okWide P W .any base t v)
    (h : DataW.Trod enc P W 0 (fun _ => true) true t v d ps) (ho : Opens P W C t) (hb : Rows.uptoBulk d ≤ 1048576) : ∃ vs, C vs ∧ Rel (GW W) [] (.agg vs) v := by
  simp only [Value.okWide, ht] at hok
  obtain ⟨cs, rfl, -, -⟩ := hok
  obtain ⟨n, hn⟩ := h
  obtain ⟨vs, h1, h2, h3⟩ := ho H enc n _ _ hn hb
  have h2' : vs.length = cs.size := by simpa [Value.cells] using h2
  refine ⟨vs, h1, .agg h2' fun j hj => ?_⟩
  have := h3 j hj
  simpa [Value.cells, List.getD_eq_getElem?_getD, Array.getD_eq_getD_getElem?] using this
theorem val_slice {H : Type} {enc : TypeId × Value → H} {base : Nat} {v : Value} {d : DataW H} {ps : List MemPlace} {τ : Type} {E : Ty τ} (ht : P.underlying t = some (.slice e)) (hok : Value.okWide P W .any base t v)
    (h : DataW.Trod enc P W 0 (fun _ => true) true t v d ps) (ho : Opens P W (fun vs => ∃ l, vs = [.list E.w l.length (rowsOf E l)]) t) (hb : Rows.uptoBulk d ≤ 1048576) : ∃ l, Rel (GW W) [] (.list E.w l.length (rowsOf E l)) v := by
  have hv : v.cells.toList = [v] := by
    simp only [Value.okWide, ht, Cell.okWide, Cell.ok] at hok
    cases v <;> first | rfl | simp at hok
  obtain ⟨n, hn⟩ := h
  rw [hv] at hn
  obtain ⟨vs, ⟨l, rfl⟩, -, h3⟩ := ho H enc n _ _ hn hb
  exact ⟨l, by simpa using h3 0 (by simp)⟩
theorem post_same {H : Type} {enc : TypeId × Value → H} {f : Func} {s : ChangeSpec} {apart fresh handsOn again : Bool} {W W' : World} {args : Array Value} {v : Value} {ds gs : List (DataW H)} {before pa pv : List MemPlace}
    (hW : DataW.Whole enc P f.params.toList s.vars apart W args.toList ds gs before)
    (hres : ∀ (b : Nat) (sp : Nat → Bool) (hd : Bool), DataW.TrodAll enc P W' b sp hd f.resultTypes.toList (v.resultList f.resultTypes.size) (s.fn H (ds ++ gs)).results [])
    (hargs : ∀ sp : Nat → Bool, (∀ p ∈ before, sp p.block = true) → DataW.TrodAll enc P W' 0 sp true f.params.toList args.toList (s.fn H (ds ++ gs)).args pa)
    (hvars : ∀ sp : Nat → Bool, (∀ p ∈ before, sp p.block = true) → DataW.TrodVars enc P W' sp s.vars (s.fn H (ds ++ gs)).vars pv)
    (hps : before = pa ++ pv) (hk : W.keptBut W' (· ∈ before)) (hfz : ∀ a : Addr, a.block < W.heap.size → W'.frozen? a = W.frozen? a)
    (hok : ∀ (j : Nat) (t : TypeId) (r : Value), f.resultTypes[j]? = some t → (v.resultList f.resultTypes.size)[j]? = some r → Value.okWide P W' .any 0 t r) :
    s.post enc P f apart fresh handsOn again W args v W' := by
  have hold : ∀ p ∈ before, (fun b => decide (b < W.heap.size)) p.block = true := fun p hp => by simpa using hW.lt p hp
  refine ⟨ds, gs, before, [], pa, pv, hW, hres _ _ _, hargs _ hold, hvars _ hold, World.keptBut_mono (fun p hp => ⟨hp, ?_⟩) hk, fun _ => ?_⟩
  · rw [hps, List.mem_append] at hp
    exact Or.inr hp
  · have hlt := hW.lt
    obtain ⟨_, _, _, _, _, hz, hn⟩ := hW
    refine ⟨hok, _, _, ([] ++ pa) ++ pv, ⟨[] ++ pa, pv, trodAll_append (hargs _ (fun _ _ => rfl)) (hres _ _ _), hvars _ (fun _ _ => rfl), rfl, ?_, ?_⟩, ?_⟩
    · intro b off hp
      have hp' : MemPlace.cell b off ∈ before := by rw [hps]; simpa using hp
      rw [hfz _ (hlt _ hp')]
      exact hz b off hp'
    · intro ha
      have := hn ha
      rw [hps] at this
      simpa using this
    · intro p hp _
      rw [hps]
      simpa using hp
theorem trods_stay {H : Type} {enc : TypeId × Value → H} {W' : World} {sp : Nat → Bool} (hl : laidOutB P = true) : ∀ {ts : List TypeId} {vs : List Value} {ds : List (DataW H)} {ps : List MemPlace}, (∀ t ∈ ts, P.readableRec t = true ∧ t < P.types.size) →
    DataW.TrodAll enc P W 0 (fun _ => true) true ts vs ds ps → (∀ p ∈ ps, W.sameAt W' p) → (∀ p ∈ ps, sp p.block = true) → DataW.TrodAll enc P W' 0 sp true ts vs ds ps
  | [], _, _, _, _, h, _, _ => by
    obtain ⟨rfl, rfl, rfl⟩ := trodAll_nil h
    exact trodAll_mk0
  | t :: ts, _, _, _, ht, h, h1, h2 => by
    obtain ⟨v, vs1, d, ds1, a, b, rfl, rfl, rfl, h3, h4⟩ := trodAll_cons h
    exact ⟨a, b, WideElems.Trod_stays hl (ht t (by simp)).1 (ht t (by simp)).2 h3 (fun p hp => h1 p (by simp [hp])) (fun p hp => h2 p (by simp [hp])),
      trods_stay hl (fun t' h' => ht t' (by simp [h'])) h4 (fun p hp => h1 p (by simp [hp])) (fun p hp => h2 p (by simp [hp])), rfl⟩
theorem bridge {H : Type} {enc : TypeId × Value → H} {f : FuncId} {fn : Func} {s : ChangeSpec} {apart fresh handsOn again : Bool} {args : Array Value} {ds gs : List (DataW H)} {before : List MemPlace} {tb : TypeId}
    (hW : DataW.Whole enc P fn.params.toList s.vars apart W args.toList ds gs before) {vs : List V} (hc : PCalls P f vs (· = .bool true)) (hl : vs.length = args.size) (hr : ∀ j, j < vs.length → Rel (GW W) [] (vs.getD j .undef) (args.getD j Go.undef))
    (hvars : s.vars = []) (hfn : s.fn H (ds ++ gs) = { results := [.lit (.bool true)], args := ds }) (hty : fn.resultTypes = #[tb]) (htb : P.underlying tb = some .bool) (hlo : laidOutB P = true) (hrd : ∀ t ∈ fn.params.toList, P.readableRec t = true ∧ t < P.types.size) :
    Calls P f args W fun e W' => ∃ v, e = .returned v ∧ s.post enc P fn apart fresh handsOn again W args v W' := by
  refine (hc.2 (GW W) W args ⟨fun b o hb => hb, ambOf_ok W⟩ hl hr).mono ?_
  rintro e W' ⟨v, x, G', rfl, h1, h2, -, h4, h5, h6, rfl⟩
  cases h6
  have hamb : G'.amb.ok W' := h2.amb
  rw [← h1.same] at hamb
  have hW' := hW
  obtain ⟨p, q, hA, hV, rfl, -, -⟩ := hW'
  rw [hvars] at hV
  obtain ⟨rfl, rfl⟩ := trodVars_none hV
  have hlt : ∀ x ∈ p, x.block < W.heap.size := fun x hx => hW.lt x (by simp [hx])
  refine ⟨_, rfl, post_same (pa := p) (pv := []) hW (fun _ _ _ => ?_) (fun sp hsp => ?_) (fun sp _ => ?_) rfl ?_ (fun a ha => World.frozen?_of_block (w := W) (h4 _ ha)) (ok_one hty rfl (okWide_bool_mk htb _))⟩
  · rw [hfn, hty]
    exact trodAll_cons_mk (shut_bool htb _) trodAll_mk0
  · rw [hfn]
    refine trods_stay hlo hrd hA (fun x hx => ?_) fun x hx => hsp x (by simp [hx])
    cases x with
    | cell b o => exact World.cell?_of_block (w := W) (h4 b (hlt _ hx))
    | map b => exact h4 b (hlt _ hx)
  · rw [hfn, hvars]; rfl
  · refine ⟨hamb.os, hamb.out, fun i hi => ?_⟩
    rw [h4 i hi]
    split <;> simp_all
end
theorem own : ownKnob Try.prog.godebug = none := by kernel_rfl
theorem laidOut : laidOutB Try.prog = true := by kernel_rfl
end Go.Proofs.Ytfgmckfomckliaa
