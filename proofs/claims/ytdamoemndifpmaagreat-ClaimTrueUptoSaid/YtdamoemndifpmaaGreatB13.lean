/-
  Part of the proof of the Claim laws. Conditions: those that stand in each theorem.
-/
import Derived.Test.YtdamoemndifpmaaGreatRows
import Derived.ChangeArms
import Derived.ChangeSame
import Derived.WideKeyArgs
import Derived.WalkKit
import Derived.ProofKit
import Derived.OpenShut
import Derived.JoinedCond
import Derived.Test.YtdamoemndifpmaaGreatB12
set_option linter.unusedSimpArgs false
set_option linter.unusedVariables false
set_option maxRecDepth 100000
namespace Go.Proofs.YtdamoemndifpmaaGreat
open Ab Go
noncomputable section
inductive P39
  | e
  | l0 (x0_43 : Int)
  | l1 (x0_43 : Int) (x1_51 : Int)
  | l2 (x0_43 : Int) (x1_51 : Int) (x2_58 : List Int) (x2_60 : Int)
inductive R39
  | r0 (r0_0 : Int) (r0_1 : Int) (r1 : Int)
noncomputable def T39 (x : Case) (n : Int) : P39 → Tr P39 R39
  | .e => let c1 := indexErr n (x.claims.length : Int); let c2 := (truthsE x c1).2; let c3 : List V := [rR (iI (x.claims.length : Int)), rR (iI n)]; let c4 := caseSets x; let c5 : V := .tuple [entP x c1, iI c2]; (.front [(5, 66, [iI n, iI (x.claims.length : Int)], .func (.func 132) [] c3), (6, 63, [.agg (cC x), .func (.func 132) [] c3], .tuple [entP x c1, iI c2])] [] true true (.br ((truthsE x c1).2 != (0 : Int)) (.out (.r0 0 0 c2)) (.wait 1 (.vle 6 (entP x c1) (court x c4) (.vle 15 c5 uU (.vle 22 c5 uU (.vle 23 (entP x c1) uU (.call 67 [tint.lst c4, iI n] (iI (settled c4 n)) true true (.br ((settled c4 n) != (0 : Int)) (.out (.r0 0 0 2)) (.go (.l0 0)))))))))))
  | .l0 x0_43 => let c1 := x0_43 < (x.shop.heads.length : Int); (.br (decide c1) (.need (decide (0 ≤ x0_43) && decide c1) (.go (.l1 x0_43 0))) (.out (.r0 0 0 9)))
  | .l1 x0_43 x1_51 => let c1 := x.shop.heads.getD (x0_43).toNat tHead.zero; let c2 := x1_51 < ((c1.shows.length) : Int); (.br (decide c2) (.need (decide (0 ≤ x1_51) && decide c2) (.br (((c1.shows).getD (x1_51).toNat tint.zero) != (0 : Int)) (.need (inR .i64 (x1_51 + (1 : Int))) (.go (.l1 x0_43 (x1_51 + (1 : Int))))) (.wait 5 (.frz 2 ((decide (2 ≤ 2)) && true) (.vle 58 (.list 1 2 (litC 1 2 [iI 1, iI 2])) (tint.lst ([1, 2] : List Int)) (.go (.l2 x0_43 x1_51 ([1, 2] : List Int) 0))))))) (.need (inR .i64 (x0_43 + (1 : Int))) (.go (.l0 (x0_43 + (1 : Int))))))
  | .l2 x0_43 x1_51 x2_58 x2_60 => let c1 := readC x x0_43 x1_51 (x2_58.getD (x2_60).toNat tint.zero); let c2 : List V := [iI (c1.shop.features), tMould.lst (c1.shop.moulds), tHead.lst (c1.shop.heads), tint.lst (c1.owners), tClaim.lst (c1.claims)]; let c3 : Tr P39 R39 := .need (inR .i64 (x2_60 + (1 : Int))) (.go (.l2 x0_43 x1_51 x2_58 (x2_60 + (1 : Int)))); let c4 := caseSets c1; (.br (decide (x2_60 < (2 : Int))) (.need (decide (0 ≤ x2_60) && decide (x2_60 < (x2_58.length : Int))) (.call 98 [.agg (cC x), iI x0_43, iI x1_51, iI (x2_58.getD (x2_60).toNat tint.zero)] (.agg c2) true true (.call 97 [.agg c2] (court c1 c4) true true (.br (decide (((c4.length) : Int) > (0 : Int))) (.call 67 [tint.lst c4, iI n] (iI (settled c4 n)) true true (.br ((settled c4 n) == (0 : Int)) (.need (inR .i64 (x1_51 + (1 : Int))) (.go (.l1 x0_43 (x1_51 + (1 : Int))))) c3)) (.lit false c3))))) (.out (.r0 x0_43 x1_51 0)))
noncomputable def g39 (x : Case) (n : Int) : P39 → List Item × St
  | .e => bd Tryz.f39 [.agg (cC x), iI n] 90
  | .l0 x0_43 => (cutOf Tryz.f39 0, ⟨mk 92 [(1, iI n), (2, .ref 0 0 0), (4, .ref 1 0 0), (41, tHead.lst x.shop.heads), (42, iI (x.shop.heads.length : Int)), (43, iI x0_43)], [.cells (cC x), .cells [iI 0, iI 0]], []⟩)
  | .l1 x0_43 x1_51 => (cutOf Tryz.f39 1, ⟨mk 92 [(1, iI n), (2, .ref 0 0 0), (4, .ref 1 0 0), (8, iI x0_43), (41, tHead.lst x.shop.heads), (42, iI (x.shop.heads.length : Int)), (43, iI x0_43), (49, tint.lst ((x.shop.heads.getD (x0_43).toNat tHead.zero).shows)), (50, iI (((x.shop.heads.getD (x0_43).toNat tHead.zero).shows.length) : Int)), (51, iI x1_51)], [.cells (cC x), .cells [iI 0, iI 0]], []⟩)
  | .l2 x0_43 x1_51 x2_58 x2_60 => (cutOf Tryz.f39 2, ⟨mk 92 [(1, iI n), (2, .ref 0 0 0), (4, .ref 1 0 0), (8, iI x0_43), (10, iI x1_51), (41, tHead.lst x.shop.heads), (42, iI (x.shop.heads.length : Int)), (43, iI x0_43), (49, tint.lst ((x.shop.heads.getD (x0_43).toNat tHead.zero).shows)), (50, iI (((x.shop.heads.getD (x0_43).toNat tHead.zero).shows.length) : Int)), (51, iI x1_51), (58, tint.lst x2_58), (59, iI (2 : Int)), (60, iI x2_60)], [.cells (cC x), .cells [iI 0, iI 0]], []⟩)
noncomputable def n39 : R39 → Exit × St
  | .r0 r0_0 r0_1 r1 => (.ret, ⟨mk 92 [(4, .ref 1 0 0), (5, iI r1)], [.gone, .cells [iI r0_0, iI r0_1]], []⟩)
noncomputable def v39 : R39 → V
  | .r0 r0_0 r0_1 r1 => .tuple [.agg [iI r0_0, iI r0_1], iI r1]
theorem s39 (x : Case) (n : Int) : Sm 0 (g39 x n) (T39 x n) (n39)
  | .e => ⟨400, by kernel_rfl⟩
  | .l0 _ => ⟨400, by kernel_rfl⟩
  | .l1 _ _ => ⟨400, by kernel_rfl⟩
  | .l2 _ _ _ _ => ⟨400, by kernel_rfl⟩
theorem q39 : ∀ r, bodyQ Tryz.prog Tryz.f39 (· = v39 r) (n39 r).1 (n39 r).2
  | .r0 r0_0 r0_1 r1 => bq (.tuple [.agg [iI r0_0, iI r0_1], iI r1]) (by kernel_rfl)
theorem w39 (x : Case) (n : Int) {post : V → Prop} (h : WQ (T39 x n) v39 post .e) : PC 39 [.agg (cC x), iI n] post :=
  PCalls.wq Tryz.func39 (s39 x n) q39 h
theorem g12_0 : ([1, 2] : List Int).getD (Int.toNat 0) tint.zero = 1 := rfl
theorem g12_1 : ([1, 2] : List Int).getD (Int.toNat 1) tint.zero = 2 := rfl
theorem lookV2 {c : Case} {i : Int} {e : Entry} {n : Int} (h : lookR c i = (e, n)) : V.tuple [.agg [iI e.head, iI e.feature], iI n] = V.tuple [.agg (tEntry.cells (lookR c i).1), iI (lookR c i).2] := by rw [h]; rfl
theorem key39 {x : Case} {n : Int} {F : P39 ⊕ R39 → Prop} {a s : P39} {r : R39} {E : Bool} (h1 : E = false → F (.inl s)) (h2 : E = true → F (.inr r))
    (h : ∀ G : P39 ⊕ R39 → Prop, (E = false → WP Tryz.prog ⟨none, 0⟩ (T39 x n) G s) → (E = true → G (.inr r)) → WP Tryz.prog ⟨none, 0⟩ (T39 x n) G a) : WP Tryz.prog ⟨none, 0⟩ (T39 x n) F a :=
  h F (fun q => WP.stop (h1 q)) h2
set_option maxHeartbeats 2000000 in
theorem c39 (x : Case) (n : Int) : PC 39 [.agg (tCase.cells x), iI n] (· = .tuple [.agg (tEntry.cells (lookR x n).1), iI (lookR x n).2]) := by
  by_cases h : (truthsE x (indexErr n x.claims.length)).2 = 0
  · have hok := (okOf h).1
    have h5 := hok.five
    have hn : 0 ≤ n ∧ n ≤ 5 := by have := indexOk (okOf h).2; omega
    have h67 := c67 (caseSets x) n setsOk hn
    have hh2 : holdsR x n = (settled (caseSets x) n, 0) := by unfold holdsR; rw [if_neg (by simp [h])]
    by_cases hset : settled (caseSets x) n = 0
    · have hnh := hok.shop.nh
      have hF := hok.shop.feat
      have hf : lookR x n = match ((List.range x.shop.heads.length).flatMap (entriesOf x.shop.features)).find? (lookP x n) with | some e => (e, 0) | none => (⟨0, 0⟩, 9) := by
        unfold lookR; rw [hh2, if_neg (by simp), if_neg (by simp [hset])]; rfl
      rw [hset] at h67
      have hmain : WP Tryz.prog ⟨none, 0⟩ (T39 x n) (Ends' fun r => v39 r = .tuple [.agg (tEntry.cells (lookR x n).1), iI (lookR x n).2]) (.l0 0) := by
        refine WP.count (fun h => .l0 (h : Int)) rfl x.shop.heads.length (fun h => ((List.range h).flatMap (entriesOf x.shop.features)).find? (lookP x n) = none) rfl (fun h hh hI => ?_) fun hI => ?_
        · have hh' : (h : Int) < x.shop.heads.length := by omega
          have hr0 : inR .i64 ((h : Int) + 1) = true := inR64 (by omega) (by omega)
          have hm : x.shop.heads.getD h zHead ∈ x.shop.heads := getD_mem zHead _ _ hh
          have hsl := (hok.shop.head _ hm).1
          have hfind := fun l => flat_find (l := l) hh hI
          have hnext := fun z => flat_none (f := entriesOf x.shop.features) hI z
          have main : ∀ φ, WP Tryz.prog ⟨none, 0⟩ (T39 x n) φ (.l1 (h : Int) 0) → WP Tryz.prog ⟨none, 0⟩ (T39 x n) φ (.l0 (h : Int)) := fun φ z => by
            refine WP.step ?_
            simp only [T39, Go, Ends', v39, Tr.sure, SS, hh']
            repeat' with_reducible first | intro _ | apply And.intro
            all_goals exact z
          have hEl : (entriesOf x.shop.features h).length = x.shop.features.toNat := by simp [entriesOf]
          have hEg : ∀ f, f < x.shop.features.toNat → (entriesOf x.shop.features h).getD f ⟨0, 0⟩ = ⟨(h : Int), (f : Int)⟩ := fun f hf => by
            simp [entriesOf, List.getD_eq_getElem?_getD, hf]
          refine main _ (WP.findI (fun f => .l1 (h : Int) (f : Int)) rfl (entriesOf x.shop.features h) ⟨0, 0⟩ (lookP x n) (fun f hf0 => ?_) fun hJ => ?_)
          · rw [hEl] at hf0
            have hr : inR .i64 ((f : Int) + 1) = true := inR64 (by omega) (by omega)
            have hf2 : (f : Int) < (x.shop.heads.getD h zHead).shows.length := by omega
            have hg := hEg f hf0
            have hres : firstI (lookP x n) 0 (entriesOf x.shop.features h) = some f → lookR x n = (⟨(h : Int), (f : Int)⟩, 0) := fun z => by
              obtain ⟨q, z1, z2⟩ := find_firstI _ ⟨0, 0⟩ _ 0 f z
              obtain rfl : f = q := by omega
              rw [hf, hfind _ z2, hg]
            have hP : lookP x n ⟨(h : Int), (f : Int)⟩ = ((x.shop.heads.getD h zHead).shows.getD f 0 == 0 && looked x n ⟨(h : Int), (f : Int)⟩) := by simp only [lookP, unreadP, Int.toNat_natCast]
            have k98 := fun q => c98 x (h : Int) (f : Int) q ⟨by omega, hh'⟩ ⟨by omega, by rw [Int.toNat_natCast]; exact hf2⟩ (by omega) (by rw [Int.toNat_natCast]; omega)
            have hok1 : OkCase (readC x h f 1) := okCase_read hok ⟨by omega, hh'⟩ ⟨by omega, by omega⟩
            have hok2 : OkCase (readC x h f 2) := okCase_read hok ⟨by omega, hh'⟩ ⟨by omega, by omega⟩
            have k971 := c97 _ hok1
            have k972 := c97 _ hok2
            have k671 := c67 (caseSets (readC x h f 1)) n setsOk hn
            have k672 := c67 (caseSets (readC x h f 2)) n setsOk hn
            have hL : looked x n ⟨(h : Int), (f : Int)⟩ = (!(decide (((caseSets (readC x h f 1)).length : Int) > 0) && settled (caseSets (readC x h f 1)) n == 0) && !(decide (((caseSets (readC x h f 2)).length : Int) > 0) && settled (caseSets (readC x h f 2)) n == 0)) := rfl
            have k981 := k98 1
            have k982 := k98 2
            clear hfind hnext hI k98 hf
            rw [hg, hP, hL]
            generalize hR1 : readC x h f 1 = R1 at *
            generalize hR2 : readC x h f 2 = R2 at *
            generalize hS1 : caseSets R1 = S1 at *
            generalize hS2 : caseSets R2 = S2 at *
            refine key39 (E := ((x.shop.heads.getD h zHead).shows.getD f 0 == 0 && (!(decide ((S1.length : Int) > 0) && settled S1 n == 0) && !(decide ((S2.length : Int) > 0) && settled S2 n == 0)))) (s := .l1 (h : Int) ((f : Int) + 1)) (r := .r0 (h : Int) (f : Int) 0) (fun q => .inl ⟨q, rfl⟩) (fun q => .inr ⟨q, fun z => .inr (lookV2 (hres z))⟩) fun G stop done => ?_
            clear hres hP hL
            have hq1 : inR .i64 ((0 : Int) + 1) = true := inR64 (by omega) (by omega)
            have hq2 : inR .i64 ((1 : Int) + 1) = true := inR64 (by omega) (by omega)
            cases hu : (x.shop.heads.getD h zHead).shows.getD f 0 == 0 with
            | false =>
              have hu' : ¬ (x.shop.heads.getD h zHead).shows.getD f 0 = 0 := by simpa using hu
              rw [hu] at stop
              have stop := stop rfl
              refine WP.step ?_
              simp only [T39, Go, Ends', v39, Tr.sure, SS, hf2, hu', z1, z3]
              repeat' with_reducible first | intro _ | apply And.intro
              all_goals first | exact stop | (simp [hr, Go, Ends', v39, -List.getD_eq_getElem?_getD, *]; done)
            | true =>
              have hu' : (x.shop.heads.getD h zHead).shows.getD f 0 = 0 := by simpa using hu
              rw [hu] at stop done
              have s2 : (!(decide ((S1.length : Int) > 0) && settled S1 n == 0) && !(decide ((S2.length : Int) > 0) && settled S2 n == 0)) = true → WP Tryz.prog ⟨none, 0⟩ (T39 x n) G (.l2 (h : Int) (f : Int) [1, 2] 2) := fun q => by
                have done := done (by rw [q]; rfl)
                refine WP.step ?_
                simp only [T39, Go, Ends', v39, Tr.sure, SS, Int.lt_irrefl]
                repeat' with_reducible first | intro _ | apply And.intro
                all_goals exact done
              have s1 : (!(decide ((S1.length : Int) > 0) && settled S1 n == 0)) = true → WP Tryz.prog ⟨none, 0⟩ (T39 x n) G (.l2 (h : Int) (f : Int) [1, 2] 1) := fun q => by
                rw [q] at stop s2
                refine WP.step ?_
                simp only [T39, Go, Ends', v39, Tr.sure, SS, g12_1, hR2, hS2]
                repeat' with_reducible first | intro _ | apply And.intro
                all_goals first | exact k982 | exact k972 | exact k672 | exact (by with_reducible exact hq2) | (simp [hr, Go, Ends', v39, -List.getD_eq_getElem?_getD, *]; done) | (simp_all [hr, Go, Ends', v39, -List.getD_eq_getElem?_getD]; done)
                all_goals first
                  | (refine stop ?_; simp only [gt_iff_lt, *, decide_true, decide_false, Bool.true_and, Bool.false_and, Bool.and_true, Bool.and_false, Bool.not_true, Bool.not_false, beq_self_eq_true, Bool.not_eq_true', beq_eq_false_iff_ne, ne_eq, not_false_eq_true]; done)
                  | (refine s2 ?_; simp only [gt_iff_lt, *, decide_true, decide_false, Bool.true_and, Bool.false_and, Bool.and_true, Bool.and_false, Bool.not_true, Bool.not_false, beq_self_eq_true, Bool.not_eq_true', beq_eq_false_iff_ne, ne_eq, not_false_eq_true]; done)
              have s0 : WP Tryz.prog ⟨none, 0⟩ (T39 x n) G (.l2 (h : Int) (f : Int) [1, 2] 0) := by
                refine WP.step ?_
                simp only [T39, Go, Ends', v39, Tr.sure, SS, g12_0, hR1, hS1]
                repeat' with_reducible first | intro _ | apply And.intro
                all_goals first | exact k981 | exact k971 | exact k671 | exact (by with_reducible exact hq1) | (simp [hr, Go, Ends', v39, -List.getD_eq_getElem?_getD, *]; done) | (simp_all [hr, Go, Ends', v39, -List.getD_eq_getElem?_getD]; done) | skip
                all_goals first
                  | (refine stop ?_; simp only [gt_iff_lt, *, decide_true, decide_false, Bool.true_and, Bool.false_and, Bool.and_true, Bool.and_false, Bool.not_true, Bool.not_false, beq_self_eq_true, Bool.not_eq_true', beq_eq_false_iff_ne, ne_eq, not_false_eq_true]; done)
                  | (refine s1 ?_; simp only [gt_iff_lt, *, decide_true, decide_false, Bool.true_and, Bool.false_and, Bool.and_true, Bool.and_false, Bool.not_true, Bool.not_false, beq_self_eq_true, Bool.not_eq_true', beq_eq_false_iff_ne, ne_eq, not_false_eq_true]; done)
              refine WP.step ?_
              simp only [T39, Go, Ends', v39, Tr.sure, SS, hf2, hu', z1, z3]
              repeat' with_reducible first | intro _ | apply And.intro
              all_goals first | exact s0 | exact (VLe.lit2 _ _) | (simp [hr, Go, Ends', v39, -List.getD_eq_getElem?_getD, *]; done)
          · rw [hEl]
            have hge : ¬ ((x.shop.features.toNat : Nat) : Int) < (x.shop.heads.getD h zHead).shows.length := by omega
            refine WP.once ?_
            simp only [T39, Tr.sure, SS, hge, z3]
            repeat' with_reducible first | intro _ | apply And.intro
            all_goals simp [hr0, hnext (find_none _ _ hJ), Go, Ends', v39, -List.getD_eq_getElem?_getD, *]
        · have hf3 : lookR x n = (⟨0, 0⟩, 9) := by rw [hf, hI]
          refine WP.step ?_
          simp only [T39, Go, Ends', v39, Tr.sure, SS, Int.lt_irrefl]
          repeat' with_reducible first | intro _ | apply And.intro
          all_goals exact (by with_reducible exact lookV2 hf3)
      refine w39 x n (WP.step ?_)
      simp only [T39, Go, Ends', v39, Tr.sure, SS, hset]
      repeat' with_reducible first | intro _ | apply And.intro
      all_goals first | exact (c66 _ _) | exact (c63i x n) | exact (VLe.undef _) | exact (entP_le (by with_reducible assumption)) | exact h67 | exact hmain | (simp_all [Go, Ends', v39, -List.getD_eq_getElem?_getD]; done)
    · have hf : lookR x n = (⟨0, 0⟩, 2) := by unfold lookR; rw [hh2]; simp [hset]
      refine w39 x n (WP.step ?_)
      simp only [T39, Go, Ends', v39, Tr.sure, SS]
      repeat' with_reducible first | intro _ | apply And.intro
      all_goals first | exact (c66 _ _) | exact (c63i x n) | exact (VLe.undef _) | exact (entP_le (by with_reducible assumption)) | exact h67 | exact (by with_reducible exact lookV2 hf) | (simp_all [hset, Go, Ends', v39, -List.getD_eq_getElem?_getD]; done)
  · have hh2 : holdsR x n = (0, (truthsE x (indexErr n x.claims.length)).2) := by unfold holdsR; rw [if_pos h]
    have hf : lookR x n = (⟨0, 0⟩, (truthsE x (indexErr n x.claims.length)).2) := by unfold lookR; rw [hh2]; simp [h]
    refine w39 x n (WP.step ?_)
    simp only [T39, Go, Ends', v39, Tr.sure, SS]
    repeat' with_reducible first | intro _ | apply And.intro
    all_goals first | exact (c66 _ _) | exact (c63i x n) | exact (VLe.undef _) | exact (entP_le (by with_reducible assumption)) | exact (by with_reducible exact lookV2 hf) | (simp_all [h, Go, Ends', v39, -List.getD_eq_getElem?_getD]; done)
end
noncomputable section
def winsF (a b : Int) (q : Nat) : Int := if q = 0 then a else if q = 1 then b else 0
def winsOf (x : Case) (m : Int) : Nat → Int := winsF ((truths x.shop).countP (oldP x m)) ((truths x.shop).countP (newP x m))
def noWins (f : Nat → Int) : Bool := f 0 == 0 && (f 1 == 0 && true)
inductive P37
  | e
inductive R37
  | r0 (r0 : Int) (r1 : Int)
  | r1 (r0 : Int) (r1 : Int)
noncomputable def T37 (x : Case) (n : Int) : P37 → Tr P37 R37
  | .e => let c4 := (x.shop.moulds.length : Int); let c2 := indexErr n c4; let c5 := (truthsE x c2).2; let c1 : List V := [.agg (cC x), iI n, .ref 0 0 0, .ref 1 0 0, iI 0, iI 0, court x (caseSets x), iI c5, .ref 2 0 0, uU, uU, uU, uU, uU, .agg (cC x), iI n, .ref 0 0 0, .ref 0 0 1, tMould.lst x.shop.moulds, iI c4, fG 132 [rR (iI c4), rR (iI n)], uU, uU, iI c5, iI c5, .bool ((truthsE x c2).2 != (0 : Int)), uU, court x (caseSets x), fG 139 [rR (court x (caseSets x))], uU, uU, uU, uU, uU, uU, uU, uU, uU, uU, uU, uU, uU, uU, uU, uU, uU, uU, uU, uU, uU, uU, uU, uU, uU, uU, uU, uU, uU, uU, uU, uU, uU, uU, uU, uU, uU, uU, uU, uU, uU, uU, uU, uU, uU, uU, uU, uU, uU, uU, uU, uU, uU, uU, uU, uU, uU, uU, uU, uU, uU, uU, uU, uU, uU, uU, uU, uU, uU, uU, uU, uU, uU]; let c6 := winsOf x n; let c3 : List Blk := [.cells (cC x), .cells [iI n], .rows 53 1 2 (rowsFn tint c6), .obj (.deferred (some []))]; let c7 : V := .tuple [entP x c2, iI c5]; (.front [(6, 66, [iI n, iI c4], fG 132 [rR (iI c4), rR (iI n)]), (7, 63, [.agg (cC x), fG 132 [rR (iI c4), rR (iI n)]], .tuple [entP x c2, iI c5])] [] true true (.br ((truthsE x c2).2 != (0 : Int)) (.out (.r0 0 c5)) (.wait 2 (.vle 6 (entP x c2) (court x (caseSets x)) (.vle 13 c7 uU (.vle 21 c7 uU (.vle 22 (entP x c2) uU (.wait 1 (.telb 2 1 2 (fun _ j => ([iI 0] : List V).getD j uU) (rowsFn tint (fun _ => tint.zero)) (.call 94 [court x (caseSets x)] (fG 139 [rR (court x (caseSets x))]) true true (.wait 1 (.over (rangeOf Tryz.f37) ⟨c1, [.cells (cC x), .cells [iI n], .rows 53 1 2 (rowsFn tint (fun _ => tint.zero))], []⟩ .normal ⟨c1, c3, [3]⟩ true (.sem (opAt Tryz.f37 18 2) [(.tmp 91, .arr 1 2 (rowsFn tint c6)), (.tmp 92, .agg [iI 0, iI 0])] c3 (.bool (noWins c6)) c3 true (.br (noWins c6) (.out (.r1 0 9)) (.need (decide (0 ≤ (1 : Int)) && decide ((1 : Int) < (2 : Int))) (.need (decide (((1 : Int)).toNat < 2) && decide (0 < 1)) (.br ((c6 (((1 : Int)).toNat)) == (0 : Int)) (.out (.r1 0 0)) (.need (decide (0 ≤ (0 : Int)) && decide ((0 : Int) < (2 : Int))) (.need (decide (((0 : Int)).toNat < 2) && decide (0 < 1)) (.br ((c6 (((0 : Int)).toNat)) == (0 : Int)) (.out (.r1 1 0)) (.out (.r1 2 0))))))))))))))))))))))
noncomputable def g37 (x : Case) (n : Int) : P37 → List Item × St
  | .e => bd Tryz.f37 [.agg (cC x), iI n] 100
noncomputable def n37 : R37 → Exit × St
  | .r0 r0 r1 => (.ret, ⟨mk 102 [(4, iI r0), (5, iI r1)], [], []⟩)
  | .r1 r0 r1 => (.ret, ⟨mk 102 [(4, iI r0), (5, iI r1)], [.gone, .gone, .gone, .obj (.deferred (some []))], [3]⟩)
noncomputable def v37 : R37 → V
  | .r0 r0 r1 => .tuple [iI r0, iI r1]
  | .r1 r0 r1 => .tuple [iI r0, iI r1]
theorem s37 (x : Case) (n : Int) : Sm 0 (g37 x n) (T37 x n) (n37)
  | .e => ⟨400, by kernel_rfl⟩
theorem q37 : ∀ r, bodyQ Tryz.prog Tryz.f37 (· = v37 r) (n37 r).1 (n37 r).2
  | .r0 r0 r1 => bq (.tuple [iI r0, iI r1]) (by kernel_rfl)
  | .r1 r0 r1 => ⟨.inr rfl, by simp [n37], (.tuple [iI r0, iI r1]), (.tuple [iI r0, iI r1]), by kernel_rfl, (.imm rfl), rfl⟩
theorem w37 (x : Case) (n : Int) {post : V → Prop} (h : WQ (T37 x n) v37 post .e) : PC 37 [.agg (cC x), iI n] post :=
  PCalls.wq Tryz.func37 (s37 x n) q37 h
inductive P37a
  | e
inductive R37a
  | r0 (r0 : Nat → Int) (r1 : Nat → Cast)
noncomputable def T37a (x : Case) (n : Int) (w : Nat → Int) (l : Nat → Cast) : P37a → Tr P37a R37a
  | .e => (.out (.r0 w l))
noncomputable def g37a (x : Case) (n : Int) (w : Nat → Int) (l : Nat → Cast) : P37a → List Item × St
  | .e => ([.code (asgOf (rangeOf Tryz.f37))], ⟨[uU, uU, .cref 5 fun q => ((cC x) : List V).getD q uU, rR (iI n), uU, uU, uU, uU, .ref 2 0 0, uU, uU, uU, uU, uU, uU, uU, uU, uU, uU, uU, uU, uU, uU, uU, uU, uU, uU, uU, fG 139 [rR (court x (caseSets x))], .arr 2 4 (rowsFn tCast l), uU, uU, uU, uU, uU, uU, uU, uU, uU, uU, uU, uU, uU, uU, uU, uU, uU, uU, uU, uU, uU, uU, uU, uU, uU, uU, uU, uU, uU, uU, uU, uU, uU, uU, uU, uU, uU, uU, uU, uU, uU, uU, uU, uU, uU, uU, uU, uU, uU, uU, uU, uU, uU, uU, uU, uU, uU, uU, uU, uU, uU, uU, uU, uU, uU, uU, uU, uU, uU, uU, uU, uU], [.gone, .gone, .rows 53 1 2 (rowsFn tint w)], []⟩)
noncomputable def n37a (x : Case) (n : Int) (w : Nat → Int) (l : Nat → Cast) : R37a → Exit × St
  | .r0 r0 r1 => (.normal, ⟨mk 102 [(2, .cref 5 fun q => ((cC x) : List V).getD q uU), (3, rR (iI n)), (8, .ref 2 0 0), (9, .ref 3 0 0)], [.gone, .gone, .rows 53 1 2 (rowsFn tint r0), .rows 130 2 4 (rowsFn tCast r1)], []⟩)
theorem s37a (x : Case) (n : Int) (w : Nat → Int) (l : Nat → Cast) : Sm 3 (g37a x n w l) (T37a x n w l) (n37a x n w l)
  | .e => ⟨400, by kernel_rfl⟩
inductive P37b
  | e
  | l0 (x0_33 : Int) (a0_4 : Nat → Int)
inductive R37b
  | r0 (r0 : Nat → Int)
noncomputable def T37b (x : Case) (n : Int) (w : Nat → Int) (l : Nat → Cast) : P37b → Tr P37b R37b
  | .e => (.wait 3 (.telb 4 1 2 (fun _ j => ([iI 0] : List V).getD j uU) (rowsFn tint (fun _ => tint.zero)) (.go (.l0 0 (fun _ => tint.zero)))))
  | .l0 x0_33 a0_4 => let c1 := x.owners.getD (x0_33).toNat tint.zero; let c2 := ([iI ((l ((x0_33).toNat)).number)] : List V); let c3 := decide (0 ≤ x0_33) && decide (x0_33 < (4 : Int)); let c6 := decide (0 ≤ (1 : Int)) && decide ((1 : Int) < (2 : Int)); let c7 := decide (0 ≤ (0 : Int)) && decide ((0 : Int) < (2 : Int)); let c8 := decide (0 ≤ c1) && decide (c1 < (2 : Int)); let c9 := upd a0_4 ((c1).toNat) ((l ((x0_33).toNat)).number); let c10 := x0_33 + (1 : Int); let c11 := decide (((1 : Int)).toNat < 2) && decide (0 < 1); let c12 := decide (((0 : Int)).toNat < 2) && decide (0 < 1); let c13 := (l ((x0_33).toNat)).mould == n; let c14 := decide ((x0_33).toNat < 4) && decide (1 < 2); let c15 := decide ((x0_33).toNat < 4) && decide (0 < 2); let c16 := decide ((c1).toNat < 2) && decide (0 < 1); let c17 := (decide ((c1).toNat < 2) && decide (0 + c2.length ≤ 1)) && underL 0 c2; let c18 := (a0_4 ((c1).toNat)) == (0 : Int); let c19 := ((1 : Int)).toNat; let c4 := (w c19) + (1 : Int); let c20 := ((0 : Int)).toNat; let c5 := (w c20) + (1 : Int); let c21 := ([iI c5] : List V); let c22 := ([iI c4] : List V); let c23 : Tr P37b R37b := .need (inR .i64 c10) (.go (.l0 c10 a0_4)); let c24 : Tr P37b R37b := .need (inR .i64 c10) (.go (.l0 c10 c9)); let c25 := x0_33 < (x.owners.length : Int); (.br (decide c25) (.need (decide (0 ≤ x0_33) && decide c25) (.br c13 (.br c18 (.front [] [(6, true), (11, true)] ((c3 && (c15 && ((c13 == true) && (c8 && (c16 && ((c18 == true) && true)))))) && true) true (.lit true (.need c3 (.need c14 (.need c8 (.need c17 (.telb 4 1 2 (fun r' j => if r' = (c1).toNat ∧ 0 ≤ j ∧ j < 0 + c2.length then c2.getD (j - 0) uU else (rowsFn tint a0_4) r' j) (rowsFn tint c9) c24))))))) (.front [] [(6, true), (11, false)] ((c3 && (c15 && ((c13 == true) && (c8 && (c16 && ((c18 == false) && (c3 && (c14 && (c8 && (c16 && true)))))))))) && true) true (.br (decide ((l ((x0_33).toNat)).number < (a0_4 ((c1).toNat)))) (.need c3 (.need c14 (.need c8 (.need c17 (.telb 4 1 2 (fun r' j => if r' = (c1).toNat ∧ 0 ≤ j ∧ j < 0 + c2.length then c2.getD (j - 0) uU else (rowsFn tint a0_4) r' j) (rowsFn tint c9) c24))))) c23))) (.front [] [(6, false)] ((c3 && (c15 && ((c13 == false) && true))) && true) true (.lit false c23)))) (.need c7 (.need c12 (.br ((a0_4 c20) == (0 : Int)) (.lit true (.out (.r0 w))) (.need c6 (.need c11 (.br ((a0_4 c19) == (0 : Int)) (.out (.r0 w)) (.need c7 (.need c12 (.need c6 (.need c11 (.br (decide ((a0_4 c20) < (a0_4 c19))) (.need c7 (.need c12 (.need (inR .i64 c5) (.need c7 (.need ((decide (((0 : Int)).toNat < 2) && decide (0 + c21.length ≤ 1)) && underL 0 c21) (.telb 2 1 2 (fun r' j => if r' = ((0 : Int)).toNat ∧ 0 ≤ j ∧ j < 0 + c21.length then c21.getD (j - 0) uU else (rowsFn tint w) r' j) (rowsFn tint (upd w c20 c5)) (.out (.r0 (upd w c20 c5))))))))) (.need c6 (.need c11 (.need (inR .i64 c4) (.need c6 (.need ((decide (((1 : Int)).toNat < 2) && decide (0 + c22.length ≤ 1)) && underL 0 c22) (.telb 2 1 2 (fun r' j => if r' = ((1 : Int)).toNat ∧ 0 ≤ j ∧ j < 0 + c22.length then c22.getD (j - 0) uU else (rowsFn tint w) r' j) (rowsFn tint (upd w c19 c4)) (.out (.r0 (upd w c19 c4)))))))))))))))))))))
noncomputable def g37b (x : Case) (n : Int) (w : Nat → Int) (l : Nat → Cast) : P37b → List Item × St
  | .e => ([.code (bdyOf (rangeOf Tryz.f37))], ⟨[uU, uU, .cref 5 fun q => ((cC x) : List V).getD q uU, rR (iI n), uU, uU, uU, uU, .ref 2 0 0, .ref 3 0 0, uU, uU, uU, uU, uU, uU, uU, uU, uU, uU, uU, uU, uU, uU, uU, uU, uU, uU, uU, uU, uU, uU, uU, uU, uU, uU, uU, uU, uU, uU, uU, uU, uU, uU, uU, uU, uU, uU, uU, uU, uU, uU, uU, uU, uU, uU, uU, uU, uU, uU, uU, uU, uU, uU, uU, uU, uU, uU, uU, uU, uU, uU, uU, uU, uU, uU, uU, uU, uU, uU, uU, uU, uU, uU, uU, uU, uU, uU, uU, uU, uU, uU, uU, uU, uU, uU, uU, uU, uU, uU, uU, uU], [.gone, .gone, .rows 53 1 2 (rowsFn tint w), .rows 130 2 4 (rowsFn tCast l)], []⟩)
  | .l0 x0_33 a0_4 => ((cuts [] (bdyOf (rangeOf Tryz.f37))).getD 0 [], ⟨mk 102 [(3, rR (iI n)), (8, .ref 2 0 0), (9, .ref 3 0 0), (10, .ref 4 0 0), (31, tint.lst x.owners), (32, iI (x.owners.length : Int)), (33, iI x0_33)], [.gone, .gone, .rows 53 1 2 (rowsFn tint w), .rows 130 2 4 (rowsFn tCast l), .rows 53 1 2 (rowsFn tint a0_4)], []⟩)
noncomputable def n37b (x : Case) (n : Int) (w : Nat → Int) (l : Nat → Cast) : R37b → Exit × St
  | .r0 r0 => (.normal, ⟨mk 102 [], [.gone, .gone, .rows 53 1 2 (rowsFn tint r0)], []⟩)
theorem s37b (x : Case) (n : Int) (w : Nat → Int) (l : Nat → Cast) : Sm 3 (g37b x n w l) (T37b x n w l) (n37b x n w l)
  | .e => ⟨400, by kernel_rfl⟩
  | .l0 _ _ => ⟨400, by kernel_rfl⟩
end
noncomputable section
def leastF (x : Case) (l : Nat → Cast) (m own : Int) (i : Nat) (n : Int) : Int :=
  if ((l i).mould == m && (x.owners.getD i 0 == own && (n == 0 || decide ((l i).number < n)))) = true then (l i).number else n
theorem leastF_eq (x : Case) (l : Nat → Cast) (m own : Int) (k : Nat) : natF (leastF x l m own) 0 k = least x (preA l k) m own := by
  unfold least
  rw [preA_len]
  refine natF_congr fun i hi n => ?_
  unfold leastF leastStep
  rw [preA_get l hi]
def firstF (x : Case) (l : Nat → Cast) (m : Int) (i : Nat) (q : Nat) : Int := natF (leastF x l m (q : Int)) 0 i
theorem firstF_yes {x : Case} {l : Nat → Cast} {m : Int} {i : Nat} {o : Nat} (ho : x.owners.getD i 0 = (o : Int)) (h1 : (l i).mould = m) (h2 : firstF x l m i o = 0 ∨ (l i).number < firstF x l m i o) : firstF x l m (i + 1) = upd (firstF x l m i) o (l i).number := funext fun q => by
  show leastF x l m (q : Int) i (firstF x l m i q) = _
  unfold leastF upd
  rw [ho]
  by_cases e : q = o
  · subst e
    rw [if_pos rfl, if_pos]
    simp only [h1, beq_self_eq_true, Bool.true_and, Bool.or_eq_true, beq_iff_eq, decide_eq_true_eq]; exact h2
  · have : ¬ (o : Int) = (q : Int) := by omega
    rw [if_neg e, if_neg]
    simp [this]
theorem firstF_no {x : Case} {l : Nat → Cast} {m : Int} {i : Nat} {o : Nat} (ho : x.owners.getD i 0 = (o : Int)) (h : ¬ (l i).mould = m ∨ (¬ firstF x l m i o = 0 ∧ ¬ (l i).number < firstF x l m i o)) : firstF x l m (i + 1) = firstF x l m i := funext fun q => by
  show leastF x l m (q : Int) i (firstF x l m i q) = _
  unfold leastF
  rw [ho]
  by_cases e : q = o
  · subst e
    rw [if_neg]
    simp only [Bool.and_eq_true, Bool.or_eq_true, beq_iff_eq, decide_eq_true_eq]
    rintro ⟨h1, _, h2⟩
    rcases h with h | ⟨h3, h4⟩
    · exact h h1
    · rcases h2 with h2 | h2
      · exact h3 h2
      · exact h4 h2
  · have : ¬ (o : Int) = (q : Int) := by omega
    rw [if_neg]
    simp [this]
theorem toN0 : Int.toNat 0 = 0 := rfl
theorem toN1 : Int.toNat 1 = 1 := rfl
theorem zero37 {r j : Nat} (hj : j < 1) : VLe (([iI 0] : List V).getD j uU) (rowsFn tint (fun _ => tint.zero) r j) := by
  obtain rfl : j = 0 := by omega
  exact VLe.refl _
theorem tel_updI (f : Nat → Int) (i : Nat) (a : Int) (r j : Nat) : VLe (if r = i ∧ 0 ≤ j ∧ j < 0 + ([iI a] : List V).length then ([iI a] : List V).getD (j - 0) uU else rowsFn tint f r j) (rowsFn tint (upd f i a) r j) := by
  rcases Nat.lt_or_ge j 1 with hj | hj
  · exact tel_upd tint f i a (n := r + 1) (w := 1) _ rfl rfl r j (by omega) hj
  · have : rowsFn tint (upd f i a) r j = uU := by
      unfold rowsFn; rw [List.getD_eq_getElem?_getD, List.getElem?_eq_none (by simpa [tint] using hj)]; rfl
    rw [this]; exact VLe.undef _
def winsAt (x : Case) (m : Int) (k : Nat) : Nat → Int := winsF (((truths x.shop).take k).countP (oldP x m)) (((truths x.shop).take k).countP (newP x m))
def roundW (x : Case) (m : Int) (w : Nat → Int) (l : Nat → Cast) : Nat → Int :=
  if firstF x l m x.owners.length 0 = 0 ∨ firstF x l m x.owners.length 1 = 0 then w
  else if firstF x l m x.owners.length 0 < firstF x l m x.owners.length 1 then upd w 0 (w 0 + 1) else upd w 1 (w 1 + 1)
abbrev H37 (w : Nat → Int) : List Blk := [.gone, .gone, .rows 53 1 2 (rowsFn tint w)]
abbrev TL37 (x : Case) (n : Int) : List V := [uU, uU, .cref 5 fun q => (tCase.cells x).getD q uU, rR (iI n), uU, uU, uU, uU, .ref 2 0 0] ++ List.replicate 19 uU ++ [fG 139 [rR (court x (caseSets x))]] ++ List.replicate 73 uU
set_option maxHeartbeats 1000000 in
theorem round37 (x : Case) (h : OkCase x) (n : Int) (lid : Nat) (w : Nat → Int) (f : Nat → Cast) (hw : ∀ q, 0 ≤ w q ∧ w q ≤ 100000) :
    AWP Tryz.prog ⟨some lid, 3⟩ (asgOf (rangeOf Tryz.f37)) ⟨setPs [29] [.arr 2 4 (rowsFn tCast f)] (TL37 x n), H37 w, []⟩ fun e S1 => e = .normal ∧ noExt S1.h = true ∧
      AWP Tryz.prog ⟨some lid, 3⟩ (bdyOf (rangeOf Tryz.f37)) S1 fun e S2 => e = .normal ∧ S2.h = H37 (roundW x n w f) := by
  refine AWP.wp mx (T37a x n w f) (g37a x n w f) (n37a x n w f) .e rfl (s37a x n w f) (post := fun r => r = .r0 w f) ?_ (fun r hr => ?_)
  · refine WP.step ?_
    simp only [T37a, Go, Ends', Tr.sure, SS, z5]
    repeat' with_reducible first | intro _ | apply And.intro
  · subst hr
    refine ⟨rfl, rfl, ?_⟩
    refine AWP.wp mx (T37b x n w f) (g37b x n w f) (n37b x n w f) .e rfl (s37b x n w f) (post := fun r => r = .r0 (roundW x n w f)) ?_ (fun r hr => by subst hr; exact ⟨rfl, rfl⟩)
    have ho4 : x.owners.length ≤ 4 := by have := h.many; have := h.shop.nh; omega
    have main : WP Tryz.prog ⟨some lid, 3⟩ (T37b x n w f) (Ends' fun r => r = .r0 (roundW x n w f)) (.l0 0 fun _ => tint.zero) := by
      refine WP.run (fun i => .l0 (i : Int) (firstF x f n i)) rfl x.owners.length (fun i hi => ?_) ?_
      · have hr : inR .i64 ((i : Int) + 1) = true := inR64 (by omega) (by omega)
        have hi' : (i : Int) < x.owners.length := by omega
        have hi4 : (i : Int) < 4 := by omega
        have hi4' : i < 4 := by omega
        have hown := h.own _ (getD_mem 0 x.owners i hi)
        obtain ⟨o, ho⟩ := Int.eq_ofNat_of_zero_le hown.1
        have ho2 : (o : Int) < 2 := by omega
        have ho2' : o < 2 := by omega
        have hy := fun h1 h2 => firstF_yes (x := x) (l := f) (m := n) (i := i) ho h1 h2
        have hno := fun h1 => firstF_no (x := x) (l := f) (m := n) (i := i) ho h1
        have hz : tint.zero = 0 := rfl
        generalize firstF x f n i = F at *
        generalize firstF x f n (i + 1) = F' at *
        by_cases h1 : (f i).mould = n
        · by_cases h2 : F o = 0
          · have hF := hy h1 (.inl h2)
            subst hF
            refine WP.once ?_
            simp only [T37b, Tr.sure, SS, hi', hi4, hi4', hz, ho, ho2, ho2', h1, h2]
            repeat' with_reducible first | intro _ | apply And.intro
            all_goals first | exact (tel_updI _ _ _ _ _) | exact (by with_reducible exact under_int _) | (simp [hr, Go, Ends', -List.getD_eq_getElem?_getD, *]; done)
          · by_cases h3 : (f i).number < F o
            · have hF := hy h1 (.inr h3)
              subst hF
              refine WP.once ?_
              simp only [T37b, Tr.sure, SS, hi', hi4, hi4', hz, ho, ho2, ho2', h1, h2, h3]
              repeat' with_reducible first | intro _ | apply And.intro
              all_goals first | exact (tel_updI _ _ _ _ _) | exact (by with_reducible exact under_int _) | (simp [hr, Go, Ends', -List.getD_eq_getElem?_getD, *]; done)
            · have hF := hno (.inr ⟨h2, h3⟩)
              subst hF
              refine WP.once ?_
              simp only [T37b, Tr.sure, SS, hi', hi4, hi4', hz, ho, ho2, ho2', h1, h2, h3]
              repeat' with_reducible first | intro _ | apply And.intro
              all_goals simp [hr, Go, Ends', -List.getD_eq_getElem?_getD, *]
        · have hF := hno (.inl h1)
          subst hF
          refine WP.once ?_
          simp only [T37b, Tr.sure, SS, hi', hi4, hi4', hz, ho, ho2, ho2', h1]
          repeat' with_reducible first | intro _ | apply And.intro
          all_goals simp [hr, Go, Ends', -List.getD_eq_getElem?_getD, *]
      · have hr0 : inR .i64 (w 0 + 1) = true := inR64 (by have := hw 0; omega) (by have := hw 0; omega)
        have hr1 : inR .i64 (w 1 + 1) = true := inR64 (by have := hw 1; omega) (by have := hw 1; omega)
        unfold roundW
        generalize firstF x f n x.owners.length = F at *
        refine WP.step ?_
        simp only [T37b, Go, Ends', Tr.sure, SS, Int.lt_irrefl, toN0, toN1]
        repeat' with_reducible first | intro _ | apply And.intro
        all_goals first | exact (tel_updI _ _ _ _ _) | exact (by with_reducible exact under_int _) | (simp [hr0, hr1, Go, Ends', -List.getD_eq_getElem?_getD, *]; done)
    refine WP.step ?_
    simp only [T37b, Go, Ends', Tr.sure, SS]
    repeat' with_reducible first | intro _ | apply And.intro
    all_goals first | exact main | exact (zero37 (by with_reducible assumption))
theorem winsAt_succ {x : Case} {n : Int} (h : OkCase x) {k : Nat} {f : Nat → Cast} (hf : (leavesH x.shop 0 fun _ => zCast)[k]? = some f) : winsAt x n (k + 1) = roundW x n (winsAt x n k) f := by
  have hk : k < (truths x.shop).length := by rw [← truths_A h.shop, List.length_map]; exact (List.getElem?_eq_some_iff.1 hf).1
  have hg : (truths x.shop).getD k [] = preA f x.shop.heads.length := by
    rw [← truths_A h.shop, List.getD_eq_getElem?_getD, List.getElem?_map, hf]; rfl
  have hm : x.owners.length = x.shop.heads.length := h.many
  have e0 : firstF x f n x.owners.length 0 = least x (preA f x.shop.heads.length) n 0 := by rw [hm]; exact leastF_eq x f n 0 _
  have e1 : firstF x f n x.owners.length 1 = least x (preA f x.shop.heads.length) n 1 := by rw [hm]; exact leastF_eq x f n 1 _
  unfold winsAt roundW
  rw [countP_takeG (oldP x n) _ [] hk, countP_takeG (newP x n) _ [] hk, hg, e0, e1]
  unfold oldP newP
  generalize least x (preA f x.shop.heads.length) n 0 = a
  generalize least x (preA f x.shop.heads.length) n 1 = b
  generalize (((truths x.shop).take k).countP fun l => (least x l n 0 != 0 && least x l n 1 != 0) && decide (least x l n 0 < least x l n 1) : Nat) = A
  generalize (((truths x.shop).take k).countP fun l => (least x l n 0 != 0 && least x l n 1 != 0) && !decide (least x l n 0 < least x l n 1) : Nat) = B
  by_cases ha : a = 0
  · simp [ha]
  · by_cases hb : b = 0
    · simp [ha, hb]
    · by_cases hab : a < b
      · simp only [ha, hb, hab, or_self, if_false, if_true, bne_iff_ne, ne_eq, not_false_eq_true, decide_true, Bool.and_true, Bool.not_true, Bool.and_false, Bool.false_eq_true, Bool.and_self]
        rw [if_pos (by simp [ha, hb])]
        funext q; unfold upd winsF
        by_cases q0 : q = 0
        · simp [q0]
        · simp [q0]
      · simp only [ha, hb, hab, or_self, if_false, bne_iff_ne, ne_eq, not_false_eq_true, decide_false, Bool.and_false, Bool.not_false, Bool.and_true, Bool.false_eq_true]
        rw [if_pos (by simp [ha, hb])]
        funext q; unfold upd winsF
        by_cases q0 : q = 0
        · simp [q0]
        · by_cases q1 : q = 1
          · simp [q1]
          · simp [q0, q1]
theorem winsAt_le (x : Case) (n : Int) (k : Nat) (hk : k ≤ 4096) (q : Nat) : 0 ≤ winsAt x n k q ∧ winsAt x n k q ≤ 100000 := by
  have h1 : ((truths x.shop).take k).countP (oldP x n) ≤ k := Nat.le_trans List.countP_le_length (by simp; omega)
  have h2 : ((truths x.shop).take k).countP (newP x n) ≤ k := Nat.le_trans List.countP_le_length (by simp; omega)
  unfold winsAt winsF
  split
  · omega
  · split <;> omega
theorem winsAt_0 (x : Case) (n : Int) : winsAt x n 0 = fun _ => tint.zero := funext fun q => by
  show winsF 0 0 q = 0
  unfold winsF; split
  · rfl
  · split <;> rfl
theorem winsAt_end {x : Case} (h : OkCase x) (n : Int) : winsAt x n (leavesH x.shop 0 fun _ => zCast).length = winsOf x n := by
  have : (leavesH x.shop 0 fun _ => zCast).length = (truths x.shop).length := by rw [← truths_A h.shop, List.length_map]
  unfold winsAt winsOf
  rw [this, List.take_length]
theorem TL37_other (x : Case) (n : Int) (j : Nat) (h2 : j ≠ 2) (h3 : j ≠ 3) (h8 : j ≠ 8) (h28 : j ≠ 28) : (TL37 x n).getD j uU = uU := by
  have e : TL37 x n = [uU, uU, .cref 5 fun q => (tCase.cells x).getD q uU, rR (iI n), uU, uU, uU, uU, .ref 2 0 0] ++ (List.replicate 19 uU ++ ([fG 139 [rR (court x (caseSets x))]] ++ List.replicate 73 uU)) := by
    unfold TL37; rw [List.append_assoc, List.append_assoc]
  rw [e]
  rcases Nat.lt_or_ge j 9 with q | q
  · rcases show j = 0 ∨ j = 1 ∨ j = 4 ∨ j = 5 ∨ j = 6 ∨ j = 7 by omega with e | e | e | e | e | e <;> subst e <;> rfl
  · rw [getD_append_right (by show 9 ≤ j; exact q)]
    rcases Nat.lt_or_ge (j - 9) 19 with q2 | q2
    · rw [getD_append_left (by simpa using q2), List.getD_eq_getElem?_getD, List.getElem?_replicate]
      split <;> rfl
    · rw [getD_append_right (by simpa using q2), getD_append_right (by simp; omega), List.getD_eq_getElem?_getD, List.getElem?_replicate]
      split <;> rfl
set_option maxHeartbeats 1000000 in
theorem range37 (x : Case) (h : OkCase x) (n : Int) (t : List V) (ht : t.length = 102) (h2 : t.getD 2 uU = .ref 0 0 0) (h3 : t.getD 3 uU = .ref 1 0 0) (h8 : t.getD 8 uU = .ref 2 0 0) (h28 : t.getD 28 uU = fG 139 [rR (court x (caseSets x))]) :
    AWP Tryz.prog ⟨none, 0⟩ (rangeOf Tryz.f37) ⟨t, [.cells (tCase.cells x), .cells [iI n], .rows 53 1 2 (rowsFn tint fun _ => tint.zero)], []⟩
      (fun e T => e = .normal ∧ T = ⟨t, [.cells (tCase.cells x), .cells [iI n], .rows 53 1 2 (rowsFn tint (winsOf x n)), .obj (.deferred (some []))], [3]⟩) := by
  have e : rangeOf Tryz.f37 = .rangeFunc (.tmp 28) #[29] (asgOf (rangeOf Tryz.f37)) (bdyOf (rangeOf Tryz.f37)) := by kernel_rfl
  have hlen : (leavesH x.shop 0 fun _ => zCast).length ≤ 4096 := Nat.le_trans (leaves_len h.shop _ _ _) (by
    have := h.shop.nh
    rcases show x.shop.heads.length = 0 ∨ x.shop.heads.length = 1 ∨ x.shop.heads.length = 2 ∨ x.shop.heads.length = 3 ∨ x.shop.heads.length = 4 by omega with e | e | e | e | e <;> rw [e] <;> decide)
  rw [e]
  refine AWP.rangeF (go := fun _ => true) (fs := [true, true, false]) (T := TL37 x n) (H := fun k => H37 (winsAt x n k)) (jx := .ret) (jc := .ret) (f := 139) (ys := ysA (truthsA x.shop)) (caps := [rR (court x (caseSets x))])
    rfl rfl rfl (by rw [ht]; rfl) (fun j => ?_) rfl rfl (PCalls.enters Tryz.func139 (c := Tryz.f139.body.getD .skip) (by kernel_rfl) (by kernel_rfl)) (c139 x (caseSets x) h) (by show H37 (winsAt x n 0) = _; rw [winsAt_0]; rfl) (fun _ => rfl) (fun _ => rfl) rfl rfl (fun lid k us hk _ => ?_) (fun i b hi => ?_) ?_
  · by_cases e2 : j = 2
    · subst e2; right; rw [h2]
      exact .ref (n := 5) rfl (Nat.le_refl _) fun j hj => by
        rw [Nat.zero_add]
        exact .imm (List.all_eq_true.1 (show (List.range 5).all (fun j => ((tCase.cells x).getD j uU).imm) = true from rfl) j (List.mem_range.2 hj))
    by_cases e3 : j = 3
    · subst e3; right; rw [h3]
      exact .ref (n := 1) rfl (Nat.le_refl _) fun j hj => by
        rw [Nat.zero_add]
        exact .imm (List.all_eq_true.1 (show (List.range 1).all (fun j => (([iI n] : List V).getD j uU).imm) = true from rfl) j (List.mem_range.2 hj))
    by_cases e8 : j = 8
    · subst e8; left; rw [h8]; rfl
    by_cases e28 : j = 28
    · subst e28; left; rw [h28]; rfl
    right; rw [TL37_other x n j e2 e3 e8 e28]; exact .undef _
  · obtain ⟨f, hf, hy⟩ : ∃ f, (leavesH x.shop 0 fun _ => zCast)[k]? = some f ∧ yA f = .tuple us := by
      have hk' : (ysA (truthsA x.shop))[k]? = some (.tuple us) := hk
      unfold ysA truthsA at hk'
      rw [List.getElem?_map] at hk'
      cases hf : (leavesH x.shop 0 fun _ => zCast)[k]? with
      | none => rw [hf] at hk'; cases hk'
      | some f => rw [hf] at hk'; exact ⟨f, rfl, Option.some.inj hk'⟩
    obtain rfl : us = [.arr 2 4 (rowsFn tCast f)] := by unfold yA at hy; cases hy; rfl
    refine ⟨rfl, ?_⟩
    have hkl := (List.getElem?_eq_some_iff.1 hf).1
    have := round37 x h n lid (winsAt x n k) f (fun q => winsAt_le x n k (by omega) q)
    rw [← winsAt_succ h hf] at this
    exact this
  · have hi' : i < 3 := (List.getElem?_eq_some_iff.1 hi).1
    rcases show i = 0 ∨ i = 1 ∨ i = 2 by omega with e | e | e <;> subst e <;> cases hi
    · trivial
    · trivial
    · intro r j _ hj
      obtain rfl : j = 0 := by omega
      rfl
  · refine ⟨by cases (stopK (fun _ => true) 0 (ysA (truthsA x.shop)).length) <;> rfl, ?_⟩
    rw [stopK_all, Nat.zero_add]
    have : (ysA (truthsA x.shop)).length = (leavesH x.shop 0 fun _ => zCast).length := by simp [ysA, truthsA]
    rw [this, winsAt_end h]; rfl
theorem arr_cells2 (f : Nat → Int) : VLe (.arr 1 2 (rowsFn tint f)) (.agg [iI (f 0), iI (f 1)]) := VLe.arrAgg rfl fun j hj => match j, hj with
  | 0, _ => rfl | 1, _ => rfl
inductive P63_m
  | e
inductive R63_m
  | r0 (r1 : Int)
  | r1 (r0c : Case) (r0s : List Int) (r1 : Int)
noncomputable def T63_m (n : Int) (x : Case) : P63_m → Tr P63_m R63_m
  | .e => let c1 := indexErr n (x.shop.moulds.length : Int); let c2 := caseCheck x; (.call 16 [.agg (cC x)] (.tuple [iI (c2.1), iI (c2.2.1), iI (c2.2.2)]) true true (.br (c2.2.2 != (0 : Int)) (.out (.r0 (c2.2.2))) (.call 132 [rR (iI (x.shop.moulds.length : Int)), rR (iI n)] (iI c1) true true (.br (c1 != (0 : Int)) (.out (.r0 c1)) (.call 97 [.agg (cC x)] (court x (caseSets x)) true true (.br ((((caseSets x).length) : Int) == (0 : Int)) (.out (.r0 8)) (.out (.r1 x (caseSets x) 0))))))))
noncomputable def g63_m (n : Int) (x : Case) : P63_m → List Item × St
  | .e => bd Tryz.f63 [.agg (cC x), fG 132 [rR (iI (x.shop.moulds.length : Int)), rR (iI n)]] 32
noncomputable def n63_m : R63_m → Exit × St
  | .r0 r1 => (.ret, ⟨mk 34 [(4, .nil), (5, iI r1)], [], []⟩)
  | .r1 r0c r0s r1 => (.ret, ⟨mk 34 [(4, court r0c r0s), (5, iI r1)], [], []⟩)
noncomputable def v63_m : R63_m → V
  | .r0 r1 => .tuple [.nil, iI r1]
  | .r1 r0c r0s r1 => .tuple [court r0c r0s, iI r1]
theorem s63_m (n : Int) (x : Case) : Sm 0 (g63_m n x) (T63_m n x) (n63_m)
  | .e => ⟨400, by kernel_rfl⟩
theorem q63_m : ∀ r, bodyQ Tryz.prog Tryz.f63 (· = v63_m r) (n63_m r).1 (n63_m r).2
  | .r0 r1 => bq (.tuple [.nil, iI r1]) (by kernel_rfl)
  | .r1 r0c r0s r1 => bq (.tuple [court r0c r0s, iI r1]) (by kernel_rfl)
theorem w63_m (n : Int) (x : Case) {post : V → Prop} (h : WQ (T63_m n x) v63_m post .e) : PC 63 [.agg (cC x), fG 132 [rR (iI (x.shop.moulds.length : Int)), rR (iI n)]] post :=
  PCalls.wq Tryz.func63 (s63_m n x) q63_m h
theorem c63m (x : Case) (n : Int) : PC 63 [.agg (tCase.cells x), fG 132 [rR (iI (x.shop.moulds.length : Int)), rR (iI n)]] (· = .tuple [entP x (indexErr n x.shop.moulds.length), iI (truthsE x (indexErr n x.shop.moulds.length)).2]) := by
  have hw : ∀ v, (caseCheck x).2.2 = 0 → v = court x (caseSets x) → PC 97 [.agg (tCase.cells x)] (· = v) := fun v h e => e ▸ c97 x (okCase h)
  have hm : (caseCheck x).2.2 = 0 → x.shop.moulds.length ≤ maxn := fun h => by have := (okCase h).shop.nm; unfold maxn; omega
  refine w63_m n x (WP.step ?_)
  simp only [T63_m, Go, Ends', v63_m, Tr.sure, SS]
  repeat' with_reducible first | intro _ | apply And.intro
  all_goals first | exact (c16 x) | exact (c132 _ n (hm (by with_reducible assumption))) | exact (hw _ (by with_reducible assumption) rfl) | (simp [entP, truthsE, Go, Ends', v63_m, -List.getD_eq_getElem?_getD, *]; done)
theorem sem_eqW (h : List Blk) (f : Nat → Int) : SemOK Tryz.prog (opAt Tryz.f37 18 2) [(.tmp 91, .arr 1 2 (rowsFn tint f)), (.tmp 92, .agg [iI 0, iI 0])] h (.bool (noWins f)) h :=
  sem_weak [(91, .agg [iI (f 0), iI (f 1)]), (92, .agg [iI 0, iI 0])] (fun p hp => by
    simp only [List.mem_cons, List.not_mem_nil, or_false] at hp
    rcases hp with rfl | rfl
    · exact ⟨_, by simp, arr_cells2 f⟩
    · exact ⟨_, by simp, VLe.refl _⟩) (by kernel_rfl)
set_option maxHeartbeats 2000000 in
theorem c37 (x : Case) (n : Int) : PC 37 [.agg (tCase.cells x), iI n] (· = .tuple [iI (olderR x n).1, iI (olderR x n).2]) := by
  by_cases h : (truthsE x (indexErr n x.shop.moulds.length)).2 = 0
  · have hok := (okOf h).1
    have hf : olderR x n = if (truths x.shop).countP (oldP x n) = 0 ∧ (truths x.shop).countP (newP x n) = 0 then (0, 9)
        else if (truths x.shop).countP (newP x n) = 0 then (0, 0) else if (truths x.shop).countP (oldP x n) = 0 then (1, 0) else (2, 0) := by
      unfold olderR; rw [if_neg (by simp [h])]
    have w0 : winsOf x n 0 = ((truths x.shop).countP (oldP x n) : Nat) := rfl
    have w1 : winsOf x n 1 = ((truths x.shop).countP (newP x n) : Nat) := rfl
    have hz : noWins (winsOf x n) = (decide ((truths x.shop).countP (oldP x n) = 0) && decide ((truths x.shop).countP (newP x n) = 0)) := by
      unfold noWins; rw [w0, w1, Bool.and_true]; congr 1 <;> (rw [Bool.eq_iff_iff, beq_iff_eq, decide_eq_true_iff]; omega)
    refine w37 x n (WP.step ?_)
    simp only [T37, Go, Ends', v37, Tr.sure, SS, toN0, toN1, w0, w1]
    repeat' with_reducible first | intro _ | apply And.intro
    all_goals first | exact (c66 _ _) | exact (c63m x n) | exact (VLe.undef _) | exact (entP_le h) | exact (zero37 (by with_reducible assumption)) | exact (c94 _ _) | exact (range37 x hok n _ rfl rfl rfl rfl rfl) | exact (sem_eqW _ _) | (simp [hf, hz, Go, Ends', v37, -List.getD_eq_getElem?_getD, *]; done) | (simp_all [hf, hz, Go, Ends', v37, -List.getD_eq_getElem?_getD]; done) | skip
    all_goals first
      | (rename_i e1 e2 e3 e4
         have hne : ¬ (truths x.shop).countP (oldP x n) = 0 := fun z => by rw [hz, z, e4] at e1; simp at e1
         rw [hf, if_neg (fun z => hne z.1), if_pos e4])
  · have hf : olderR x n = (0, (truthsE x (indexErr n x.shop.moulds.length)).2) := by unfold olderR; rw [if_pos h]
    refine w37 x n (WP.step ?_)
    simp only [T37, Go, Ends', v37, Tr.sure, SS]
    repeat' with_reducible first | intro _ | apply And.intro
    all_goals first | exact (c66 _ _) | exact (c63m x n) | exact (VLe.undef _) | exact (entP_le (by with_reducible assumption)) | (simp [hf, h, Go, Ends', v37, -List.getD_eq_getElem?_getD, *]; done) | (simp_all [hf, h, Go, Ends', v37, -List.getD_eq_getElem?_getD]; done)
end
noncomputable section
def demoMould0 : Mould := ⟨ByteArray.mk #[97, 115, 115, 97, 115, 115, 105, 110], 3, [⟨1, 2⟩, ⟨2, 4⟩, ⟨5, 6⟩]⟩
def demoMould1 : Mould := ⟨ByteArray.mk #[113, 117, 101, 101, 110], 2, [⟨1, 1⟩, ⟨2, 2⟩, ⟨0, 1⟩]⟩
def demoMould2 : Mould := ⟨ByteArray.mk #[113, 117, 101, 101, 110], 2, [⟨1, 1⟩, ⟨2, 2⟩, ⟨0, 0⟩]⟩
def demoHeads : List Head := [⟨ByteArray.mk #[98, 114, 117, 116, 117, 115], [1, 1, 0]⟩, ⟨ByteArray.mk #[99, 97, 115, 115, 105, 117, 115], [2, 1, 1]⟩, ⟨ByteArray.mk #[114, 101, 103, 105, 110, 97], [2, 2, 0]⟩]
def demoShop : Shop := ⟨3, [demoMould0, demoMould1], demoHeads⟩
def plainShop : Shop := ⟨3, [demoMould0, demoMould2], demoHeads⟩
def demoClaims : List Claim := [⟨0, 3, 0, 2, 0, 0, 0, 20⟩, ⟨1, 2, 0, 1, 0, 0, 0, 30⟩, ⟨1, 0, 2, 0, 0, 0, 2, 50⟩, ⟨0, 4, 0, 0, 0, 2, 6, 10⟩, ⟨1, 5, 0, 0, 0, 2, 5, 10⟩]
def demoCase : Case := ⟨demoShop, [0, 0, 1], demoClaims⟩
def plainCase : Case := ⟨plainShop, [0, 0, 1], demoClaims⟩
inductive P147
  | e
inductive R147
  | r0 (r0_0 : Int) (r0_1 : Int)
noncomputable def T147 (lo : Int) (hi : Int) : P147 → Tr P147 R147
  | .e => (.out (.r0 lo hi))
noncomputable def g147 (lo : Int) (hi : Int) : P147 → List Item × St
  | .e => bd Tryz.f147 [.int .i64 lo, .int .i64 hi] 6
noncomputable def n147 : R147 → Exit × St
  | .r0 r0_0 r0_1 => (.ret, ⟨mk 8 [(4, .ref 0 0 0)], [.cells [.int .i64 r0_0, .int .i64 r0_1]], []⟩)
noncomputable def v147 : R147 → V
  | .r0 r0_0 r0_1 => .agg [.int .i64 r0_0, .int .i64 r0_1]
theorem s147 (lo : Int) (hi : Int) : Sm 0 (g147 lo hi) (T147 lo hi) (n147)
  | .e => ⟨400, by kernel_rfl⟩
theorem q147 : ∀ r, bodyQ Tryz.prog Tryz.f147 (· = v147 r) (n147 r).1 (n147 r).2
  | .r0 r0_0 r0_1 => bq (.agg [.int .i64 r0_0, .int .i64 r0_1]) (by kernel_rfl)
theorem w147 (lo : Int) (hi : Int) {post : V → Prop} (h : WQ (T147 lo hi) v147 post .e) : PC 147 [.int .i64 lo, .int .i64 hi] post :=
  PCalls.wq Tryz.func147 (s147 lo hi) q147 h
inductive P100_f
  | e
inductive R100_f
  | r0 (r0_0 : Int) (r0_1 : List Mould) (r0_2 : List Head)
noncomputable def T100_f : P100_f → Tr P100_f R100_f
  | .e => let c2 := ([(⟨(ByteArray.mk #[98, 114, 117, 116, 117, 115]), ([1, 1, 0] : List Int)⟩ : Head), (⟨(ByteArray.mk #[99, 97, 115, 115, 105, 117, 115]), ([2, 1, 1] : List Int)⟩ : Head), (⟨(ByteArray.mk #[114, 101, 103, 105, 110, 97]), ([2, 2, 0] : List Int)⟩ : Head)] : List Head); let c3 := (decide (3 ≤ 3)) && true; let c4 := ([(⟨1, 2⟩ : Span), (⟨2, 4⟩ : Span), (⟨5, 6⟩ : Span)] : List Span); let c5 := ([(⟨1, 1⟩ : Span), (⟨2, 2⟩ : Span), (⟨0, 1⟩ : Span)] : List Span); let c1 := ([(⟨(ByteArray.mk #[97, 115, 115, 97, 115, 115, 105, 110]), 3, c4⟩ : Mould), (⟨(ByteArray.mk #[113, 117, 101, 101, 110]), 2, c5⟩ : Mould)] : List Mould); let c6 : List V := [.int .i64 5, .int .i64 6]; let c7 : List V := [.int .i64 2, .int .i64 4]; let c8 : List V := [.int .i64 2, .int .i64 2]; let c9 : List V := [.int .i64 1, .int .i64 2]; let c10 : List V := [.int .i64 1, .int .i64 1]; let c11 : List V := [.int .i64 0, .int .i64 1]; (.call 147 c9 (.agg c9) true true (.call 147 c7 (.agg c7) true true (.call 147 c6 (.agg c6) true true (.wait 0 (.frz 1 c3 (.wait 0 (.vle 7 (.list 2 3 (litC 2 3 [.int .i64 1, .int .i64 2, .int .i64 2, .int .i64 4, .int .i64 5, .int .i64 6])) (tSpan.lst c4) (.call 147 c10 (.agg c10) true true (.call 147 c8 (.agg c8) true true (.call 147 c11 (.agg c11) true true (.wait 0 (.frz 2 c3 (.wait 0 (.vle 12 (.list 2 3 (litC 2 3 [.int .i64 1, .int .i64 1, .int .i64 2, .int .i64 2, .int .i64 0, .int .i64 1])) (tSpan.lst c5) (.wait 0 (.frz 4 c3 (.wait 0 (.vle 15 (.list 1 3 (litC 1 3 [.int .i64 1, .int .i64 1, .int .i64 0])) (tint.lst ([1, 1, 0] : List Int)) (.wait 0 (.frz 5 c3 (.wait 0 (.vle 17 (.list 1 3 (litC 1 3 [.int .i64 2, .int .i64 1, .int .i64 1])) (tint.lst ([2, 1, 1] : List Int)) (.wait 0 (.frz 6 c3 (.wait 0 (.vle 19 (.list 1 3 (litC 1 3 [.int .i64 2, .int .i64 2, .int .i64 0])) (tint.lst ([2, 2, 0] : List Int)) (.wait 0 (.frz 3 ((decide (2 ≤ 2)) && true) (.wait 0 (.vle 14 (.list 3 2 (litC 3 2 [.str (ByteArray.mk #[97, 115, 115, 97, 115, 115, 105, 110]), .int .i64 3, tSpan.lst c4, .str (ByteArray.mk #[113, 117, 101, 101, 110]), .int .i64 2, tSpan.lst c5])) (tMould.lst c1) (.wait 0 (.frz 7 c3 (.wait 0 (.vle 21 (.list 2 3 (litC 2 3 [.str (ByteArray.mk #[98, 114, 117, 116, 117, 115]), tint.lst ([1, 1, 0] : List Int), .str (ByteArray.mk #[99, 97, 115, 115, 105, 117, 115]), tint.lst ([2, 1, 1] : List Int), .str (ByteArray.mk #[114, 101, 103, 105, 110, 97]), tint.lst ([2, 2, 0] : List Int)])) (tHead.lst c2) (.lit false (.out (.r0 3 c1 c2)))))))))))))))))))))))))))))))))))))
noncomputable def g100_f : P100_f → List Item × St
  | .e => bd Tryz.f100 [.bool false] 31
noncomputable def n100_f : R100_f → Exit × St
  | .r0 r0_0 r0_1 r0_2 => (.ret, ⟨mk 32 [(2, .ref 0 0 0)], [.cells [.int .i64 r0_0, tMould.lst r0_1, tHead.lst r0_2]], []⟩)
noncomputable def v100_f : R100_f → V
  | .r0 r0_0 r0_1 r0_2 => .agg [.int .i64 r0_0, tMould.lst r0_1, tHead.lst r0_2]
theorem s100_f : Sm 0 (g100_f) (T100_f) (n100_f)
  | .e => ⟨400, by kernel_rfl⟩
theorem q100_f : ∀ r, bodyQ Tryz.prog Tryz.f100 (· = v100_f r) (n100_f r).1 (n100_f r).2
  | .r0 r0_0 r0_1 r0_2 => bq (.agg [.int .i64 r0_0, tMould.lst r0_1, tHead.lst r0_2]) (by kernel_rfl)
theorem w100_f {post : V → Prop} (h : WQ (T100_f) v100_f post .e) : PC 100 [.bool false] post :=
  PCalls.wq Tryz.func100 (s100_f) q100_f h
theorem c147 (lo hi : Int) : PC 147 [.int .i64 lo, .int .i64 hi] (· = .agg [.int .i64 lo, .int .i64 hi]) := by
  refine w147 lo hi (WP.step ?_)
  simp only [T147, Go, Ends', v147, Tr.sure, SS]
  repeat' with_reducible first | intro _ | apply And.intro
  all_goals first
    | rfl
theorem c100 : PC 100 [.bool false] (· = .agg [.int .i64 3, tMould.lst demoShop.moulds, tHead.lst demoShop.heads]) := by
  refine w100_f  (WP.step ?_)
  simp only [T100_f, Go, Ends', v100_f, Tr.sure, SS]
  repeat' with_reducible first | intro _ | apply And.intro
  all_goals first | exact (c147 _ _) | exact (VLe.lit tSpan _ (by rfl) (by rfl) (fun _ => rfl)) | exact (VLe.lit tint _ (by rfl) (by rfl) (fun _ => rfl)) | exact (VLe.lit tMould _ (by rfl) (by rfl) (fun _ => rfl)) | exact (VLe.lit tHead _ (by rfl) (by rfl) (fun _ => rfl)) | (simp [Go, Ends', v100_f, -List.getD_eq_getElem?_getD, *]; done) | skip
  all_goals first
    | rfl
inductive P41_f
  | e
inductive R41_f
  | r0 (r0_0 : Int) (r0_1 : List Mould) (r0_2 : List Head) (r0_3 : List Int) (r0_4 : List Claim)
noncomputable def T41_f : P41_f → Tr P41_f R41_f
  | .e => let c1 := ([(⟨0, 3, 0, 2, 0, 0, 0, 20⟩ : Claim), (⟨1, 2, 0, 1, 0, 0, 0, 30⟩ : Claim), (⟨1, 0, 2, 0, 0, 0, 2, 50⟩ : Claim), (⟨0, 4, 0, 0, 0, 2, 6, 10⟩ : Claim), (⟨1, 5, 0, 0, 0, 2, 5, 10⟩ : Claim)] : List Claim); (.call 100 [.bool false] (.agg [.int .i64 3, tMould.lst (demoShop.moulds), tHead.lst (demoShop.heads)]) true true (.lit false (.wait 3 (.frz 2 ((decide (3 ≤ 3)) && true) (.wait 0 (.vle 30 (.list 1 3 (litC 1 3 [.int .i64 0, .int .i64 0, .int .i64 1])) (tint.lst ([0, 0, 1] : List Int)) (.wait 0 (.frz 3 ((decide (5 ≤ 5)) && true) (.wait 0 (.vle 36 (.list 8 5 (litC 8 5 [.int .i64 0, .int .i64 3, .int .i64 0, .int .i64 2, .int .i64 0, .int .i64 0, .int .i64 0, .int .i64 20, .int .i64 1, .int .i64 2, .int .i64 0, .int .i64 1, .int .i64 0, .int .i64 0, .int .i64 0, .int .i64 30, .int .i64 1, .int .i64 0, .int .i64 2, .int .i64 0, .int .i64 0, .int .i64 0, .int .i64 2, .int .i64 50, .int .i64 0, .int .i64 4, .int .i64 0, .int .i64 0, .int .i64 0, .int .i64 2, .int .i64 6, .int .i64 10, .int .i64 1, .int .i64 5, .int .i64 0, .int .i64 0, .int .i64 0, .int .i64 2, .int .i64 5, .int .i64 10])) (tClaim.lst c1) (.out (.r0 3 (demoShop.moulds) (demoShop.heads) ([0, 0, 1] : List Int) c1))))))))))))
noncomputable def g41_f : P41_f → List Item × St
  | .e => bd Tryz.f41 [.bool false] 37
noncomputable def n41_f : R41_f → Exit × St
  | .r0 r0_0 r0_1 r0_2 r0_3 r0_4 => (.ret, ⟨mk 38 [(2, .ref 0 0 0)], [.cells [.int .i64 r0_0, tMould.lst r0_1, tHead.lst r0_2, tint.lst r0_3, tClaim.lst r0_4]], []⟩)
noncomputable def v41_f : R41_f → V
  | .r0 r0_0 r0_1 r0_2 r0_3 r0_4 => .agg [.int .i64 r0_0, tMould.lst r0_1, tHead.lst r0_2, tint.lst r0_3, tClaim.lst r0_4]
theorem s41_f : Sm 0 (g41_f) (T41_f) (n41_f)
  | .e => ⟨400, by kernel_rfl⟩
theorem q41_f : ∀ r, bodyQ Tryz.prog Tryz.f41 (· = v41_f r) (n41_f r).1 (n41_f r).2
  | .r0 r0_0 r0_1 r0_2 r0_3 r0_4 => bq (.agg [.int .i64 r0_0, tMould.lst r0_1, tHead.lst r0_2, tint.lst r0_3, tClaim.lst r0_4]) (by kernel_rfl)
theorem w41_f {post : V → Prop} (h : WQ (T41_f) v41_f post .e) : PC 41 [.bool false] post :=
  PCalls.wq Tryz.func41 (s41_f) q41_f h
inductive P41_t
  | e
inductive R41_t
  | r0 (r0_0 : Int) (r0_1 : List Mould) (r0_2 : List Head) (r0_3 : List Int) (r0_4 : List Claim)
noncomputable def T41_t : P41_t → Tr P41_t R41_t
  | .e => let c4 := demoShop.moulds; let c1 := c4.getD ((1 : Int)).toNat tMould.zero; let c3 := (c1.lasts).set (((2 : Int)).toNat) (⟨0, 0⟩ : Span); let c2 := c4.set (((1 : Int)).toNat) (⟨c1.name, c1.casts, c3⟩ : Mould); let c5 := ([(⟨0, 3, 0, 2, 0, 0, 0, 20⟩ : Claim), (⟨1, 2, 0, 1, 0, 0, 0, 30⟩ : Claim), (⟨1, 0, 2, 0, 0, 0, 2, 50⟩ : Claim), (⟨0, 4, 0, 0, 0, 2, 6, 10⟩ : Claim), (⟨1, 5, 0, 0, 0, 2, 5, 10⟩ : Claim)] : List Claim); let c6 : List V := [.str (c1.name), .int .i64 (c1.casts), tSpan.lst c3]; let c7 := (0 + c4.length) ≤ (0 + c4.length); let c8 := (0 + c1.lasts.length) ≤ (0 + c1.lasts.length); let c9 := ([.int .i64 0, .int .i64 0] : List V); let c10 := (decide (0 ≤ (1 : Int)) && decide ((1 : Int) < ((0 + c4.length) : Int))) && decide c7; let c11 : V := .list 3 (0 + c4.length) (rowsOf tMould c2); let c12 := rowsOf tSpan (c1.lasts); let c13 : V := .list 2 (0 + c1.lasts.length) (rowsOf tSpan c3); let c14 := rowsOf tMould c4; let c15 := demoShop.heads; let c16 := ((1 : Int)).toNat < (0 + c4.length); let c17 := (c6 : List V); let c18 := tMould.lst c2; (.call 100 [.bool false] (.agg [.int .i64 3, tMould.lst c4, tHead.lst c15]) true true (.lit true (.need ((decide (0 = 0) && decide (0 + c4.length ≤ 4294967296)) && true) (.scal (fun r => (List.range 3).all fun j => (c14 r j).scalar) (.telb 2 3 (0 + c4.length) (appC 0 (litC 3 0 []) c14) c14 (.need c10 (.need (decide c16 && decide (0 + 3 ≤ 3)) (.need ((decide (0 = 0) && decide (0 + c1.lasts.length ≤ 4294967296)) && true) (.scal (fun r => (List.range 2).all fun j => (c12 r j).scalar) (.telb 4 2 (0 + c1.lasts.length) (appC 0 (litC 2 0 []) c12) c12 (.need ((decide (0 ≤ (2 : Int)) && decide ((2 : Int) < ((0 + c1.lasts.length) : Int))) && decide c8) (.need ((decide (((2 : Int)).toNat < (0 + c1.lasts.length)) && decide (0 + c9.length ≤ 2)) && underL 0 c9) (.telb 4 2 (0 + c1.lasts.length) (fun r' j => if r' = ((2 : Int)).toNat ∧ 0 ≤ j ∧ j < 0 + c9.length then c9.getD (j - 0) uU else c12 r' j) (rowsOf tSpan c3) (.frz 4 (((decide c8) && ((decide c8) && true)) && (((decide c8) && true) && true)) (.vle 19 c13 (tSpan.lst c3) (.vle 22 c13 (tSpan.lst c3) (.telc 3 [.str (c1.name), .int .i64 (c1.casts), .list 2 (0 + c1.lasts.length) (rowsOf tSpan c3)] c6 (.need c10 (.need ((decide c16 && decide (0 + c17.length ≤ 3)) && underL 0 c17) (.telb 2 3 (0 + c4.length) (fun r' j => if r' = ((1 : Int)).toNat ∧ 0 ≤ j ∧ j < 0 + c17.length then c17.getD (j - 0) uU else c14 r' j) (rowsOf tMould c2) (.wait 1 (.frz 2 (((decide c7) && ((decide c7) && ((decide c7) && true))) && (((decide c7) && true) && true)) (.vle 10 c11 c18 (.vle 13 c11 c18 (.vle 26 c11 c18 (.telc 1 [.int .i64 3, .list 3 (0 + c4.length) (rowsOf tMould c2), tHead.lst c15] [.int .i64 3, tMould.lst c2, tHead.lst c15] (.wait 1 (.frz 5 ((decide (3 ≤ 3)) && true) (.wait 0 (.vle 30 (.list 1 3 (litC 1 3 [.int .i64 0, .int .i64 0, .int .i64 1])) (tint.lst ([0, 0, 1] : List Int)) (.wait 0 (.frz 6 ((decide (5 ≤ 5)) && true) (.wait 0 (.vle 36 (.list 8 5 (litC 8 5 [.int .i64 0, .int .i64 3, .int .i64 0, .int .i64 2, .int .i64 0, .int .i64 0, .int .i64 0, .int .i64 20, .int .i64 1, .int .i64 2, .int .i64 0, .int .i64 1, .int .i64 0, .int .i64 0, .int .i64 0, .int .i64 30, .int .i64 1, .int .i64 0, .int .i64 2, .int .i64 0, .int .i64 0, .int .i64 0, .int .i64 2, .int .i64 50, .int .i64 0, .int .i64 4, .int .i64 0, .int .i64 0, .int .i64 0, .int .i64 2, .int .i64 6, .int .i64 10, .int .i64 1, .int .i64 5, .int .i64 0, .int .i64 0, .int .i64 0, .int .i64 2, .int .i64 5, .int .i64 10])) (tClaim.lst c5) (.out (.r0 3 c2 c15 ([0, 0, 1] : List Int) c5))))))))))))))))))))))))))))))))))))
noncomputable def g41_t : P41_t → List Item × St
  | .e => bd Tryz.f41 [.bool true] 37
noncomputable def n41_t : R41_t → Exit × St
  | .r0 r0_0 r0_1 r0_2 r0_3 r0_4 => (.ret, ⟨mk 38 [(2, .ref 0 0 0)], [.cells [.int .i64 r0_0, tMould.lst r0_1, tHead.lst r0_2, tint.lst r0_3, tClaim.lst r0_4]], []⟩)
noncomputable def v41_t : R41_t → V
  | .r0 r0_0 r0_1 r0_2 r0_3 r0_4 => .agg [.int .i64 r0_0, tMould.lst r0_1, tHead.lst r0_2, tint.lst r0_3, tClaim.lst r0_4]
theorem s41_t : Sm 0 (g41_t) (T41_t) (n41_t)
  | .e => ⟨400, by kernel_rfl⟩
theorem q41_t : ∀ r, bodyQ Tryz.prog Tryz.f41 (· = v41_t r) (n41_t r).1 (n41_t r).2
  | .r0 r0_0 r0_1 r0_2 r0_3 r0_4 => bq (.agg [.int .i64 r0_0, tMould.lst r0_1, tHead.lst r0_2, tint.lst r0_3, tClaim.lst r0_4]) (by kernel_rfl)
theorem w41_t {post : V → Prop} (h : WQ (T41_t) v41_t post .e) : PC 41 [.bool true] post :=
  PCalls.wq Tryz.func41 (s41_t) q41_t h
theorem c41f : PC 41 [.bool false] (· = .agg (tCase.cells demoCase)) := by
  refine w41_f  (WP.step ?_)
  simp only [T41_f, Go, Ends', v41_f, Tr.sure, SS]
  repeat' with_reducible first | intro _ | apply And.intro
  all_goals first | exact c100 | exact (VLe.lit tint _ (by rfl) (by rfl) (fun _ => rfl)) | exact (VLe.lit tClaim _ (by rfl) (by rfl) (fun _ => rfl)) | (simp [Go, Ends', v41_f, -List.getD_eq_getElem?_getD, *]; done) | skip
  all_goals first
    | rfl
    | decide
    | exact VLe.same tSpan _ (by rfl)
    | exact VLe.same tMould _ (by rfl)
    | exact tel_set tSpan (demoShop.moulds.getD (Int.toNat 1) tMould.zero).lasts (Int.toNat 2) ⟨0, 0⟩ [V.int .i64 0, V.int .i64 0] rfl (w := 2) rfl rfl _ _ (by omega) (by assumption)
    | exact tel_set tMould demoShop.moulds (Int.toNat 1) ⟨(demoShop.moulds.getD (Int.toNat 1) tMould.zero).name, (demoShop.moulds.getD (Int.toNat 1) tMould.zero).casts, (demoShop.moulds.getD (Int.toNat 1) tMould.zero).lasts.set (Int.toNat 2) ⟨0, 0⟩⟩ _ rfl (w := 3) rfl rfl _ _ (by omega) (by assumption)
    | exact VLe.cons (VLe.refl _) (VLe.cons (VLe.refl _) (VLe.cons (VLe.same tSpan _ (by rfl)) fun _ => VLe.refl _)) _
    | exact VLe.cons (VLe.refl _) (VLe.cons (VLe.same tMould _ (by rfl)) (VLe.cons (VLe.refl _) fun _ => VLe.refl _)) _
theorem c41t : PC 41 [.bool true] (· = .agg (tCase.cells plainCase)) := by
  refine w41_t  (WP.step ?_)
  simp only [T41_t, Go, Ends', v41_t, Tr.sure, SS]
  repeat' with_reducible first | intro _ | apply And.intro
  all_goals first | exact c100 | exact (VLe.lit tint _ (by rfl) (by rfl) (fun _ => rfl)) | exact (VLe.lit tClaim _ (by rfl) (by rfl) (fun _ => rfl)) | exact (VLe.app0 _ _) | (simp [Go, Ends', v41_t, -List.getD_eq_getElem?_getD, *]; done) | (simp_all [Go, Ends', v41_t, -List.getD_eq_getElem?_getD]; done) | skip
  all_goals first
    | rfl
    | decide
    | exact VLe.same tSpan _ (by rfl)
    | exact VLe.same tMould _ (by rfl)
    | exact tel_set tSpan (demoShop.moulds.getD (Int.toNat 1) tMould.zero).lasts (Int.toNat 2) ⟨0, 0⟩ [V.int .i64 0, V.int .i64 0] rfl (w := 2) rfl rfl _ _ (by omega) (by assumption)
    | exact tel_set tMould demoShop.moulds (Int.toNat 1) ⟨(demoShop.moulds.getD (Int.toNat 1) tMould.zero).name, (demoShop.moulds.getD (Int.toNat 1) tMould.zero).casts, (demoShop.moulds.getD (Int.toNat 1) tMould.zero).lasts.set (Int.toNat 2) ⟨0, 0⟩⟩ _ rfl (w := 3) rfl rfl _ _ (by omega) (by assumption)
    | exact VLe.cons (VLe.refl _) (VLe.cons (VLe.refl _) (VLe.cons (VLe.same tSpan _ (by rfl)) fun _ => VLe.refl _)) _
    | exact VLe.cons (VLe.refl _) (VLe.cons (VLe.same tMould _ (by rfl)) (VLe.cons (VLe.refl _) fun _ => VLe.refl _)) _
end
theorem demo_sets : caseSets demoCase = [9, 10, 17, 18] := by decide +kernel
theorem demo_check : (caseCheck demoCase).2.2 = 0 := by decide +kernel
theorem demo_truths (other : Int) : truthsE demoCase other = if other ≠ 0 then ([], other) else ([9, 10, 17, 18], 0) := by
  unfold truthsE; rw [if_neg (by rw [demo_check]; simp), demo_sets]; rfl
theorem demo_hold0 : holdsR demoCase 0 = (0, 0) := by unfold holdsR; rw [demo_truths, demo_sets]; decide +kernel
theorem demo_hold2 : holdsR demoCase 2 = (2, 0) := by unfold holdsR; rw [demo_truths, demo_sets]; decide +kernel
theorem demo_tog : togetherR demoCase [0, 3] = (true, 0) := by unfold togetherR; rw [demo_truths, demo_sets]; decide +kernel
theorem demo_tog1 : togetherR demoCase [0, 1] = (false, 0) := by unfold togetherR; rw [demo_truths, demo_sets]; decide +kernel
theorem demo_clash : clashR demoCase = ([[0, 1], [3, 4]], 0) := by unfold clashR; rw [demo_truths, demo_sets]; decide +kernel
theorem demo_fall : fallR demoCase = ([0, 2, 3], 0) := by unfold fallR; rw [demo_truths, demo_sets]; decide +kernel
theorem demo_most : mostR demoCase = ([1, 3], 40, 0) := by unfold mostR; rw [demo_truths, demo_sets]; decide +kernel
theorem demo_follow : followR demoCase [0, 3] = ([0, 3], 0) := by unfold followR; rw [demo_truths, demo_sets]; decide +kernel
theorem demo_follow2 : followR demoCase [2] = ([], 9) := by unfold followR; rw [demo_truths, demo_sets]; decide +kernel
theorem demo_grant : grantR demoCase = ([], [2], 0) := by unfold grantR; rw [demo_truths, demo_sets]; decide +kernel
theorem demo_older : olderR demoCase 0 = (0, 0) := by unfold olderR; rw [demo_truths]; decide +kernel
theorem plain_look : lookR plainCase 0 = (⟨0, 2⟩, 0) := by decide +kernel
noncomputable section
inductive P23
  | e
inductive R23
  | r0 (r0 : Bool)
noncomputable def T23 : P23 → Tr P23 R23
  | .e => let c1 := (decide (2 ≤ 2)) && true; let c2 := cC demoCase; let c3 := ([0, 3] : List Int); let c4 := litC 1 2 [iI 0, iI 3]; let c5 : V := .bool true; let c6 := litC 1 2 [iI 0, iI 1]; let c7 := ([2] : List Int); let c8 := ([[0, 1], [3, 4]] : List (List Int)); let c9 := ([0, 1] : List Int); let c10 := ([9, 10, 17, 18] : List Int); let c11 := ([] : List Int); let c12 := (decide (1 ≤ 1)) && true; (.call 41 [.bool false] (.agg c2) true true (.call 18 [.agg c2] (.tuple [tint.lst c10, iI 0]) true true (.call 21 [.agg c2, iI 0] (.tuple [iI 0, iI 0]) true true (.call 21 [.agg c2, iI 2] (.tuple [iI 2, iI 0]) true true (.call 24 [.agg c2, .list 1 2 c4] (.tuple [.bool true, iI 0]) c1 true (.call 24 [.agg c2, .list 1 2 c6] (.tuple [.bool false, iI 0]) c1 true (.call 26 [.agg c2] (.tuple [(tlist tint).lst c8, iI 0]) true true (.call 31 [.agg c2] (.tuple [tint.lst ([0, 2, 3] : List Int), iI 0]) true true (.call 33 [.agg c2] (.tuple [tint.lst ([1, 3] : List Int), iI 40, iI 0]) true true (.wait 1 (.frz 1 c1 (.vle 48 (.list 1 2 c4) (tint.lst c3) (.wait 1 (.frz 3 c1 (.wait 0 (.vle 76 (.list 1 2 c4) (tint.lst c3) (.call 29 [.agg c2, tint.lst c3] (.tuple [tint.lst c3, iI 0]) true true (.wait 2 (.frz 4 c12 (.wait 0 (.vle 82 (.list 1 1 (litC 1 1 [iI 2])) (tint.lst c7) (.call 29 [.agg c2, tint.lst c7] (.tuple [tint.lst c11, iI 9]) true true (.call 35 [.agg c2] (.tuple [tint.lst c11, tint.lst c7, iI 0]) true true (.call 37 [.agg c2, iI 0] (.tuple [iI 0, iI 0]) true true (.call 41 [.bool true] (.agg (cC plainCase)) true true (.call 39 [.agg (cC plainCase), iI 0] (.tuple [.agg [iI 0, iI 2], iI 0]) true true (.wait 1 (.frz 2 c1 (.vle 54 (.list 1 2 c6) (tint.lst c9) (.lit true (.lit true (.lit true (.lit true (.lit true (.lit true (.lit true (.lit true (.lit true (.lit true (.lit true (.lit true (.lit true (.call 20 [tint.lst c10, .list 1 4 (litC 1 4 [iI 9, iI 10, iI 17, iI 18])] c5 ((decide (4 ≤ 4)) && true) true (.lit true (.lit true (.lit true (.lit true (.lit true (.wait 0 (.frz 7 c1 (.wait 0 (.vle 174 (.list 1 2 c6) (tint.lst c9) (.wait 0 (.frz 8 c1 (.wait 0 (.vle 175 (.list 1 2 (litC 1 2 [iI 3, iI 4])) (tint.lst ([3, 4] : List Int)) (.call 28 [(tlist tint).lst c8, .list 1 2 (litC 1 2 [tint.lst c9, tint.lst ([3, 4] : List Int)])] c5 c1 true (.lit true (.call 20 [tint.lst ([0, 2, 3] : List Int), .list 1 3 (litC 1 3 [iI 0, iI 2, iI 3])] c5 ((decide (3 ≤ 3)) && true) true (.lit true (.call 20 [tint.lst ([1, 3] : List Int), .list 1 2 (litC 1 2 [iI 1, iI 3])] c5 c1 true (.lit true (.lit true (.call 20 [tint.lst c3, .list 1 2 c4] c5 c1 true (.lit true (.br (((c11.length) : Int) == (0 : Int)) (.call 20 [tint.lst c7, .list 1 1 (litC 1 1 [iI 2])] c5 c12 true (.lit true (.lit true (.out (.r0 (((0 : Int) == (0 : Int)) && (((2 : Int) == (2 : Int)) && true))))))) (.lit false (.lit false (.out (.r0 false))))))))))))))))))))))))))))))))))))))))))))))))))))))))))))))))))))))
noncomputable def g23 : P23 → List Item × St
  | .e => bd Tryz.f23 [] 217
noncomputable def n23 : R23 → Exit × St
  | .r0 r0 => (.ret, ⟨mk 217 [(0, .bool r0)], [], []⟩)
noncomputable def v23 : R23 → V
  | .r0 r0 => .bool r0
theorem s23 : Sm 0 (g23) (T23) (n23)
  | .e => ⟨400, by kernel_rfl⟩
theorem q23 : ∀ r, bodyQ Tryz.prog Tryz.f23 (· = v23 r) (n23 r).1 (n23 r).2
  | .r0 r0 => bq (.bool r0) (by kernel_rfl)
theorem w23 {post : V → Prop} (h : WQ (T23) v23 post .e) : PC 23 [] post :=
  PCalls.wq Tryz.func23 (s23) q23 h
theorem a18 : PC 18 [.agg (tCase.cells demoCase)] (· = .tuple [tint.lst [9, 10, 17, 18], iI 0]) := by
  have := c18 demoCase; rw [demo_sets, demo_truths] at this; exact this
theorem a21_0 : PC 21 [.agg (tCase.cells demoCase), iI 0] (· = .tuple [iI 0, iI 0]) := by
  have := c21 demoCase 0; rw [demo_hold0] at this; exact this
theorem a21_2 : PC 21 [.agg (tCase.cells demoCase), iI 2] (· = .tuple [iI 2, iI 0]) := by
  have := c21 demoCase 2; rw [demo_hold2] at this; exact this
theorem a24 : PC 24 [.agg (tCase.cells demoCase), .list 1 2 (litC 1 2 [iI 0, iI 3])] (· = .tuple [.bool true, iI 0]) := by
  have := PCalls.arg (pre := [.agg (tCase.cells demoCase)]) (c24 demoCase [0, 3]) (VLe.lit2 0 3); rw [demo_tog] at this; exact this
theorem a24_1 : PC 24 [.agg (tCase.cells demoCase), .list 1 2 (litC 1 2 [iI 0, iI 1])] (· = .tuple [.bool false, iI 0]) := by
  have := PCalls.arg (pre := [.agg (tCase.cells demoCase)]) (c24 demoCase [0, 1]) (VLe.lit2 0 1); rw [demo_tog1] at this; exact this
theorem a26 : PC 26 [.agg (tCase.cells demoCase)] (· = .tuple [(tlist tint).lst [[0, 1], [3, 4]], iI 0]) := by
  have := c26 demoCase; rw [demo_clash] at this; exact this
theorem a31 : PC 31 [.agg (tCase.cells demoCase)] (· = .tuple [tint.lst [0, 2, 3], iI 0]) := by
  have := c31 demoCase; rw [demo_fall] at this; exact this
theorem a33 : PC 33 [.agg (tCase.cells demoCase)] (· = .tuple [tint.lst [1, 3], iI 40, iI 0]) := by
  have := c33 demoCase; rw [demo_most] at this; exact this
theorem a29 : PC 29 [.agg (tCase.cells demoCase), tint.lst [0, 3]] (· = .tuple [tint.lst [0, 3], iI 0]) := by
  have := c29 demoCase [0, 3]; rw [demo_follow] at this; exact this
theorem a29_2 : PC 29 [.agg (tCase.cells demoCase), tint.lst [2]] (· = .tuple [tint.lst [], iI 9]) := by
  have := c29 demoCase [2]; rw [demo_follow2] at this; exact this
theorem a35 : PC 35 [.agg (tCase.cells demoCase)] (· = .tuple [tint.lst [], tint.lst [2], iI 0]) := by
  have := c35 demoCase; rw [demo_grant] at this; exact this
theorem a37 : PC 37 [.agg (tCase.cells demoCase), iI 0] (· = .tuple [iI 0, iI 0]) := by
  have := c37 demoCase 0; rw [demo_older] at this; exact this
theorem a39 : PC 39 [.agg (tCase.cells plainCase), iI 0] (· = .tuple [.agg [iI 0, iI 2], iI 0]) := by
  have := c39 plainCase 0; rw [plain_look] at this; exact this
theorem a20_4 : PC 20 [tint.lst [9, 10, 17, 18], .list 1 4 (litC 1 4 [iI 9, iI 10, iI 17, iI 18])] (· = .bool true) := by
  have := PCalls.arg (pre := [tint.lst [9, 10, 17, 18]]) (c20 [9, 10, 17, 18] [9, 10, 17, 18]) (VLe.lit tint [9, 10, 17, 18] rfl rfl (fun _ => rfl))
  have e : sameI [9, 10, 17, 18] [9, 10, 17, 18] = true := by decide
  rw [e] at this; exact this
theorem a20_3 : PC 20 [tint.lst [0, 2, 3], .list 1 3 (litC 1 3 [iI 0, iI 2, iI 3])] (· = .bool true) := by
  have := PCalls.arg (pre := [tint.lst [0, 2, 3]]) (c20 [0, 2, 3] [0, 2, 3]) (VLe.lit tint [0, 2, 3] rfl rfl (fun _ => rfl))
  have e : sameI [0, 2, 3] [0, 2, 3] = true := by decide
  rw [e] at this; exact this
theorem a20_2 (a b : Int) : PC 20 [tint.lst [a, b], .list 1 2 (litC 1 2 [iI a, iI b])] (· = .bool true) := by
  have := PCalls.arg (pre := [tint.lst [a, b]]) (c20 [a, b] [a, b]) (VLe.lit2 a b)
  have e : sameI [a, b] [a, b] = true := by simp [sameI]
  rw [e] at this; exact this
theorem a20_1 (a : Int) : PC 20 [tint.lst [a], .list 1 1 (litC 1 1 [iI a])] (· = .bool true) := by
  have := PCalls.arg (pre := [tint.lst [a]]) (c20 [a] [a]) (VLe.lit1 a)
  have e : sameI [a] [a] = true := by simp [sameI]
  rw [e] at this; exact this
theorem a28 : PC 28 [(tlist tint).lst [[0, 1], [3, 4]], .list 1 2 (litC 1 2 [tint.lst [0, 1], tint.lst [3, 4]])] (· = .bool true) := by
  have := PCalls.arg (pre := [(tlist tint).lst [[0, 1], [3, 4]]]) (c28 [[0, 1], [3, 4]] [[0, 1], [3, 4]]) (VLe.lit (tlist tint) [[0, 1], [3, 4]] rfl rfl (fun _ => rfl))
  have e : sameL [[0, 1], [3, 4]] [[0, 1], [3, 4]] = true := by decide
  rw [e] at this; exact this
theorem c23 : PC 23 [] (· = .bool true) := by
  refine w23  (WP.step ?_)
  simp only [T23, Go, Ends', v23, Tr.sure, SS]
  repeat' with_reducible first | intro _ | apply And.intro
  all_goals first | exact c41f | exact c41t | exact a18 | exact a21_0 | exact a21_2 | exact a24 | exact a24_1 | exact a26 | exact a31 | exact a33 | exact a29 | exact a29_2 | exact a35 | exact a37 | exact a39 | exact a20_4 | exact a20_3 | exact (a20_2 _ _) | exact (a20_1 _) | exact a28 | exact (VLe.lit2 _ _) | exact (VLe.lit1 _) | (simp [Go, Ends', v23, -List.getD_eq_getElem?_getD, *]; done) | (simp_all [Go, Ends', v23, -List.getD_eq_getElem?_getD]; done)
end
end Go.Proofs.YtdamoemndifpmaaGreat
namespace Go.Proofs.YtdamoemndifpmaaGreat
open Ab Go.ChangeShapes Go.WideShapes Go.RowKit
def GW (W : World) : Kept := ⟨fun b => W.heap[b]?, ⟨W.os, W.output⟩⟩
theorem bulk_one {H : Type} (d : DataW H) : 1 ≤ Rows.uptoBulk d := by
  cases d with
  | lit l => cases l <;> simp [Rows.uptoBulk]
  | nil => simp [Rows.uptoBulk]
  | ptr d => simp [Rows.uptoBulk]
  | slice elems spare => simp [Rows.uptoBulk]
  | agg parts => simp [Rows.uptoBulk]
  | iface t d => simp [Rows.uptoBulk]
  | map entries => simp [Rows.uptoBulk]
  | held h => simp [Rows.uptoBulk]
theorem bulk_part {H : Type} {d : DataW H} {l : List (DataW H)} (h : d ∈ l) : Rows.uptoBulk d ≤ Rows.uptoBulkAll l := by
  induction l with
  | nil => cases h
  | cons x r ih =>
    simp only [Rows.uptoBulkAll]
    cases List.mem_cons.1 h with
    | inl e => subst e; omega
    | inr e => have := ih e; omega
theorem bulk_length {H : Type} (l : List (DataW H)) : l.length ≤ Rows.uptoBulkAll l := by
  induction l with
  | nil => simp [Rows.uptoBulkAll]
  | cons x r ih => have := bulk_one x; simp only [Rows.uptoBulkAll, List.length_cons]; omega
def Opens (P : Program) (W : World) (C : List V → Prop) (t : TypeId) : Prop :=
  ∀ (H : Type) (enc : TypeId × Value → H) (n : Nat) (cs : List Value) (x : DataW H × List MemPlace), DataW.trod enc P W 0 (fun _ => true) true n t cs = some x → Rows.uptoBulk x.1 ≤ 1048576 →
    ∃ vs, C vs ∧ vs.length = cs.length ∧ ∀ j, j < vs.length → Rel (GW W) [] (vs.getD j .undef) (cs.getD j Go.undef)
section
variable {P : Program} {W : World} {t e : TypeId}
theorem Opens.mono {C C' : List V → Prop} (h : Opens P W C t) (hC : ∀ vs, C vs → C' vs) : Opens P W C' t := fun H enc n cs x hx hb => by
  obtain ⟨vs, h1, h2, h3⟩ := h H enc n cs x hx hb
  exact ⟨vs, hC vs h1, h2, h3⟩
theorem Opens.int {k : IntKind} (ht : P.underlying t = some (.int k)) : Opens P W (fun vs => ∃ n, vs = [.int k n]) t := fun H enc n cs x h _ => by
  obtain ⟨m, rfl, -, -⟩ := DataW.trod_int ht h
  refine ⟨[.int k m], ⟨m, rfl⟩, rfl, fun j hj => ?_⟩
  obtain rfl : j = 0 := by simpa using hj
  exact .int k m
theorem Opens.str (ht : P.underlying t = some .string) : Opens P W (fun vs => ∃ s, vs = [.str s]) t := fun H enc n cs x h _ => by
  obtain ⟨s, rfl, -, -⟩ := DataW.trod_string ht h
  refine ⟨[.str s], ⟨s, rfl⟩, rfl, fun j hj => ?_⟩
  obtain rfl : j = 0 := by simpa using hj
  exact .str s
theorem Opens.slice {τ : Type} {E : Ty τ} (ht : P.underlying t = some (.slice e)) (he : Opens P W (fun vs => ∃ x, vs = E.cells x) e) (hw : P.cellsOf e = E.w) (h0 : 0 < E.w) (hl : ∀ x, (E.cells x).length = E.w) :
    Opens P W (fun vs => ∃ l, vs = [.list E.w l.length (rowsOf E l)]) t := fun H enc n cs x h hb => by
  rcases DataW.trod_slice ht h with ⟨rfl, -⟩ | ⟨a, len, cap, elems, rest, m, -, rfl, rfl, -, hlc, hcm, hel, hget, -, -⟩
  · refine ⟨[.list E.w 0 (rowsOf E [])], ⟨[], rfl⟩, rfl, fun j hj => ?_⟩
    obtain rfl : j = 0 := by simpa using hj
    exact .list0
  · simp only [Rows.uptoBulk] at hb
    have hlen : len ≤ 1048576 := by
      have := bulk_length (elems.map (·.1))
      rw [List.length_map] at this; omega
    have hstep : ∀ i, i < len → ∃ x : τ, ∃ cs', W.cells? 0 (a.add (i * E.w)) E.w = some cs' ∧ ∀ j, j < E.w → Rel (GW W) [] ((E.cells x).getD j .undef) (cs'.getD j Go.undef) := fun i hi => by
      have h1 := hget i hi
      have hy : elems[i]? = some elems[i] := List.getElem?_eq_getElem (by omega)
      rw [hy, Option.bind_eq_some_iff] at h1
      obtain ⟨cs', h3, h4⟩ := h1
      have hm : (elems[i]).1 ∈ elems.map (·.1) := List.mem_map.2 ⟨_, List.getElem_mem _, rfl⟩
      obtain ⟨vs, ⟨x, rfl⟩, h5, h6⟩ := he H enc m cs' _ h4 (by have := bulk_part hm; omega)
      rw [hw] at h3
      exact ⟨x, cs', h3, fun j hj => h6 j (by rw [hl]; exact hj)⟩
    obtain ⟨f, hf⟩ : ∃ f : Fin len → τ, ∀ i : Fin len, ∃ cs', W.cells? 0 (a.add (i.1 * E.w)) E.w = some cs' ∧ ∀ j, j < E.w → Rel (GW W) [] ((E.cells (f i)).getD j .undef) (cs'.getD j Go.undef) :=
      ⟨fun i => (hstep i.1 i.2).choose, fun i => (hstep i.1 i.2).choose_spec⟩
    refine ⟨[.list E.w (List.ofFn f).length (rowsOf E (List.ofFn f))], ⟨_, rfl⟩, rfl, fun j hj => ?_⟩
    obtain rfl : j = 0 := by simpa using hj
    show Rel _ _ (.list E.w (List.ofFn f).length (rowsOf E (List.ofFn f))) (.slice (some a) len cap)
    rw [List.length_ofFn]
    rcases Nat.eq_zero_or_pos len with rfl | hpos
    · exact .list0
    · obtain ⟨b, off, spot⟩ := a
      have cell : ∀ i j, (hi : i < len) → j < E.w → ∃ u, W.cell? (((Addr.mk b off spot).add (i * E.w)).add j) = some u ∧ Rel (GW W) [] ((E.cells (f ⟨i, hi⟩)).getD j .undef) u := fun i j hi hj => by
        obtain ⟨cs', h1, h2⟩ := hf ⟨i, hi⟩
        obtain ⟨-, h3, h4⟩ := World.cells?_some h1
        have h5 := h4 j hj
        have hjl : j < cs'.length := by rw [h3]; exact hj
        rw [List.getElem?_eq_getElem hjl] at h5
        refine ⟨cs'[j], h5, ?_⟩
        have := h2 j hj
        rwa [List.getD_eq_getElem?_getD (l := cs'), List.getElem?_eq_getElem hjl] at this
      have hspot : spot = none := by
        obtain ⟨u, h1, -⟩ := cell 0 0 hpos h0
        cases spot with
        | none => rfl
        | some s =>
          exfalso
          rw [Nat.zero_mul] at h1
          simp only [Addr.add, if_true] at h1
          unfold World.cell? at h1
          split at h1
          · simp at h1
          · cases h1
      subst hspot
      obtain ⟨c, e', fz, hblk⟩ : ∃ c e' fz, W.heap[b]? = some (.cells c e' fz) := by
        obtain ⟨u, h1, -⟩ := cell 0 0 hpos h0
        rw [addr_add, addr_add] at h1
        unfold World.cell? at h1
        split at h1
        · rename_i c e' fz hh; exact ⟨c, e', fz, hh⟩
        · cases h1
      have look : ∀ k l, W.cell? (((Addr.mk b off none).add k).add l) = c[off + (k + l)]? := fun k l => by rw [addr_add, addr_add, Nat.add_assoc]; simp only [World.cell?, hblk]; simp
      refine .list (G := GW W) (cs := c) (e := e') (fz := fz) hblk ?_ hlc (by unfold maxn; omega) fun i j hi hj => ?_
      · obtain ⟨u, h1, -⟩ := cell (len - 1) (E.w - 1) (by omega) (by omega)
        rw [look] at h1
        have := (Array.getElem?_eq_some_iff.1 h1).1
        have e1 : len * E.w = (len - 1) * E.w + E.w := by rw [← Nat.succ_mul]; congr 1; omega
        omega
      · obtain ⟨u, h1, h2⟩ := cell i j hi hj
        rw [look] at h1
        rw [Array.getD_eq_getD_getElem?, h1]
        show Rel _ _ ((E.cells ((List.ofFn f).getD i E.zero)).getD j .undef) u
        rw [List.getD_eq_getElem?_getD (l := List.ofFn f), List.getElem?_ofFn, dif_pos hi]
        exact h2
def Parts : List (List V → Prop) → List V → Prop
  | [], vs => vs = []
  | C :: Cs, vs => ∃ a b, vs = a ++ b ∧ C a ∧ Parts Cs b
def OpensL (P : Program) (W : World) : List (List V → Prop) → List Field → Prop
  | [], [] => True
  | C :: Cs, f :: fs => Opens P W C f.type ∧ OpensL P W Cs fs
  | _, _ => False
def laid (P : Program) (tot : Nat) : Nat → List Field → Bool
  | o, [] => o == tot
  | o, f :: fs => f.offset == o && decide (o + P.cellsOf f.type ≤ tot) && laid P tot (o + P.cellsOf f.type) fs
theorem parts_ok {H : Type} {enc : TypeId × Value → H} {n : Nat} {cs : List Value} : ∀ (Cs : List (List V → Prop)) (fl : List Field) (o : Nat) (ys : List (DataW H × List MemPlace)), OpensL P W Cs fl → laid P cs.length o fl = true → ys.length = fl.length →
    (∀ (i : Nat) (f : Field), fl[i]? = some f → DataW.trod enc P W 0 (fun _ => true) true n f.type ((cs.drop f.offset).take (P.cellsOf f.type)) = ys[i]?) → Rows.uptoBulkAll (ys.map (·.1)) ≤ 1048576 →
    ∃ vs, Parts Cs vs ∧ vs.length = cs.length - o ∧ ∀ j, j < vs.length → Rel (GW W) [] (vs.getD j .undef) (cs.getD (o + j) Go.undef)
  | [], [], o, ys, _, hlay, _, _, _ => by
    simp only [laid, beq_iff_eq] at hlay
    exact ⟨[], rfl, by simp [hlay], fun j hj => absurd hj (Nat.not_lt_zero _)⟩
  | [], f :: fl, _, _, h, _, _, _, _ => h.elim
  | C :: Cs, [], _, _, h, _, _, _, _ => h.elim
  | C :: Cs, f :: fl, o, [], _, _, hl, _, _ => by simp at hl
  | C :: Cs, f :: fl, o, y :: ys, h, hlay, hl, hget, hb => by
    simp only [laid, Bool.and_eq_true, beq_iff_eq, decide_eq_true_eq] at hlay
    obtain ⟨⟨ho, hle⟩, hrest⟩ := hlay
    simp only [List.map_cons, Rows.uptoBulkAll] at hb
    have h1 := hget 0 f rfl
    simp only [List.getElem?_cons_zero] at h1
    obtain ⟨a, ha, la, ra⟩ := h.1 H enc n _ _ h1 (by omega)
    obtain ⟨b, hb1, lb, rb⟩ := parts_ok Cs fl (o + P.cellsOf f.type) ys h.2 hrest (by simpa using hl) (fun i g hi => by simpa using hget (i + 1) g (by simpa using hi)) (by omega)
    have la' : a.length = P.cellsOf f.type := by rw [la, List.length_take, List.length_drop, ho]; omega
    refine ⟨a ++ b, ⟨a, b, rfl, ha, hb1⟩, by rw [List.length_append, la', lb]; omega, fun j hj => ?_⟩
    rcases Nat.lt_or_ge j a.length with q | q
    · rw [getD_append_left q]
      have := ra j q
      rw [List.getD_eq_getElem?_getD (l := List.take _ _), List.getElem?_take_of_lt (by omega), List.getElem?_drop, ho, ← List.getD_eq_getElem?_getD] at this
      exact this
    · rw [getD_append_right q]
      have := rb (j - a.length) (by rw [List.length_append] at hj; omega)
      rw [la'] at this ⊢
      rw [show o + P.cellsOf f.type + (j - P.cellsOf f.type) = o + j by omega] at this
      exact this
theorem Opens.struct {fs : Array Field} (ht : P.underlying t = some (.struct fs)) (Cs : List (List V → Prop)) (ho : OpensL P W Cs fs.toList) (hlay : laid P (P.cellsOf t) 0 fs.toList = true) : Opens P W (Parts Cs) t := fun H enc n cs x h hb => by
  obtain ⟨xs, m, -, rfl, hl, hlen, hf⟩ := DataW.trod_struct ht h
  simp only [Rows.uptoBulk] at hb
  obtain ⟨vs, h1, h2, h3⟩ := parts_ok (enc := enc) (n := m) Cs fs.toList 0 xs ho (by rw [hl]; exact hlay) (by simpa using hlen) (fun i f hi => hf i f (by simpa using hi)) (by omega)
  exact ⟨vs, h1, by simpa using h2, fun j hj => by simpa using h3 j hj⟩
theorem val_struct {H : Type} {enc : TypeId × Value → H} {fs : Array Field} {base : Nat} {v : Value} {d : DataW H} {ps : List MemPlace} {C : List V → Prop} (ht : P.underlying t = some (.struct fs)) (hok : Value.okWide P W .any base t v)
    (h : DataW.Trod enc P W 0 (fun _ => true) true t v d ps) (ho : Opens P W C t) (hb : Rows.uptoBulk d ≤ 1048576) : ∃ vs, C vs ∧ Rel (GW W) [] (.agg vs) v := by
  simp only [Value.okWide, ht] at hok
  obtain ⟨cs, rfl, -, -⟩ := hok
  obtain ⟨n, hn⟩ := h
  obtain ⟨vs, h1, h2, h3⟩ := ho H enc n _ _ hn hb
  have h2' : vs.length = cs.size := by simpa [Value.cells] using h2
  refine ⟨vs, h1, .agg h2' fun j hj => ?_⟩
  have := h3 j hj
  simpa [Value.cells, List.getD_eq_getElem?_getD, Array.getD_eq_getD_getElem?] using this
theorem val_slice {H : Type} {enc : TypeId × Value → H} {base : Nat} {v : Value} {d : DataW H} {ps : List MemPlace} {τ : Type} {E : Ty τ} (ht : P.underlying t = some (.slice e)) (hok : Value.okWide P W .any base t v)
    (h : DataW.Trod enc P W 0 (fun _ => true) true t v d ps) (ho : Opens P W (fun vs => ∃ l, vs = [.list E.w l.length (rowsOf E l)]) t) (hb : Rows.uptoBulk d ≤ 1048576) : ∃ l, Rel (GW W) [] (.list E.w l.length (rowsOf E l)) v := by
  have hv : v.cells.toList = [v] := by
    simp only [Value.okWide, ht, Cell.okWide, Cell.ok] at hok
    cases v <;> first | rfl | simp at hok
  obtain ⟨n, hn⟩ := h
  rw [hv] at hn
  obtain ⟨vs, ⟨l, rfl⟩, -, h3⟩ := ho H enc n _ _ hn hb
  exact ⟨l, by simpa using h3 0 (by simp)⟩
theorem post_same {H : Type} {enc : TypeId × Value → H} {f : Func} {s : ChangeSpec} {apart fresh handsOn again : Bool} {W W' : World} {args : Array Value} {v : Value} {ds gs : List (DataW H)} {before pa pv : List MemPlace}
    (hW : DataW.Whole enc P f.params.toList s.vars apart W args.toList ds gs before)
    (hres : ∀ (b : Nat) (sp : Nat → Bool) (hd : Bool), DataW.TrodAll enc P W' b sp hd f.resultTypes.toList (v.resultList f.resultTypes.size) (s.fn H (ds ++ gs)).results [])
    (hargs : ∀ sp : Nat → Bool, (∀ p ∈ before, sp p.block = true) → DataW.TrodAll enc P W' 0 sp true f.params.toList args.toList (s.fn H (ds ++ gs)).args pa)
    (hvars : ∀ sp : Nat → Bool, (∀ p ∈ before, sp p.block = true) → DataW.TrodVars enc P W' sp s.vars (s.fn H (ds ++ gs)).vars pv)
    (hps : before = pa ++ pv) (hk : W.keptBut W' (· ∈ before)) (hfz : ∀ a : Addr, a.block < W.heap.size → W'.frozen? a = W.frozen? a)
    (hok : ∀ (j : Nat) (t : TypeId) (r : Value), f.resultTypes[j]? = some t → (v.resultList f.resultTypes.size)[j]? = some r → Value.okWide P W' .any 0 t r) :
    s.post enc P f apart fresh handsOn again W args v W' := by
  have hold : ∀ p ∈ before, (fun b => decide (b < W.heap.size)) p.block = true := fun p hp => by simpa using hW.lt p hp
  refine ⟨ds, gs, before, [], pa, pv, hW, hres _ _ _, hargs _ hold, hvars _ hold, World.keptBut_mono (fun p hp => ⟨hp, ?_⟩) hk, fun _ => ?_⟩
  · rw [hps, List.mem_append] at hp
    exact Or.inr hp
  · have hlt := hW.lt
    obtain ⟨_, _, _, _, _, hz, hn⟩ := hW
    refine ⟨hok, _, _, ([] ++ pa) ++ pv, ⟨[] ++ pa, pv, trodAll_append (hargs _ (fun _ _ => rfl)) (hres _ _ _), hvars _ (fun _ _ => rfl), rfl, ?_, ?_⟩, ?_⟩
    · intro b off hp
      have hp' : MemPlace.cell b off ∈ before := by rw [hps]; simpa using hp
      rw [hfz _ (hlt _ hp')]
      exact hz b off hp'
    · intro ha
      have := hn ha
      rw [hps] at this
      simpa using this
    · intro p hp _
      rw [hps]
      simpa using hp
theorem trods_stay {H : Type} {enc : TypeId × Value → H} {W' : World} {sp : Nat → Bool} (hl : laidOutB P = true) : ∀ {ts : List TypeId} {vs : List Value} {ds : List (DataW H)} {ps : List MemPlace}, (∀ t ∈ ts, P.readableRec t = true ∧ t < P.types.size) →
    DataW.TrodAll enc P W 0 (fun _ => true) true ts vs ds ps → (∀ p ∈ ps, W.sameAt W' p) → (∀ p ∈ ps, sp p.block = true) → DataW.TrodAll enc P W' 0 sp true ts vs ds ps
  | [], _, _, _, _, h, _, _ => by
    obtain ⟨rfl, rfl, rfl⟩ := trodAll_nil h
    exact trodAll_mk0
  | t :: ts, _, _, _, ht, h, h1, h2 => by
    obtain ⟨v, vs1, d, ds1, a, b, rfl, rfl, rfl, h3, h4⟩ := trodAll_cons h
    exact ⟨a, b, WideElems.Trod_stays hl (ht t (by simp)).1 (ht t (by simp)).2 h3 (fun p hp => h1 p (by simp [hp])) (fun p hp => h2 p (by simp [hp])),
      trods_stay hl (fun t' h' => ht t' (by simp [h'])) h4 (fun p hp => h1 p (by simp [hp])) (fun p hp => h2 p (by simp [hp])), rfl⟩
theorem bridge {H : Type} {enc : TypeId × Value → H} {f : FuncId} {fn : Func} {s : ChangeSpec} {apart fresh handsOn again : Bool} {args : Array Value} {ds gs : List (DataW H)} {before : List MemPlace} {tb : TypeId}
    (hW : DataW.Whole enc P fn.params.toList s.vars apart W args.toList ds gs before) {vs : List V} (hc : PCalls P f vs (· = .bool true)) (hl : vs.length = args.size) (hr : ∀ j, j < vs.length → Rel (GW W) [] (vs.getD j .undef) (args.getD j Go.undef))
    (hvars : s.vars = []) (hfn : s.fn H (ds ++ gs) = { results := [.lit (.bool true)], args := ds }) (hty : fn.resultTypes = #[tb]) (htb : P.underlying tb = some .bool) (hlo : laidOutB P = true) (hrd : ∀ t ∈ fn.params.toList, P.readableRec t = true ∧ t < P.types.size) :
    Calls P f args W fun e W' => ∃ v, e = .returned v ∧ s.post enc P fn apart fresh handsOn again W args v W' := by
  refine (hc.2 (GW W) W args ⟨fun b o hb => hb, ⟨rfl, rfl⟩⟩ hl hr).mono ?_
  rintro e W' ⟨v, x, G', rfl, h1, h2, -, h4, h5, h6, rfl⟩
  cases h6
  have hamb : G'.amb.ok W' := h2.amb
  rw [← h1.same] at hamb
  have hW' := hW
  obtain ⟨p, q, hA, hV, rfl, -, -⟩ := hW'
  rw [hvars] at hV
  obtain ⟨rfl, rfl⟩ := trodVars_none hV
  have hlt : ∀ x ∈ p, x.block < W.heap.size := fun x hx => hW.lt x (by simp [hx])
  refine ⟨_, rfl, post_same (pa := p) (pv := []) hW (fun _ _ _ => ?_) (fun sp hsp => ?_) (fun sp _ => ?_) rfl ?_ (fun a ha => World.frozen?_of_block (w := W) (h4 _ ha)) (ok_one hty rfl (okWide_bool_mk htb _))⟩
  · rw [hfn, hty]
    exact trodAll_cons_mk (shut_bool htb _) trodAll_mk0
  · rw [hfn]
    refine trods_stay hlo hrd hA (fun x hx => ?_) fun x hx => hsp x (by simp [hx])
    cases x with
    | cell b o => exact World.cell?_of_block (w := W) (h4 b (hlt _ hx))
    | map b => exact h4 b (hlt _ hx)
  · rw [hfn, hvars]; rfl
  · refine ⟨hamb.os, hamb.out, fun i hi => ?_⟩
    rw [h4 i hi]
    split <;> simp_all
end
section
variable {W : World}
theorem oInt : Opens Tryz.prog W (fun vs => ∃ n, vs = [.int .i64 n]) 3 := Opens.int Tryz.underlying3
theorem oStr : Opens Tryz.prog W (fun vs => ∃ s, vs = [.str s]) 9 := Opens.str Tryz.underlying9
theorem oInts : Opens Tryz.prog W (fun vs => ∃ l : List Int, vs = [tint.lst l]) 26 :=
  Opens.slice (E := tint) Tryz.underlying26 (oInt.mono fun _ h => h) (by kernel_rfl) (by decide) fun _ => rfl
theorem oSpan : Opens Tryz.prog W (fun vs => ∃ x, vs = tSpan.cells x) 142 :=
  (Opens.struct Tryz.underlying142 [fun vs => ∃ n, vs = [.int .i64 n], fun vs => ∃ n, vs = [.int .i64 n]] ⟨oInt, oInt, trivial⟩ (by kernel_rfl)).mono fun vs h => by
    obtain ⟨_, _, rfl, ⟨lo, rfl⟩, _, _, rfl, ⟨hi, rfl⟩, rfl⟩ := h
    exact ⟨⟨lo, hi⟩, rfl⟩
theorem oSpans : Opens Tryz.prog W (fun vs => ∃ l, vs = [tSpan.lst l]) 138 := Opens.slice (E := tSpan) Tryz.underlying138 oSpan (by kernel_rfl) (by decide) fun _ => rfl
theorem oMould : Opens Tryz.prog W (fun vs => ∃ x, vs = tMould.cells x) 140 :=
  (Opens.struct Tryz.underlying140 [fun vs => ∃ s, vs = [.str s], fun vs => ∃ n, vs = [.int .i64 n], fun vs => ∃ l, vs = [tSpan.lst l]] ⟨oStr, oInt, oSpans, trivial⟩ (by kernel_rfl)).mono fun vs h => by
    obtain ⟨_, _, rfl, ⟨s, rfl⟩, _, _, rfl, ⟨n, rfl⟩, _, _, rfl, ⟨l, rfl⟩, rfl⟩ := h
    exact ⟨⟨s, n, l⟩, rfl⟩
theorem oMoulds : Opens Tryz.prog W (fun vs => ∃ l, vs = [tMould.lst l]) 22 := Opens.slice (E := tMould) Tryz.underlying22 oMould (by kernel_rfl) (by decide) fun _ => rfl
theorem oHead : Opens Tryz.prog W (fun vs => ∃ x, vs = tHead.cells x) 78 :=
  (Opens.struct Tryz.underlying78 [fun vs => ∃ s, vs = [.str s], fun vs => ∃ l : List Int, vs = [tint.lst l]] ⟨oStr, oInts, trivial⟩ (by kernel_rfl)).mono fun vs h => by
    obtain ⟨_, _, rfl, ⟨s, rfl⟩, _, _, rfl, ⟨l, rfl⟩, rfl⟩ := h
    exact ⟨⟨s, l⟩, rfl⟩
theorem oHeads : Opens Tryz.prog W (fun vs => ∃ l, vs = [tHead.lst l]) 23 := Opens.slice (E := tHead) Tryz.underlying23 oHead (by kernel_rfl) (by decide) fun _ => rfl
theorem oShop : Opens Tryz.prog W (fun vs => ∃ x, vs = tShop.cells x) 25 :=
  (Opens.struct Tryz.underlying25 [fun vs => ∃ n, vs = [.int .i64 n], fun vs => ∃ l, vs = [tMould.lst l], fun vs => ∃ l, vs = [tHead.lst l]] ⟨oInt, oMoulds, oHeads, trivial⟩ (by kernel_rfl)).mono fun vs h => by
    obtain ⟨_, _, rfl, ⟨n, rfl⟩, _, _, rfl, ⟨l, rfl⟩, _, _, rfl, ⟨m, rfl⟩, rfl⟩ := h
    exact ⟨⟨n, l, m⟩, rfl⟩
theorem oClaim : Opens Tryz.prog W (fun vs => ∃ x, vs = tClaim.cells x) 67 :=
  (Opens.struct Tryz.underlying67 (List.replicate 8 fun vs => ∃ n, vs = [.int .i64 n]) ⟨oInt, oInt, oInt, oInt, oInt, oInt, oInt, oInt, trivial⟩ (by kernel_rfl)).mono fun vs h => by
    obtain ⟨_, _, rfl, ⟨a, rfl⟩, _, _, rfl, ⟨b, rfl⟩, _, _, rfl, ⟨c, rfl⟩, _, _, rfl, ⟨d, rfl⟩, _, _, rfl, ⟨e, rfl⟩, _, _, rfl, ⟨f, rfl⟩, _, _, rfl, ⟨g, rfl⟩, _, _, rfl, ⟨i, rfl⟩, rfl⟩ := h
    exact ⟨⟨a, b, c, d, e, f, g, i⟩, rfl⟩
theorem oClaims : Opens Tryz.prog W (fun vs => ∃ l, vs = [tClaim.lst l]) 27 := Opens.slice (E := tClaim) Tryz.underlying27 oClaim (by kernel_rfl) (by decide) fun _ => rfl
theorem oCase : Opens Tryz.prog W (fun vs => ∃ x, vs = tCase.cells x) 29 :=
  (Opens.struct Tryz.underlying29 [fun vs => ∃ x, vs = tShop.cells x, fun vs => ∃ l : List Int, vs = [tint.lst l], fun vs => ∃ l, vs = [tClaim.lst l]] ⟨oShop, oInts, oClaims, trivial⟩ (by kernel_rfl)).mono fun vs h => by
    obtain ⟨_, _, rfl, ⟨s, rfl⟩, _, _, rfl, ⟨l, rfl⟩, _, _, rfl, ⟨m, rfl⟩, rfl⟩ := h
    exact ⟨⟨s, l, m⟩, rfl⟩
variable {H : Type} {enc : TypeId × Value → H} {base : Nat} {v : Value} {d : DataW H} {ps : List MemPlace}
theorem arg_case (hok : Value.okWide Tryz.prog W .any base 29 v) (h : DataW.Trod enc Tryz.prog W 0 (fun _ => true) true 29 v d ps) (hb : Rows.uptoBulk d ≤ 1048576) : ∃ x, Rel (GW W) [] (.agg (tCase.cells x)) v := by
  obtain ⟨vs, ⟨x, rfl⟩, hr⟩ := val_struct Tryz.underlying29 hok h oCase hb
  exact ⟨x, hr⟩
theorem arg_ints (hok : Value.okWide Tryz.prog W .any base 26 v) (h : DataW.Trod enc Tryz.prog W 0 (fun _ => true) true 26 v d ps) (hb : Rows.uptoBulk d ≤ 1048576) : ∃ l, Rel (GW W) [] (tint.lst l) v :=
  val_slice Tryz.underlying26 hok h oInts hb
end
theorem own : ownKnob Tryz.prog.godebug = none := by kernel_rfl
theorem laidOut : laidOutB Tryz.prog = true := by kernel_rfl
abbrev noCase : Value := .agg #[.int .i64 0, .slice none 0 0, .slice none 0 0, .slice none 0 0, .slice none 0 0]
abbrev noCaseD {H : Type} : DataW H := .agg [.agg [.lit (.int .i64 0), .nil, .nil], .nil, .nil]
end Go.Proofs.YtdamoemndifpmaaGreat
