/-
  Part of the proof of the Claim laws. Conditions: those that stand in each theorem.
-/
import Derived.Test.YtdamoemndifpmaaGreatB11
set_option linter.unusedSimpArgs false
set_option linter.unusedVariables false
set_option maxRecDepth 100000
namespace Go.Proofs.YtdamoemndifpmaaGreat
open Ab Go
noncomputable section
theorem entP_le {x : Case} {e : Int} (h : (truthsE x e).2 = 0) : VLe (entP x e) (court x (caseSets x)) := by
  unfold entP; rw [if_pos h]; exact VLe.refl _
inductive P18
  | e
inductive R18
  | r0 (r1 : Int)
  | r1 (r0 : List Int) (r1 : Int)
noncomputable def T18 (x : Case) : P18 → Tr P18 R18
  | .e => let c2 := caseSets x; let c1 := ((c2.length) : Int); let c3 : V := .tuple [entP x 0, iI ((truthsE x 0).2)]; let c4 : V := .list 1 ((c1).toNat) (rowsOf tint c2); let c5 := decide ((c1).toNat ≤ (c2).length); let c6 := rowsOf tint (List.replicate ((c1).toNat) 0); (.call 63 [.agg (cC x), fF 64] c3 true true (.br ((truthsE x 0).2 != (0 : Int)) (.out (.r0 ((truthsE x 0).2))) (.wait 2 (.vle 4 (entP x 0) (court x c2) (.vle 7 c3 uU (.vle 9 c3 uU (.vle 10 (entP x 0) uU (.need ((decide (0 ≤ c1) && decide (c1 = c1)) && decide (c1 ≤ 4294967296)) (.telb 1 1 ((c1).toNat) (fun _ j => ([iI 0] : List V).getD j uU) c6 (.sem (opAt Tryz.f18 5 5) [(.tmp 21, .row 1 ((c1).toNat)), (.tmp 25, tint.lst c2)] [.cells (cC x), .rows 3 1 ((c1).toNat) c6] (iI ((c2).length : Int)) [.cells (cC x), .rows 3 1 ((c2).length) (rowsOf tint c2)] true (.wait 1 (.frz 1 (c5 && (c5 && (c5 && true))) (.vle 6 c4 (tint.lst c2) (.vle 20 c4 (tint.lst c2) (.vle 21 c4 (tint.lst c2) (.out (.r1 c2 0)))))))))))))))))
noncomputable def g18 (x : Case) : P18 → List Item × St
  | .e => bd Tryz.f18 [.agg (cC x)] 27
noncomputable def n18 : R18 → Exit × St
  | .r0 r1 => (.ret, ⟨mk 28 [(2, .nils), (3, iI r1)], [], []⟩)
  | .r1 r0 r1 => (.ret, ⟨mk 28 [(2, tint.lst r0), (3, iI r1)], [], []⟩)
noncomputable def v18 : R18 → V
  | .r0 r1 => .tuple [tint.lst ([] : List Int), iI r1]
  | .r1 r0 r1 => .tuple [tint.lst r0, iI r1]
theorem s18 (x : Case) : Sm 0 (g18 x) (T18 x) (n18)
  | .e => ⟨400, by kernel_rfl⟩
theorem q18 : ∀ r, bodyQ Tryz.prog Tryz.f18 (· = v18 r) (n18 r).1 (n18 r).2
  | .r0 r1 => ⟨.inr rfl, by simp [n18], (.tuple [.nils, iI r1]), (.tuple [tint.lst ([] : List Int), iI r1]), by kernel_rfl, (.tuple rfl fun j hj => match j, hj with | 0, _ => .weak (.imm rfl) VLe.nils | 1, _ => .imm rfl), rfl⟩
  | .r1 r0 r1 => bq (.tuple [tint.lst r0, iI r1]) (by kernel_rfl)
theorem w18 (x : Case) {post : V → Prop} (h : WQ (T18 x) v18 post .e) : PC 18 [.agg (cC x)] post :=
  PCalls.wq Tryz.func18 (s18 x) q18 h
inductive P21
  | e
inductive R21
  | r0 (r0 : Int) (r1 : Int)
noncomputable def T21 (x : Case) (n : Int) : P21 → Tr P21 R21
  | .e => let c1 := indexErr n (x.claims.length : Int); let c2 := (truthsE x c1).2; let c3 : List V := [rR (iI (x.claims.length : Int)), rR (iI n)]; let c4 := caseSets x; let c5 : V := .tuple [entP x c1, iI c2]; (.front [(5, 66, [iI n, iI (x.claims.length : Int)], .func (.func 132) [] c3), (6, 63, [.agg (cC x), .func (.func 132) [] c3], .tuple [entP x c1, iI c2])] [] true true (.br ((truthsE x c1).2 != (0 : Int)) (.out (.r0 0 c2)) (.wait 2 (.vle 6 (entP x c1) (court x c4) (.vle 8 c5 uU (.vle 15 c5 uU (.vle 16 (entP x c1) uU (.call 67 [tint.lst c4, iI n] (iI (settled c4 n)) true true (.out (.r0 (settled c4 n) 0))))))))))
noncomputable def g21 (x : Case) (n : Int) : P21 → List Item × St
  | .e => bd Tryz.f21 [.agg (cC x), iI n] 25
noncomputable def n21 : R21 → Exit × St
  | .r0 r0 r1 => (.ret, ⟨mk 27 [(4, iI r0), (5, iI r1)], [], []⟩)
noncomputable def v21 : R21 → V
  | .r0 r0 r1 => .tuple [iI r0, iI r1]
theorem s21 (x : Case) (n : Int) : Sm 0 (g21 x n) (T21 x n) (n21)
  | .e => ⟨400, by kernel_rfl⟩
theorem q21 : ∀ r, bodyQ Tryz.prog Tryz.f21 (· = v21 r) (n21 r).1 (n21 r).2
  | .r0 r0 r1 => bq (.tuple [iI r0, iI r1]) (by kernel_rfl)
theorem w21 (x : Case) (n : Int) {post : V → Prop} (h : WQ (T21 x n) v21 post .e) : PC 21 [.agg (cC x), iI n] post :=
  PCalls.wq Tryz.func21 (s21 x n) q21 h
inductive P24
  | e
inductive R24
  | r0 (r0 : Bool) (r1 : Int)
noncomputable def T24 (x : Case) (l : List Int) : P24 → Tr P24 R24
  | .e => let c1 := listErr (x.claims.length : Int) l; let c2 : List V := [rR (iI (x.claims.length : Int)), rR (tint.lst l)]; let c3 := (truthsE x c1).2; let c4 := caseSets x; let c5 : V := .tuple [entP x c1, iI c3]; (.front [(5, 70, [tint.lst l, iI (x.claims.length : Int)], .func (.func 134) [] c2), (6, 63, [.agg (cC x), .func (.func 134) [] c2], .tuple [entP x c1, iI c3])] [] true true (.br ((truthsE x c1).2 != (0 : Int)) (.out (.r0 false c3)) (.wait 2 (.vle 6 (entP x c1) (court x c4) (.vle 8 c5 uU (.vle 15 c5 uU (.vle 16 (entP x c1) uU (.call 72 [tint.lst l] (iI (setZ l)) true true (.call 71 [court x c4, iI (setZ l)] (.bool (c4.any fun s => bitsOf .and .i64 s (setZ l) == (setZ l))) true true (.out (.r0 (c4.any fun s => bitsOf .and .i64 s (setZ l) == (setZ l)) 0)))))))))))
noncomputable def g24 (x : Case) (l : List Int) : P24 → List Item × St
  | .e => bd Tryz.f24 [.agg (cC x), tint.lst l] 23
noncomputable def n24 : R24 → Exit × St
  | .r0 r0 r1 => (.ret, ⟨mk 25 [(4, .bool r0), (5, iI r1)], [], []⟩)
noncomputable def v24 : R24 → V
  | .r0 r0 r1 => .tuple [.bool r0, iI r1]
theorem s24 (x : Case) (l : List Int) : Sm 0 (g24 x l) (T24 x l) (n24)
  | .e => ⟨400, by kernel_rfl⟩
theorem q24 : ∀ r, bodyQ Tryz.prog Tryz.f24 (· = v24 r) (n24 r).1 (n24 r).2
  | .r0 r0 r1 => bq (.tuple [.bool r0, iI r1]) (by kernel_rfl)
theorem w24 (x : Case) (l : List Int) {post : V → Prop} (h : WQ (T24 x l) v24 post .e) : PC 24 [.agg (cC x), tint.lst l] post :=
  PCalls.wq Tryz.func24 (s24 x l) q24 h
theorem setsOk {x : Case} : ∀ y ∈ caseSets x, 0 ≤ y ∧ y < 32 := fun _ h => caseSets_in h
theorem okOf {x : Case} {e : Int} (h : (truthsE x e).2 = 0) : OkCase x ∧ e = 0 := by
  unfold truthsE at h
  split at h
  · rename_i h1; exact absurd h h1
  split at h
  · rename_i h1; exact absurd h h1
  rename_i h1 h2
  exact ⟨okCase (Decidable.not_not.1 h1), Decidable.not_not.1 h2⟩
theorem indexOk {n m : Int} (h : indexErr n m = 0) : 0 ≤ n ∧ n ≤ m - 1 := by
  unfold indexErr at h; split at h
  · rename_i h1; exact (within_iff).1 h1
  · cases h
theorem listOk {m : Int} {l : List Int} (h : listErr m l = 0) : ∀ n ∈ l, 0 ≤ n ∧ n ≤ m - 1 := by
  unfold listErr at h; split at h
  · cases h
  · rename_i h1
    intro n hn
    rw [List.any_eq_true] at h1
    by_cases q : within n 0 (m - 1) = true
    · exact (within_iff).1 q
    · exact absurd ⟨n, hn, by simp [q]⟩ h1
theorem can_any {l : List Int} {s : List Int} (hl : ∀ n ∈ l, 0 ≤ n ∧ n < 5) (hs : ∀ x ∈ s, 0 ≤ x ∧ x < 32) : (s.any fun y => bitsOf .and .i64 y (setZ l) == setZ l) = can s l := by
  unfold can
  rw [Bool.eq_iff_iff, List.any_eq_true, List.any_eq_true]
  constructor
  · rintro ⟨y, h1, h2⟩; exact ⟨y, h1, by rw [← and_set hl (hs y h1)]; exact h2⟩
  · rintro ⟨y, h1, h2⟩; exact ⟨y, h1, by rw [and_set hl (hs y h1)]; exact h2⟩
theorem sem_copy18 (h : List Blk) (l : List Int) (i : Nat) (c0 : Nat → Nat → V) (hi : h[i]? = some (.rows 3 1 l.length c0)) : SemOK Tryz.prog (opAt Tryz.f18 5 5) [(.tmp 21, .row i l.length), (.tmp 25, tint.lst l)] h (iI l.length) (h.set i (.rows 3 1 l.length (rowsOf tint l))) := by
  have e : opAt Tryz.f18 5 5 = .call { callee := .builtin .copy, args := #[.tmp 21, .tmp 25], argTypes := #[26, 26] } := by kernel_rfl
  rw [e]; exact sem_copy (e := 3) (by kernel_rfl) (by kernel_rfl) hi fun r hr => rfl
theorem zero_rows {n r j : Nat} (hr : r < n) (hj : j < 1) : VLe (([iI 0] : List V).getD j uU) (rowsOf tint (List.replicate n 0) r j) := by
  obtain rfl : j = 0 := by omega
  have : (List.replicate n (0 : Int)).getD r tint.zero = 0 := by rw [List.getD_eq_getElem?_getD, List.getElem?_replicate, if_pos hr]; rfl
  unfold rowsOf; rw [this]; exact VLe.refl _
theorem c18 (x : Case) : PC 18 [.agg (tCase.cells x)] (· = .tuple [tint.lst (if (truthsE x 0).2 ≠ 0 then [] else caseSets x), iI (truthsE x 0).2]) := by
  have hl : ((caseSets x).length : Int) ≤ 4294967296 := by have := caseSets_le x; omega
  refine w18 x (WP.step ?_)
  simp only [T18, Go, Ends', v18, Tr.sure, SS]
  repeat' with_reducible first | intro _ | apply And.intro
  all_goals first | exact (c63f x) | exact (VLe.undef _) | exact (entP_le (by with_reducible assumption)) | exact (sem_copy18 _ _ _ _ rfl) | exact (zero_rows (by with_reducible assumption) (by with_reducible assumption)) | exact (VLe.same tint _ rfl) | (simp [hl, Go, Ends', v18, -List.getD_eq_getElem?_getD, *]; done)
theorem c21 (x : Case) (n : Int) : PC 21 [.agg (tCase.cells x), iI n] (· = .tuple [iI (holdsR x n).1, iI (holdsR x n).2]) := by
  have hn : (truthsE x (indexErr n x.claims.length)).2 = 0 → 0 ≤ n ∧ n ≤ 5 := fun h => by
    have := indexOk (okOf h).2; have := (okOf h).1.five; omega
  refine w21 x n (WP.step ?_)
  simp only [T21, Go, Ends', v21, Tr.sure, SS]
  repeat' with_reducible first | intro _ | apply And.intro
  all_goals first | exact (c66 _ _) | exact (c63i x n) | exact (VLe.undef _) | exact (entP_le (by with_reducible assumption)) | exact (c67 _ _ setsOk (hn (by with_reducible assumption))) | (simp [holdsR, Go, Ends', v21, -List.getD_eq_getElem?_getD, *]; done)
theorem c24 (x : Case) (l : List Int) : PC 24 [.agg (tCase.cells x), tint.lst l] (· = .tuple [.bool (togetherR x l).1, iI (togetherR x l).2]) := by
  have hn : (truthsE x (listErr x.claims.length l)).2 = 0 → ∀ n ∈ l, 0 ≤ n ∧ n < 5 := fun h n hm => by
    have := listOk (okOf h).2 n hm; have := (okOf h).1.five; omega
  have hc : (truthsE x (listErr x.claims.length l)).2 = 0 → ((caseSets x).any fun y => bitsOf .and .i64 y (setZ l) == setZ l) = can (caseSets x) l := fun h => can_any (hn h) setsOk
  refine w24 x l (WP.step ?_)
  simp only [T24, Go, Ends', v24, Tr.sure, SS]
  repeat' with_reducible first | intro _ | apply And.intro
  all_goals first | exact (c70 _ _) | exact (c63l x l) | exact (VLe.undef _) | exact (entP_le (by with_reducible assumption)) | exact (c72 l (hn (by with_reducible assumption))) | exact (c71 _ _ _) | (simp [togetherR, hc, Go, Ends', v24, -List.getD_eq_getElem?_getD, *]; done)
end
noncomputable section
inductive P82
  | e
  | l0 (x0_11 : Int) (a0_0 : List (List Int))
inductive R82
  | r0 (r0 : List (List Int))
noncomputable def T82 (l : List Int) (c : Case) : P82 → Tr P82 R82
  | .e => (.wait 2 (.own 2 26 1 (.need (decide (0 ≤ (c.claims.length : Int)) && inR .i64 ((1 : Int) * 2 ^ (min ((c.claims.length : Int)).toNat 64))) (.go (.l0 0 ([]))))))
  | .l0 x0_11 a0_0 => let c1 := x0_11 + (1 : Int); (.br (decide (x0_11 < ((1 : Int) * 2 ^ (min ((c.claims.length : Int)).toNat 64)))) (.call 71 [court c l, iI x0_11] (.bool (l.any fun s => bitsOf .and .i64 s x0_11 == x0_11)) true true (.br (l.any fun s => bitsOf .and .i64 s x0_11 == x0_11) (.call 83 [iI x0_11] (tint.lst (listZ x0_11)) true true (.need ((decide (a0_0.length = a0_0.length) && decide (a0_0.length + 1 ≤ 4294967296)) && decide (1 ≤ 1)) (.scal (fun _ => true) (.need (inR .i64 c1) (.go (.l0 c1 ((listZ x0_11) :: a0_0))))))) (.need (inR .i64 c1) (.go (.l0 c1 a0_0))))) (.out (.r0 a0_0)))
noncomputable def g82 (l : List Int) (c : Case) : P82 → List Item × St
  | .e => bd Tryz.f82 [court c l] 23
  | .l0 x0_11 a0_0 => (cutOf Tryz.f82 0, ⟨mk 24 [(0, court c l), (2, .row 0 a0_0.length), (10, iI ((1 : Int) * 2 ^ (min ((c.claims.length : Int)).toNat 64))), (11, iI x0_11)], [.rows 26 1 a0_0.length (rowsRev (tlist tint) a0_0)], []⟩)
noncomputable def n82 : R82 → Exit × St
  | .r0 r0 => (.ret, ⟨mk 24 [(2, .row 0 r0.length)], [.rows 26 1 r0.length (rowsRev (tlist tint) r0)], []⟩)
noncomputable def v82 : R82 → V
  | .r0 r0 => (tlist tint).lst r0.reverse
theorem s82 (l : List Int) (c : Case) : Sm 0 (g82 l c) (T82 l c) (n82)
  | .e => ⟨400, by kernel_rfl⟩
  | .l0 _ _ => ⟨400, by kernel_rfl⟩
theorem q82 : ∀ r, bodyQ Tryz.prog Tryz.f82 (· = v82 r) (n82 r).1 (n82 r).2
  | .r0 r0 => ⟨.inr rfl, by simp [n82], (.row 0 r0.length), ((tlist tint).lst r0.reverse), by kernel_rfl, (.weak (.row rfl (Nat.le_refl _)) (VLe.rev (tlist tint) r0)), rfl⟩
theorem w82 (l : List Int) (c : Case) {post : V → Prop} (h : WQ (T82 l c) v82 post .e) : PC 82 [court c l] post :=
  PCalls.wq Tryz.func82 (s82 l c) q82 h
theorem two_k {k : Nat} (h : k ≤ 5) : (1 : Int) * 2 ^ (min (k : Int).toNat 64) = ((2 ^ k : Nat) : Int) ∧ 2 ^ k ≤ 32 := by
  rcases show k = 0 ∨ k = 1 ∨ k = 2 ∨ k = 3 ∨ k = 4 ∨ k = 5 by omega with e | e | e | e | e | e <;> subst e <;> exact ⟨by decide, by decide⟩
def someP (l : List Int) (n : Nat) : Bool := l.any fun s => bitsOf .and .i64 s (n : Int) == (n : Int)
def someL (c : Case) (l : List Int) : List (List Int) := (filtI (someP l) (2 ^ c.claims.length)).map listZ
theorem c82 (c : Case) (l : List Int) (h : OkCase c) : PC 82 [court c l] (· = (tlist tint).lst (someL c l)) := by
  obtain ⟨hN, hN2⟩ := two_k h.five
  unfold someL
  generalize 2 ^ c.claims.length = N at *
  have hNr : inR .i64 (N : Int) = true := inR64 (by omega) (by omega)
  refine w82 l c (WP.step ?_)
  simp only [T82, Go, Ends', v82, Tr.sure, SS]
  repeat' with_reducible first | intro _ | apply And.intro
  all_goals first | (simp_all [hN, hNr, Go, Ends', v82, -List.getD_eq_getElem?_getD]; done) | skip
  refine WP.run (fun (i : Nat) => .l0 i ((filtI (someP l) i).map listZ).reverse) rfl N (fun i hi => ?_) ?_
  · have hr : inR .i64 ((i : Int) + 1) = true := inR64 (by omega) (by omega)
    have hi' : (i : Int) < N := by omega
    have hle : (filtI (someP l) i).reverse.length + 1 ≤ 4294967296 := by rw [List.length_reverse]; have := filtI_len (someP l) i; omega
    have hn := filtI_rev (someP l) i
    have hs : 0 ≤ (i : Int) ∧ (i : Int) < 32 := by omega
    rw [← List.map_reverse, ← List.map_reverse]
    generalize (filtI (someP l) (i + 1)).reverse = B at *
    generalize (filtI (someP l) i).reverse = A at *
    have hq : (A.map listZ).length = A.length := List.length_map ..
    cases hz : someP l i with
    | true =>
      rw [hz] at hn; simp only [if_true] at hn
      rw [hn, List.map_cons]
      unfold someP at hz
      refine WP.once ?_
      simp only [T82, Tr.sure, SS, hi']
      repeat' with_reducible first | intro _ | apply And.intro
      all_goals first | exact (c71 _ _ _) | exact (c83 _ hs) | (simp [hr, hle, hz, hN, hq, Go, Ends', v82, -List.getD_eq_getElem?_getD, *]; done) | (simp_all [hr, hle, hz, hN, hq, Go, Ends', v82, -List.getD_eq_getElem?_getD]; done)
    | false =>
      rw [hz] at hn; simp only [Bool.false_eq_true, if_false] at hn
      rw [hn]
      unfold someP at hz
      refine WP.once ?_
      simp only [T82, Tr.sure, SS, hi']
      repeat' with_reducible first | intro _ | apply And.intro
      all_goals first | exact (c71 _ _ _) | exact (c83 _ hs) | (simp [hr, hle, hz, hN, hq, Go, Ends', v82, -List.getD_eq_getElem?_getD, *]; done) | (simp_all [hr, hle, hz, hN, hq, Go, Ends', v82, -List.getD_eq_getElem?_getD]; done)
  · refine WP.step ?_
    simp only [T82, Go, Ends', v82, Tr.sure, SS, Int.lt_irrefl, List.reverse_reverse]
    repeat' with_reducible first | intro _ | apply And.intro
    all_goals first | (simp [hN, Go, Ends', v82, -List.getD_eq_getElem?_getD, *]; done) | (simp_all [hN, Go, Ends', v82, -List.getD_eq_getElem?_getD]; done)
inductive P84_c
  | e
  | l0 (x0_4 : List Int) (x0_9 : Int)
inductive R84_c
  | r0 (r0 : List Int)
noncomputable def T84_c (g : Nat) (c : Case) (ks : List Int) (p : List Int → List Int → Bool) (s : List (List Int)) : P84_c → Tr P84_c R84_c
  | .e => (.wait 6 (.vle 4 .nils (tint.lst ([] : List Int)) (.go (.l0 ([] : List Int) 0))))
  | .l0 x0_4 x0_9 => let c1 := s.getD (x0_9).toNat (tlist tint).zero; let c2 := x0_9 + (1 : Int); let c3 : Tr P84_c R84_c := .need (inR .i64 c2) (.go (.l0 c1 c2)); (.br (decide (x0_9 < (s.length : Int))) (.need (decide (0 ≤ x0_9) && decide (x0_9 < (s.length : Int))) (.br (x0_9 == (0 : Int)) (.lit true c3) (.call g [tint.lst c1, tint.lst x0_4, rR (court c ks)] (.bool (p c1 x0_4)) true true (.br (p c1 x0_4) c3 (.need (inR .i64 c2) (.go (.l0 x0_4 c2))))))) (.out (.r0 x0_4)))
noncomputable def g84_c (g : Nat) (c : Case) (ks : List Int) (p : List Int → List Int → Bool) (s : List (List Int)) : P84_c → List Item × St
  | .e => bd Tryz.f84 [(tlist tint).lst s, .func (.func g) [] [rR (court c ks)]] 23
  | .l0 x0_4 x0_9 => (cutOf Tryz.f84 0, ⟨mk 25 [(1, .func (.func g) [] [rR (court c ks)]), (4, tint.lst x0_4), (7, (tlist tint).lst s), (8, iI (s.length : Int)), (9, iI x0_9)], [], []⟩)
noncomputable def n84_c : R84_c → Exit × St
  | .r0 r0 => (.ret, ⟨mk 25 [(4, tint.lst r0)], [], []⟩)
noncomputable def v84_c : R84_c → V
  | .r0 r0 => tint.lst r0
theorem s84_c (g : Nat) (c : Case) (ks : List Int) (p : List Int → List Int → Bool) (s : List (List Int)) : Sm 0 (g84_c g c ks p s) (T84_c g c ks p s) (n84_c)
  | .e => ⟨400, by kernel_rfl⟩
  | .l0 _ _ => ⟨400, by kernel_rfl⟩
theorem q84_c : ∀ r, bodyQ Tryz.prog Tryz.f84 (· = v84_c r) (n84_c r).1 (n84_c r).2
  | .r0 r0 => bq (tint.lst r0) (by kernel_rfl)
theorem w84_c (g : Nat) (c : Case) (ks : List Int) (p : List Int → List Int → Bool) (s : List (List Int)) {post : V → Prop} (h : WQ (T84_c g c ks p s) v84_c post .e) : PC 84 [(tlist tint).lst s, .func (.func g) [] [rR (court c ks)]] post :=
  PCalls.wq Tryz.func84 (s84_c g c ks p s) q84_c h
theorem c84c {g : Nat} {c : Case} {ks : List Int} {p : List Int → List Int → Bool} {ok : List Int → Prop} (s : List (List Int)) (hg : ∀ a b, ok a → ok b → PC g [tint.lst a, tint.lst b, rR (court c ks)] (· = .bool (p a b))) (hs : ∀ x ∈ s, ok x) (h0 : ok []) :
    PC 84 [(tlist tint).lst s, .func (.func g) [] [rR (court c ks)]] (· = tint.lst (bstOf p [] s)) := by
  refine PCalls.assume e84 0 (by simp) .list fun hl => ?_
  refine w84_c g c ks p s (WP.step ?_)
  simp only [T84_c, Go, Ends', v84_c, Tr.sure, SS]
  repeat' with_reducible first | intro _ | apply And.intro
  all_goals first | exact VLe.nils | skip
  refine WP.run (fun i => .l0 (bstOf p [] (s.take i)) (i : Int)) rfl s.length (fun i hi => ?_) ?_
  · have hr := inRi hi hl
    have hz : (tlist tint).zero = ([] : List Int) := rfl
    have hi' : (i : Int) < s.length := by omega
    have ht := bst_take p [] s hi
    have hb := bst_in (p := p) (d := []) (s.take i) (fun x hx => hs x (List.mem_of_mem_take hx)) h0
    have hx := hs _ (getD_mem [] s i hi)
    rw [ht]
    by_cases hi0 : i = 0
    · subst hi0
      refine WP.once ?_
      simp only [T84_c, Tr.sure, SS, hi', hi, hz]
      repeat' with_reducible first | intro _ | apply And.intro
      all_goals first | (simp [hr, Go, Ends', v84_c, -List.getD_eq_getElem?_getD, *]; done) | (simp_all [hr, Go, Ends', v84_c, -List.getD_eq_getElem?_getD]; done)
    · have hi1 : ¬ (i : Int) = 0 := by omega
      have hg1 := hg _ _ hx hb
      generalize bstOf p [] (s.take i) = B at *
      refine WP.once ?_
      simp only [T84_c, Tr.sure, SS, hi', hi, hz, hi1]
      repeat' with_reducible first | intro _ | apply And.intro
      all_goals first | exact hg1 | (simp [hr, hi0, Go, Ends', v84_c, -List.getD_eq_getElem?_getD, *]; done)
  · rw [List.take_length]
    refine WP.step ?_
    simp only [T84_c, Go, Ends', v84_c, Tr.sure, SS, Int.lt_irrefl]
    repeat' with_reducible first | intro _ | apply And.intro
def worthP (c : Case) (a b : List Int) : Bool := decide (worth c a > worth c b) || (decide (worth c a = worth c b) && decide (cmpL a b < 0))
inductive P87
  | e
inductive R87
  | r0 (r0 : Bool)
noncomputable def T87 (c : Case) (ks : List Int) (u : List Int) (v : List Int) : P87 → Tr P87 R87
  | .e => (.front [(2, 88, [court c ks, tint.lst u], iI (worth c u))] [] true true (.call 88 [court c ks, tint.lst v] (iI (worth c v)) true true (.br (decide ((worth c u) > (worth c v))) (.lit true (.out (.r0 true))) (.br ((worth c u) == (worth c v)) (.call 86 [tint.lst u, tint.lst v] (iI (cmpL u v)) true true (.lit false (.out (.r0 (decide ((cmpL u v) < (0 : Int))))))) (.lit false (.out (.r0 false)))))))
noncomputable def g87 (c : Case) (ks : List Int) (u : List Int) (v : List Int) : P87 → List Item × St
  | .e => bd Tryz.f87 [tint.lst u, tint.lst v, rR (court c ks)] 25
noncomputable def n87 : R87 → Exit × St
  | .r0 r0 => (.ret, ⟨mk 28 [(5, .bool r0)], [], []⟩)
noncomputable def v87 : R87 → V
  | .r0 r0 => .bool r0
theorem s87 (c : Case) (ks : List Int) (u : List Int) (v : List Int) : Sm 0 (g87 c ks u v) (T87 c ks u v) (n87)
  | .e => ⟨400, by kernel_rfl⟩
theorem q87 : ∀ r, bodyQ Tryz.prog Tryz.f87 (· = v87 r) (n87 r).1 (n87 r).2
  | .r0 r0 => bq (.bool r0) (by kernel_rfl)
theorem w87 (c : Case) (ks : List Int) (u : List Int) (v : List Int) {post : V → Prop} (h : WQ (T87 c ks u v) v87 post .e) : PC 87 [tint.lst u, tint.lst v, rR (court c ks)] post :=
  PCalls.wq Tryz.func87 (s87 c ks u v) q87 h
theorem c87 (c : Case) (ks a b : List Int) (h : OkCase c) (ha : OkL c a) (hb : OkL c b) : PC 87 [tint.lst a, tint.lst b, rR (court c ks)] (· = .bool (worthP c a b)) := by
  refine w87 c ks a b (WP.step ?_)
  simp only [T87, Go, Ends', v87, Tr.sure, SS]
  repeat' with_reducible first | intro _ | apply And.intro
  all_goals first | exact (c88 _ _ _ h ha) | exact (c88 _ _ _ h hb) | exact (c86 _ _) | (simp [worthP, Go, Ends', v87, -List.getD_eq_getElem?_getD, *]; done)
inductive P31
  | e
  | l0 (x0_20 : Int) (a0_1 : List (List Int))
inductive R31
  | r0 (r1 : Int)
  | r1 (r0 : List Int) (r1 : Int)
noncomputable def T31 (x : Case) : P31 → Tr P31 R31
  | .e => let c1 : V := .tuple [entP x 0, iI ((truthsE x 0).2)]; (.call 63 [.agg (cC x), fF 64] c1 true true (.br ((truthsE x 0).2 != (0 : Int)) (.out (.r0 ((truthsE x 0).2))) (.wait 2 (.vle 4 (entP x 0) (court x (caseSets x)) (.vle 9 c1 uU (.vle 11 c1 uU (.vle 12 (entP x 0) uU (.wait 1 (.own 6 26 1 (.call 82 [court x (caseSets x)] ((tlist tint).lst (someL x (caseSets x))) true true (.go (.l0 0 ([])))))))))))))
  | .l0 x0_20 a0_1 => let c2 := (someL x (caseSets x)).getD (x0_20).toNat (tlist tint).zero; let c3 := (1 : Int) * 2 ^ (min ((x.claims.length : Int)).toNat 64); let c1 := bitsOf .andNot .i64 (c3 - (1 : Int)) (setZ c2); let c4 := x0_20 < (((someL x (caseSets x)).length) : Int); let c5 := bstOf (fewer) [] a0_1.reverse; (.br (decide c4) (.need (decide (0 ≤ x0_20) && decide c4) (.front [(7, 72, [tint.lst c2], iI (setZ c2)), (9, 83, [iI c1], tint.lst (listZ c1))] [] (((decide (0 ≤ (x.claims.length : Int)) && inR .i64 c3) && ((inR .i64 (c3 - (1 : Int))) && true)) && true) true (.need ((decide (a0_1.length = a0_1.length) && decide (a0_1.length + 1 ≤ 4294967296)) && true) (.scal (fun _ => true) (.need (inR .i64 (x0_20 + (1 : Int))) (.go (.l0 (x0_20 + (1 : Int)) ((listZ c1) :: a0_1)))))))) (.wait 2 (.frz 1 ((decide (a0_1.length ≤ a0_1.length)) && true) (.vle 6 (.list 1 a0_1.length (rowsRev (tlist tint) a0_1)) ((tlist tint).lst a0_1.reverse) (.call 84 [(tlist tint).lst a0_1.reverse, fF 85] (tint.lst c5) true true (.out (.r1 c5 0)))))))
noncomputable def g31 (x : Case) : P31 → List Item × St
  | .e => bd Tryz.f31 [.agg (cC x)] 38
  | .l0 x0_20 a0_1 => (cutOf Tryz.f31 0, ⟨mk 39 [(1, .ref 0 0 0), (6, .row 1 a0_1.length), (18, (tlist tint).lst (someL x (caseSets x))), (19, iI (((someL x (caseSets x)).length) : Int)), (20, iI x0_20)], [.cells (cC x), .rows 26 1 a0_1.length (rowsRev (tlist tint) a0_1)], []⟩)
noncomputable def n31 : R31 → Exit × St
  | .r0 r1 => (.ret, ⟨mk 39 [(2, .nils), (3, iI r1)], [], []⟩)
  | .r1 r0 r1 => (.ret, ⟨mk 39 [(2, tint.lst r0), (3, iI r1)], [], []⟩)
noncomputable def v31 : R31 → V
  | .r0 r1 => .tuple [tint.lst ([] : List Int), iI r1]
  | .r1 r0 r1 => .tuple [tint.lst r0, iI r1]
theorem s31 (x : Case) : Sm 0 (g31 x) (T31 x) (n31)
  | .e => ⟨400, by kernel_rfl⟩
  | .l0 _ _ => ⟨400, by kernel_rfl⟩
theorem q31 : ∀ r, bodyQ Tryz.prog Tryz.f31 (· = v31 r) (n31 r).1 (n31 r).2
  | .r0 r1 => ⟨.inr rfl, by simp [n31], (.tuple [.nils, iI r1]), (.tuple [tint.lst ([] : List Int), iI r1]), by kernel_rfl, (.tuple rfl fun j hj => match j, hj with | 0, _ => .weak (.imm rfl) VLe.nils | 1, _ => .imm rfl), rfl⟩
  | .r1 r0 r1 => bq (.tuple [tint.lst r0, iI r1]) (by kernel_rfl)
theorem w31 (x : Case) {post : V → Prop} (h : WQ (T31 x) v31 post .e) : PC 31 [.agg (cC x)] post :=
  PCalls.wq Tryz.func31 (s31 x) q31 h
inductive P33_e
  | e
inductive R33_e
  | r0 (r1 : Int) (r2 : Int)
noncomputable def T33_e (x : Case) : P33_e → Tr P33_e R33_e
  | .e => (.call 63 [.agg (cC x), fF 64] (.tuple [.nil, iI ((truthsE x 0).2)]) true true (.br ((truthsE x 0).2 != (0 : Int)) (.out (.r0 0 ((truthsE x 0).2))) (.wait 2 .never)))
noncomputable def g33_e (x : Case) : P33_e → List Item × St
  | .e => bd Tryz.f33 [.agg (cC x)] 22
noncomputable def n33_e : R33_e → Exit × St
  | .r0 r1 r2 => (.ret, ⟨mk 23 [(2, .nils), (3, iI r1), (4, iI r2)], [], []⟩)
noncomputable def v33_e : R33_e → V
  | .r0 r1 r2 => .tuple [tint.lst ([] : List Int), iI r1, iI r2]
theorem s33_e (x : Case) : Sm 0 (g33_e x) (T33_e x) (n33_e)
  | .e => ⟨400, by kernel_rfl⟩
theorem q33_e : ∀ r, bodyQ Tryz.prog Tryz.f33 (· = v33_e r) (n33_e r).1 (n33_e r).2
  | .r0 r1 r2 => ⟨.inr rfl, by simp [n33_e], (.tuple [.nils, iI r1, iI r2]), (.tuple [tint.lst ([] : List Int), iI r1, iI r2]), by kernel_rfl, (.tuple rfl fun j hj => match j, hj with | 0, _ => .weak (.imm rfl) VLe.nils | 1, _ => .imm rfl | 2, _ => .imm rfl), rfl⟩
theorem w33_e (x : Case) {post : V → Prop} (h : WQ (T33_e x) v33_e post .e) : PC 33 [.agg (cC x)] post :=
  PCalls.wq Tryz.func33 (s33_e x) q33_e h
inductive P33_o
  | e
inductive R33_o
  | r0 (r1 : Int) (r2 : Int)
  | r1 (r0 : List Int) (r1 : Int) (r2 : Int)
noncomputable def T33_o (x : Case) : P33_o → Tr P33_o R33_o
  | .e => let c2 := caseSets x; let c1 := bstOf (worthP x) [] (someL x c2); (.call 63 [.agg (cC x), fF 64] (.tuple [court x c2, iI ((truthsE x 0).2)]) true true (.br ((truthsE x 0).2 != (0 : Int)) (.out (.r0 0 ((truthsE x 0).2))) (.wait 2 (.frz 1 (underL 0 [court x c2]) (.call 82 [court x c2] ((tlist tint).lst (someL x c2)) true true (.call 84 [(tlist tint).lst (someL x c2), fG 87 [rR (court x c2)]] (tint.lst c1) true true (.call 88 [court x c2, tint.lst c1] (iI (worth x c1)) true true (.out (.r1 c1 (worth x c1) 0)))))))))
noncomputable def g33_o (x : Case) : P33_o → List Item × St
  | .e => bd Tryz.f33 [.agg (cC x)] 22
noncomputable def n33_o : R33_o → Exit × St
  | .r0 r1 r2 => (.ret, ⟨mk 23 [(2, .nils), (3, iI r1), (4, iI r2)], [], []⟩)
  | .r1 r0 r1 r2 => (.ret, ⟨mk 23 [(2, tint.lst r0), (3, iI r1), (4, iI r2)], [], []⟩)
noncomputable def v33_o : R33_o → V
  | .r0 r1 r2 => .tuple [tint.lst ([] : List Int), iI r1, iI r2]
  | .r1 r0 r1 r2 => .tuple [tint.lst r0, iI r1, iI r2]
theorem s33_o (x : Case) : Sm 0 (g33_o x) (T33_o x) (n33_o)
  | .e => ⟨400, by kernel_rfl⟩
theorem q33_o : ∀ r, bodyQ Tryz.prog Tryz.f33 (· = v33_o r) (n33_o r).1 (n33_o r).2
  | .r0 r1 r2 => ⟨.inr rfl, by simp [n33_o], (.tuple [.nils, iI r1, iI r2]), (.tuple [tint.lst ([] : List Int), iI r1, iI r2]), by kernel_rfl, (.tuple rfl fun j hj => match j, hj with | 0, _ => .weak (.imm rfl) VLe.nils | 1, _ => .imm rfl | 2, _ => .imm rfl), rfl⟩
  | .r1 r0 r1 r2 => bq (.tuple [tint.lst r0, iI r1, iI r2]) (by kernel_rfl)
theorem w33_o (x : Case) {post : V → Prop} (h : WQ (T33_o x) v33_o post .e) : PC 33 [.agg (cC x)] post :=
  PCalls.wq Tryz.func33 (s33_o x) q33_o h
theorem c63e {x : Case} (h : (truthsE x 0).2 ≠ 0) : PC 63 [.agg (tCase.cells x), fF 64] (· = .tuple [.nil, iI (truthsE x 0).2]) := by
  have := c63f x; unfold entP at this; rwa [if_neg h] at this
theorem c63o {x : Case} (h : (truthsE x 0).2 = 0) : PC 63 [.agg (tCase.cells x), fF 64] (· = .tuple [court x (caseSets x), iI (truthsE x 0).2]) := by
  have := c63f x; unfold entP at this; rwa [if_pos h] at this
theorem listZ_in {n : Int} : ∀ i ∈ listZ n, 0 ≤ i ∧ i < 5 := fun i hi => by
  simp only [listZ, filtI, List.mem_map, List.mem_filter, List.mem_range] at hi
  obtain ⟨q, ⟨h1, _⟩, rfl⟩ := hi; omega
end
structure Strict {τ : Type} (lt : τ → τ → Bool) : Prop where
  irr : ∀ a, lt a a = false
  tr : ∀ a b c, lt a b = true → lt b c = true → lt a c = true
  tot : ∀ a b, a = b ∨ lt a b = true ∨ lt b a = true
theorem less_irr : ∀ a, less a a = false
  | [] => rfl
  | x :: a => by simp [less, less_irr a]
theorem less_tr : ∀ a b c, less a b = true → less b c = true → less a c = true
  | [], [], _, h, _ => by simp [less] at h
  | [], _ :: _, [], _, h => by simp [less] at h
  | [], _ :: _, _ :: _, _, _ => rfl
  | _ :: _, [], _, h, _ => by simp [less] at h
  | _ :: _, _ :: _, [], _, h => by simp [less] at h
  | x :: a, y :: b, z :: c, h1, h2 => by
    simp only [less] at h1 h2 ⊢
    by_cases e1 : x = y
    · subst e1
      rw [if_pos rfl] at h1
      by_cases e2 : x = z
      · rw [if_pos e2] at h2 ⊢; exact less_tr a b c h1 h2
      · rw [if_neg e2] at h2 ⊢; exact h2
    · rw [if_neg e1] at h1
      have h1 := of_decide_eq_true h1
      by_cases e2 : y = z
      · subst e2; rw [if_neg e1]; exact decide_eq_true h1
      · rw [if_neg e2] at h2
        have h2 := of_decide_eq_true h2
        rw [if_neg (by omega)]; exact decide_eq_true (by omega)
theorem less_tot : ∀ a b, a = b ∨ less a b = true ∨ less b a = true
  | [], [] => .inl rfl
  | [], _ :: _ => .inr (.inl rfl)
  | _ :: _, [] => .inr (.inr rfl)
  | x :: a, y :: b => by
    simp only [less]
    by_cases e : x = y
    · subst e
      rcases less_tot a b with h | h | h
      · exact .inl (by rw [h])
      · exact .inr (.inl (by rw [if_pos rfl]; exact h))
      · exact .inr (.inr (by rw [if_pos rfl]; exact h))
    · rcases Int.lt_or_gt_of_ne e with h | h
      · exact .inr (.inl (by rw [if_neg e]; exact decide_eq_true h))
      · exact .inr (.inr (by rw [if_neg (Ne.symm e)]; exact decide_eq_true h))
theorem fewer_strict : Strict fewer where
  irr a := by unfold fewer; rw [if_neg (by simp)]; exact less_irr a
  tr a b c h1 h2 := by
    unfold fewer at *
    by_cases e1 : a.length = b.length
    · rw [if_neg (by simp [e1])] at h1
      by_cases e2 : b.length = c.length
      · rw [if_neg (by simp [e2])] at h2
        rw [if_neg (by simp [e1, e2])]; exact less_tr a b c h1 h2
      · rw [if_pos e2] at h2; rw [if_pos (by omega)]; have := of_decide_eq_true h2; exact decide_eq_true (by omega)
    · rw [if_pos e1] at h1
      have h1 := of_decide_eq_true h1
      by_cases e2 : b.length = c.length
      · rw [if_pos (by omega)]; exact decide_eq_true (by omega)
      · rw [if_pos e2] at h2; have h2 := of_decide_eq_true h2
        rw [if_pos (by omega)]; exact decide_eq_true (by omega)
  tot a b := by
    unfold fewer
    by_cases e : a.length = b.length
    · rw [if_neg (by simp [e]), if_neg (by simp [e])]; exact less_tot a b
    · rw [if_pos e, if_pos (Ne.symm e)]
      rcases Nat.lt_or_gt_of_ne e with h | h
      · exact .inr (.inl (decide_eq_true h))
      · exact .inr (.inr (decide_eq_true h))
theorem worthP_eq (c : Case) (a b : List Int) : worthP c a b = true ↔ worth c a > worth c b ∨ (worth c a = worth c b ∧ less a b = true) := by
  unfold worthP; rw [cmpL_less, Bool.or_eq_true, Bool.and_eq_true, decide_eq_true_iff, decide_eq_true_iff]
theorem worth_strict (c : Case) : Strict (worthP c) where
  irr a := by
    rw [Bool.eq_false_iff, ne_eq, worthP_eq, less_irr]
    rintro (h | ⟨_, h⟩)
    · omega
    · cases h
  tr a b d h1 h2 := by
    rw [worthP_eq] at *
    rcases h1 with h1 | ⟨h1, l1⟩ <;> rcases h2 with h2 | ⟨h2, l2⟩
    · exact .inl (by omega)
    · exact .inl (by omega)
    · exact .inl (by omega)
    · exact .inr ⟨by omega, less_tr _ _ _ l1 l2⟩
  tot a b := by
    rw [worthP_eq, worthP_eq]
    rcases Int.lt_trichotomy (worth c a) (worth c b) with h | h | h
    · exact .inr (.inr (.inl h))
    · rcases less_tot a b with e | e | e
      · exact .inl e
      · exact .inr (.inl (.inr ⟨h, e⟩))
      · exact .inr (.inr (.inr ⟨h.symm, e⟩))
    · exact .inr (.inl (.inl h))
theorem fold_best {τ : Type} {lt : τ → τ → Bool} (h : Strict lt) : ∀ (l : List τ) (b : τ), (l.foldl (fun b y => if lt y b = true then y else b) b = b ∨ l.foldl (fun b y => if lt y b = true then y else b) b ∈ l) ∧
    (b = l.foldl (fun b y => if lt y b = true then y else b) b ∨ lt (l.foldl (fun b y => if lt y b = true then y else b) b) b = true) ∧
    ∀ y ∈ l, y = l.foldl (fun b y => if lt y b = true then y else b) b ∨ lt (l.foldl (fun b y => if lt y b = true then y else b) b) y = true
  | [], b => ⟨.inl rfl, .inl rfl, fun _ h => absurd h List.not_mem_nil⟩
  | x :: l, b => by
    rw [List.foldl_cons]
    obtain ⟨h1, h2, h3⟩ := fold_best h l (if lt x b = true then x else b)
    generalize l.foldl (fun b y => if lt y b = true then y else b) (if lt x b = true then x else b) = r at *
    by_cases e : lt x b = true
    · rw [if_pos e] at h1 h2
      refine ⟨?_, ?_, fun y hy => ?_⟩
      · rcases h1 with q | q
        · exact .inr (q ▸ List.mem_cons_self ..)
        · exact .inr (List.mem_cons_of_mem _ q)
      · rcases h2 with q | q
        · exact .inr (q ▸ e)
        · exact .inr (h.tr _ _ _ q e)
      · rcases List.mem_cons.1 hy with q | q
        · subst q; exact h2
        · exact h3 y q
    · rw [if_neg e] at h1 h2
      refine ⟨?_, h2, fun y hy => ?_⟩
      · rcases h1 with q | q
        · exact .inl q
        · exact .inr (List.mem_cons_of_mem _ q)
      · rcases List.mem_cons.1 hy with q | q
        · subst q
          rcases h.tot y b with z | z | z
          · subst z; exact h2
          · exact absurd z e
          · rcases h2 with w | w
            · exact .inr (w ▸ z)
            · exact .inr (h.tr _ _ _ w z)
        · exact h3 y q
theorem bst_best {τ : Type} {lt : τ → τ → Bool} (h : Strict lt) {d : τ} {l : List τ} (hl : l ≠ []) : bstOf lt d l ∈ l ∧ ∀ y ∈ l, y = bstOf lt d l ∨ lt (bstOf lt d l) y = true := by
  cases l with
  | nil => exact absurd rfl hl
  | cons x l =>
    obtain ⟨h1, h2, h3⟩ := fold_best h l x
    refine ⟨?_, fun y hy => ?_⟩
    · rcases h1 with q | q
      · show l.foldl _ x ∈ _
        rw [q]; exact List.mem_cons_self ..
      · exact List.mem_cons_of_mem _ q
    · rcases List.mem_cons.1 hy with q | q
      · subst q; exact h2
      · exact h3 y q
theorem best_one {τ : Type} {lt : τ → τ → Bool} (h : Strict lt) {l : List τ} {x y : τ} (hx : x ∈ l) (hy : y ∈ l) (h1 : ∀ z ∈ l, z = x ∨ lt x z = true) (h2 : ∀ z ∈ l, z = y ∨ lt y z = true) : x = y := by
  rcases h1 y hy with q | q
  · exact q.symm
  · rcases h2 x hx with z | z
    · exact z
    · have := h.tr _ _ _ q z; rw [h.irr] at this; cases this
theorem find_min {τ : Type} {lt : τ → τ → Bool} {q : τ → Bool} : ∀ {l : List τ} {x : τ}, l.Pairwise (fun a b => lt a b = true) → l.find? q = some x → q x = true ∧ x ∈ l ∧ ∀ y ∈ l, q y = true → y = x ∨ lt x y = true
  | [], _, _, h => by cases h
  | a :: l, x, hp, h => by
    rw [List.find?_cons] at h
    have hp := List.pairwise_cons.1 hp
    split at h
    · rename_i hq; cases h
      exact ⟨hq, List.mem_cons_self .., fun y hy _ => by
        rcases List.mem_cons.1 hy with z | z
        · exact .inl z
        · exact .inr (hp.1 y z)⟩
    · rename_i hq
      obtain ⟨h1, h2, h3⟩ := find_min hp.2 h
      exact ⟨h1, List.mem_cons_of_mem _ h2, fun y hy hy2 => by
        rcases List.mem_cons.1 hy with z | z
        · subst z; rw [hq] at hy2; cases hy2
        · exact h3 y z hy2⟩
theorem set_list : ∀ n : Nat, n < 32 → setZ (listZ n) = n := by decide +kernel
theorem list_in : ∀ n : Nat, n < 32 → ∀ i ∈ listZ n, 0 ≤ i ∧ i < 5 := by decide +kernel
def compOf (k : Nat) (l : List Int) : List Int := listZ (bitsOf .andNot .i64 (((2 ^ k : Nat) : Int) - 1) (setZ l))
theorem comp_list : ∀ k : Nat, k < 6 → ∀ n : Nat, n < 2 ^ k → compOf k (listZ n) = others k (listZ n) ∧ others k (others k (listZ n)) = listZ n ∧ others k (listZ n) ∈ allP k (k + 1) := by decide +kernel
theorem all_list : ∀ k : Nat, k < 6 → ∀ l ∈ allP k (k + 1), others k (listZ ((setZ (others k l)).toNat : Int)) = l ∧ (setZ (others k l)).toNat < 2 ^ k ∧ listZ ((setZ (others k l)).toNat : Int) = others k l := by decide +kernel
theorem all_last : ∀ k : Nat, k < 6 → allP k (k + 1) = allP k k ++ [others k []] ∧ others k (others k []) = [] := by decide +kernel
theorem all_asc : ∀ k : Nat, k < 6 → (allP k (k + 1)).Pairwise fun a b => fewer a b = true := by decide +kernel
theorem allQ_list : ∀ k : Nat, k < 6 → (∀ n : Nat, n < 2 ^ k → listZ n ∈ [] :: allQ k k) ∧ ∀ l ∈ [] :: allQ k k, listZ ((setZ l).toNat : Int) = l ∧ (setZ l).toNat < 2 ^ k := by decide +kernel
theorem pow_le {k : Nat} (h : k < 6) : 2 ^ k ≤ 32 := by
  rcases show k = 0 ∨ k = 1 ∨ k = 2 ∨ k = 3 ∨ k = 4 ∨ k = 5 by omega with e | e | e | e | e | e <;> subst e <;> decide
theorem someP_can {sets : List Int} (hs : ∀ x ∈ sets, 0 ≤ x ∧ x < 32) {n : Nat} (hn : n < 32) : someP sets n = can sets (listZ n) := by
  have := can_any (list_in n hn) hs
  rw [set_list n hn] at this
  exact this
theorem mem_someL {c : Case} {sets : List Int} (hs : ∀ x ∈ sets, 0 ≤ x ∧ x < 32) (hk : c.claims.length < 6) {l : List Int} : l ∈ someL c sets ↔ ∃ n : Nat, n < 2 ^ c.claims.length ∧ can sets (listZ n) = true ∧ listZ n = l := by
  unfold someL filtI
  rw [List.map_map, List.mem_map]
  have hp := pow_le hk
  constructor
  · rintro ⟨n, h1, rfl⟩
    rw [List.mem_filter, List.mem_range] at h1
    exact ⟨n, h1.1, by rw [← someP_can hs (by omega)]; exact h1.2, rfl⟩
  · rintro ⟨n, h1, h2, rfl⟩
    exact ⟨n, by rw [List.mem_filter, List.mem_range]; exact ⟨h1, by rw [someP_can hs (by omega)]; exact h2⟩, rfl⟩
theorem can_nil {sets : List Int} (h : sets ≠ []) : can sets [] = true := by
  cases sets with
  | nil => exact absurd rfl h
  | cons a l => simp [can, allZ]
theorem sets_ne {x : Case} {e : Int} (h : (truthsE x e).2 = 0) : caseSets x ≠ [] := by
  unfold truthsE at h
  split at h
  · rename_i h1; exact absurd h h1
  split at h
  · rename_i h1; exact absurd h h1
  split at h
  · cases h
  · rename_i h1; intro e; rw [e] at h1; exact h1 rfl
theorem fall_plain {x : Case} (h : (truthsE x 0).2 = 0) : bstOf fewer [] ((someL x (caseSets x)).map (compOf x.claims.length)) = (fallR x).1 := by
  have hk : x.claims.length < 6 := by have := (okOf h).1.five; omega
  have hne := sets_ne h
  have hs : ∀ y ∈ caseSets x, 0 ≤ y ∧ y < 32 := setsOk
  unfold fallR
  rw [if_neg (by simp [h])]
  simp only
  have hmem := fun l => mem_someL (c := x) (l := l) hs hk
  generalize caseSets x = S at *
  generalize someL x S = L at *
  generalize x.claims.length = k at *
  have hL : ∀ l, l ∈ L.map (compOf k) ↔ l ∈ allP k (k + 1) ∧ can S (others k l) = true := fun l => by
    rw [List.mem_map]
    constructor
    · rintro ⟨m, hm, rfl⟩
      obtain ⟨n, h1, h2, rfl⟩ := (hmem m).1 hm
      obtain ⟨e1, e2, e3⟩ := comp_list k hk n h1
      rw [e1]; exact ⟨e3, by rw [e2]; exact h2⟩
    · rintro ⟨h1, h2⟩
      obtain ⟨e1, e2, e3⟩ := all_list k hk l h1
      exact ⟨others k l, (hmem _).2 ⟨_, e2, by rw [e3]; exact h2, e3⟩, by rw [← e3, (comp_list k hk _ e2).1, e1]⟩
  obtain ⟨a1, a2⟩ := all_last k hk
  have hlast : others k [] ∈ L.map (compOf k) := (hL _).2 ⟨by rw [a1]; exact List.mem_append_right _ (List.mem_singleton.2 rfl), by rw [a2]; exact can_nil hne⟩
  have hb := bst_best fewer_strict (d := []) (l := L.map (compOf k)) fun e => by rw [e] at hlast; cases hlast
  have hf : ∃ m, (allP k (k + 1)).find? (fun l => can S (others k l)) = some m ∧ m = (match (allP k k).find? (fun l => can S (others k l)) with | some l => l | none => others k []) := by
    rw [a1, List.find?_append]
    cases (allP k k).find? (fun l => can S (others k l)) with
    | some l => exact ⟨l, rfl, rfl⟩
    | none => exact ⟨others k [], by simp [a2, can_nil hne], rfl⟩
  obtain ⟨m, hm, hm2⟩ := hf
  refine Eq.trans ?_ hm2
  obtain ⟨m1, m2, m3⟩ := find_min (lt := fewer) (all_asc k hk) hm
  exact best_one fewer_strict hb.1 ((hL m).2 ⟨m2, m1⟩) hb.2 fun z hz => m3 z ((hL z).1 hz).1 ((hL z).1 hz).2
theorem better_fold (c : Case) (S : List Int) : ∀ (l : List (List Int)) (b : List Int), l.foldl (better c S) b = (l.filter (can S)).foldl (fun b y => if worthP c y b = true then y else b) b
  | [], _ => rfl
  | x :: l, b => by
    rw [List.foldl_cons, List.filter_cons, better_fold c S l]
    have e : ∀ q : Prop, (worth c x - worth c b > 0 ∨ (worth c x - worth c b = 0 ∧ less x b = true)) ↔ worthP c x b = true := fun _ => by
      rw [worthP_eq]
      constructor
      · rintro (h | ⟨h, h2⟩)
        · exact .inl (by omega)
        · exact .inr ⟨by omega, h2⟩
      · rintro (h | ⟨h, h2⟩)
        · exact .inl (by omega)
        · exact .inr ⟨by omega, h2⟩
    have e := e True
    unfold better
    by_cases hc : can S x = true
    · rw [if_pos hc, List.foldl_cons]
      congr 1
      by_cases hw : worthP c x b = true
      · rw [if_pos ⟨hc, e.2 hw⟩, if_pos hw]
      · rw [if_neg (fun h => hw (e.1 h.2)), if_neg hw]
    · rw [if_neg hc, if_neg fun h => hc h.1]
theorem most_plain {x : Case} (h : (truthsE x 0).2 = 0) : bstOf (worthP x) [] (someL x (caseSets x)) = bestR x (caseSets x) x.claims.length := by
  have hk : x.claims.length < 6 := by have := (okOf h).1.five; omega
  have hne := sets_ne h
  have hs : ∀ y ∈ caseSets x, 0 ≤ y ∧ y < 32 := setsOk
  have hmem := fun l => mem_someL (c := x) (l := l) hs hk
  unfold bestR
  rw [better_fold]
  generalize caseSets x = S at *
  generalize someL x S = L at *
  generalize x.claims.length = k at *
  obtain ⟨q1, q2⟩ := allQ_list k hk
  have hcn := can_nil hne
  have hL : ∀ l, l ∈ L ↔ l ∈ [] :: (allQ k k).filter (can S) := fun l => by
    rw [hmem, List.mem_cons, List.mem_filter]
    constructor
    · rintro ⟨n, h1, h2, rfl⟩
      rcases List.mem_cons.1 (q1 n h1) with z | z
      · exact .inl z
      · exact .inr ⟨z, h2⟩
    · rintro (rfl | ⟨h1, h2⟩)
      · obtain ⟨e1, e2⟩ := q2 [] (List.mem_cons_self ..)
        exact ⟨_, e2, by rw [e1]; exact hcn, e1⟩
      · obtain ⟨e1, e2⟩ := q2 l (List.mem_cons_of_mem _ h1)
        exact ⟨_, e2, by rw [e1]; exact h2, e1⟩
  have h0 : [] ∈ L := (hL []).2 (List.mem_cons_self ..)
  have hb := bst_best (worth_strict x) (d := []) (l := L) fun e => by rw [e] at h0; cases h0
  have hb2 := bst_best (worth_strict x) (d := []) (l := [] :: (allQ k k).filter (can S)) (by simp)
  exact best_one (worth_strict x) hb.1 ((hL _).2 hb2.1) hb.2 fun z hz => hb2.2 z ((hL z).1 hz)
noncomputable section
theorem comp_in : ∀ k : Nat, k < 6 → ∀ n : Nat, n < 32 → 0 ≤ bitsOf .andNot .i64 (((2 ^ k : Nat) : Int) - 1) (n : Int) ∧ bitsOf .andNot .i64 (((2 ^ k : Nat) : Int) - 1) (n : Int) < 32 := by decide +kernel
theorem in_small {N : Nat} (h : N ≤ 32) : inR .i64 (N : Int) = true := inR64 (by omega) (by omega)
theorem in_small1 {N : Nat} (h : N ≤ 32) : inR .i64 ((N : Int) - 1) = true := inR64 (by omega) (by omega)
theorem under_court (x : Case) (l : List Int) : underL 0 [court x l] = true := rfl
theorem c31 (x : Case) : PC 31 [.agg (tCase.cells x)] (· = .tuple [tint.lst (fallR x).1, iI (fallR x).2]) := by
  by_cases h : (truthsE x 0).2 = 0
  · have hok := (okOf h).1
    have h5 := hok.five
    have hk : x.claims.length < 6 := by omega
    obtain ⟨hN, hN2⟩ := two_k h5
    rw [Int.toNat_natCast] at hN
    have hf : fallR x = ((fallR x).1, 0) := by unfold fallR; rw [if_neg (by simp [h])]
    have hp := fall_plain h
    rw [hf, ← hp]
    clear hf hp
    have hmem := fun l => mem_someL (c := x) (l := l) (setsOk (x := x)) hk
    have hNr := in_small hN2
    have hNr1 := in_small1 hN2
    have hnum : ∀ l ∈ someL x (caseSets x), (∀ n ∈ l, 0 ≤ n ∧ n < 5) ∧ 0 ≤ bitsOf .andNot .i64 (((2 ^ x.claims.length : Nat) : Int) - 1) (setZ l) ∧ bitsOf .andNot .i64 (((2 ^ x.claims.length : Nat) : Int) - 1) (setZ l) < 32 := fun l hl => by
      obtain ⟨n, h1, _, rfl⟩ := (hmem l).1 hl
      refine ⟨listZ_in, ?_⟩
      rw [set_list n (by omega)]; exact comp_in _ hk n (by omega)
    have hlen : (someL x (caseSets x)).length ≤ 32 := by unfold someL; rw [List.length_map]; exact Nat.le_trans (filtI_len _ _) hN2
    have h82 := c82 x (caseSets x) hok
    generalize hL : someL x (caseSets x) = L at *
    refine w31 x (WP.step ?_)
    simp only [T31, Go, Ends', v31, Tr.sure, SS, hL]
    repeat' with_reducible first | intro _ | apply And.intro
    all_goals first | exact (c63f x) | exact (VLe.undef _) | exact (entP_le (by with_reducible assumption)) | exact h82 | (simp_all [Go, Ends', v31, -List.getD_eq_getElem?_getD]; done) | skip
    refine WP.run (fun (i : Nat) => .l0 i ((L.take i).map (compOf x.claims.length)).reverse) rfl L.length (fun i hi => ?_) ?_
    · have hr : inR .i64 ((i : Int) + 1) = true := inR64 (by omega) (by omega)
      have hi' : (i : Int) < L.length := by omega
      have hz : (tlist tint).zero = ([] : List Int) := rfl
      have hm := hnum _ (getD_mem [] L i hi)
      have hle : ((L.take i).map (compOf x.claims.length)).reverse.length + 1 ≤ 4294967296 := by rw [List.length_reverse, List.length_map, List.length_take]; omega
      have hn : ((L.take (i + 1)).map (compOf x.claims.length)).reverse = compOf x.claims.length (L.getD i []) :: ((L.take i).map (compOf x.claims.length)).reverse := by
        rw [take_snoc [] L i hi, List.map_append, List.reverse_append]; rfl
      have e : compOf x.claims.length (L.getD i []) = listZ (bitsOf .andNot .i64 (((2 ^ x.claims.length : Nat) : Int) - 1) (setZ (L.getD i []))) := rfl
      rw [hn, e]
      generalize ((L.take i).map (compOf x.claims.length)).reverse = A at *
      refine WP.once ?_
      simp only [T31, Tr.sure, SS, hi', hi, hz, hL, hN]
      repeat' with_reducible first | intro _ | apply And.intro
      all_goals first | exact (c72 _ hm.1) | exact (c83 _ hm.2) | (simp [hr, hle, hNr, hNr1, Go, Ends', v31, -List.getD_eq_getElem?_getD, *]; done) | (simp_all [hr, hle, hNr, hNr1, Go, Ends', v31, -List.getD_eq_getElem?_getD]; done)
    · rw [List.take_length]
      have h84 := c84 (p := fewer) (ok := fun _ => True) (L.map (compOf x.claims.length)) (fun a b _ _ => c85 a b) (fun _ _ => trivial) trivial
      refine WP.step ?_
      simp only [T31, Go, Ends', v31, Tr.sure, SS, hL, List.reverse_reverse]
      repeat' with_reducible first | intro _ | apply And.intro
      all_goals first | exact (VLe.rr (tlist tint) _) | exact h84 | (simp [Go, Ends', v31, -List.getD_eq_getElem?_getD, *]; done)
  · have hf : fallR x = ([], (truthsE x 0).2) := by unfold fallR; rw [if_pos h]
    refine w31 x (WP.step ?_)
    simp only [T31, Go, Ends', v31, Tr.sure, SS]
    repeat' with_reducible first | intro _ | apply And.intro
    all_goals first | exact (c63f x) | exact (VLe.undef _) | exact (entP_le (by with_reducible assumption)) | (simp [hf, Go, Ends', v31, -List.getD_eq_getElem?_getD, *]; done) | (simp_all [hf, Go, Ends', v31, -List.getD_eq_getElem?_getD]; done)
theorem c33 (x : Case) : PC 33 [.agg (tCase.cells x)] (· = .tuple [tint.lst (mostR x).1, iI (mostR x).2.1, iI (mostR x).2.2]) := by
  by_cases h : (truthsE x 0).2 = 0
  · have hok := (okOf h).1
    have h5 := hok.five
    have hk : x.claims.length < 6 := by omega
    have hN2 := pow_le hk
    have hf : mostR x = (bestR x (caseSets x) x.claims.length, worth x (bestR x (caseSets x) x.claims.length), 0) := by unfold mostR; rw [if_neg (by simp [h])]
    have hmem := fun l => mem_someL (c := x) (l := l) (setsOk (x := x)) hk
    have hb : OkL x (bestR x (caseSets x) x.claims.length) := okL_best (by omega)
    rw [hf, ← most_plain h]
    rw [← most_plain h] at hb
    have hq := allQ_list x.claims.length hk
    have hok2 : ∀ l ∈ someL x (caseSets x), OkL x l := fun l hl => by
      obtain ⟨n, h1, _, rfl⟩ := (hmem l).1 hl
      rcases List.mem_cons.1 (hq.1 n h1) with q | q
      · rw [q]; exact ⟨by simp, by simp⟩
      · simp only [allQ, List.mem_flatMap, List.mem_range] at q
        obtain ⟨m, h1, h2⟩ := q
        exact okL_picks (by omega) _ h2
    have h84 := c84c (c := x) (ks := caseSets x) (p := worthP x) (ok := OkL x) (someL x (caseSets x)) (fun a b ha hb => c87 x (caseSets x) a b hok ha hb) hok2 ⟨by simp, by simp⟩
    refine w33_o x (WP.step ?_)
    simp only [T33_o, Go, Ends', v33_o, Tr.sure, SS]
    repeat' with_reducible first | intro _ | apply And.intro
    all_goals first | exact (c63o h) | exact (c82 x _ hok) | exact h84 | exact (c88 _ _ _ hok hb) | exact (by with_reducible exact under_court _ _) | (simp_all [h, Go, Ends', v33_o, -List.getD_eq_getElem?_getD]; done)
  · have hf : mostR x = ([], 0, (truthsE x 0).2) := by unfold mostR; rw [if_pos h]
    refine w33_e x (WP.step ?_)
    simp only [T33_e, Go, Ends', v33_e, Tr.sure, SS]
    repeat' with_reducible first | intro _ | apply And.intro
    all_goals first | exact (c63e h) | (simp [hf, h, Go, Ends', v33_e, -List.getD_eq_getElem?_getD, *]; done) | (simp_all [hf, h, Go, Ends', v33_e, -List.getD_eq_getElem?_getD]; done)
end
noncomputable section
def clrL (l : List Int) (a m : Nat) : List Int := l.take a ++ List.replicate m 0
inductive P76
  | e
  | l0 (x0_5 : Int) (x0_6 : Int) (a0_3 : List Int)
inductive R76
  | r0 (r0 : Int) (r1 : List Mould) (r2 : List Head) (r3 : List Int) (r4 : List Claim) (r5 : Int) (r6 : List Int)
  | r1 (r0 : Int) (r1 : List Mould) (r2 : List Head) (r3 : List Int) (r4 : List Claim) (r5 : Int) (r6 : List Int) (r7 : Nat)
noncomputable def T76 (g : Nat) (x : Case) (n : Int) (l : List Int) (p : Int → Bool) : P76 → Tr P76 R76
  | .e => let c1 := place (firstI p 0 l); (.call 136 [tint.lst l, .func (.func g) [] [rR (iI n)]] (iI c1) ((decide (l.length ≤ l.length)) && true) true (.br (c1 == (-1)) (.out (.r0 x.shop.features x.shop.moulds x.shop.heads x.owners x.claims n l)) (.need (inR .i64 (c1 + (1 : Int))) (.go (.l0 c1 (c1 + (1 : Int)) l)))))
  | .l0 x0_5 x0_6 a0_3 => let c1 := a0_3.getD (x0_6).toNat tint.zero; let c2 := (l.length : Int); let c3 := (x0_5).toNat; let c4 := l.length ≤ l.length; let c5 := (c2).toNat - (x0_5).toNat; let c6 := x0_6 + (1 : Int); let c7 := ([iI c1] : List V); (.br (decide (x0_6 < c2)) (.need ((decide (0 ≤ x0_6) && decide (x0_6 < c2)) && decide c4) (.need (decide ((x0_6).toNat < l.length) && decide (0 < 1)) (.call g [iI c1, rR (iI n)] (.bool (p c1)) true true (.br (!(p c1)) (.need ((decide (0 ≤ x0_5) && decide (x0_5 < c2)) && decide c4) (.need ((decide ((x0_5).toNat < l.length) && decide (0 + c7.length ≤ 1)) && underL 0 c7) (.telb 3 1 l.length (fun r' j => if r' = (x0_5).toNat ∧ 0 ≤ j ∧ j < 0 + c7.length then c7.getD (j - 0) uU else (rowsOf tint a0_3) r' j) (rowsOf tint (a0_3.set c3 c1)) (.need (inR .i64 (x0_5 + (1 : Int))) (.need (inR .i64 c6) (.go (.l0 (x0_5 + (1 : Int)) c6 (a0_3.set c3 c1)))))))) (.need (inR .i64 c6) (.go (.l0 x0_5 c6 a0_3))))))) (.need (((decide (0 ≤ x0_5) && decide (x0_5 ≤ c2)) && decide (c2 ≤ c2)) && decide c4) (.sem (opAt Tryz.f76 11 3) [(.tmp 38, .sub 3 c3 0 1 c5)] [.cells (cC x), .cells [iI n], .gone, .rows 3 1 l.length (rowsOf tint a0_3)] (.tuple []) [.cells (cC x), .cells [iI n], .gone, .rows 3 1 l.length (rowsOf tint (clrL a0_3 c3 c5))] true (.need (((decide (0 ≤ (0 : Int)) && decide ((0 : Int) ≤ x0_5)) && decide (x0_5 ≤ c2)) && decide c4) (.out (.r1 x.shop.features x.shop.moulds x.shop.heads x.owners x.claims n (clrL a0_3 c3 c5) c3))))))
noncomputable def g76 (g : Nat) (x : Case) (n : Int) (l : List Int) (p : Int → Bool) : P76 → List Item × St
  | .e => ([.code (Tryz.f76.body.getD .skip)], ⟨[.row 3 l.length, .func (.func g) [] [.ref 1 0 0]] ++ List.replicate 40 uU, [.cells (cC x), .cells [iI n], .gone, .rows 3 1 l.length (rowsOf tint l)], []⟩)
  | .l0 x0_5 x0_6 a0_3 => (cutOf Tryz.f76 0, ⟨mk 42 [(0, .row 3 l.length), (1, .func (.func g) [] [.ref 1 0 0]), (5, iI x0_5), (6, iI x0_6)], [.cells (cC x), .cells [iI n], .gone, .rows 3 1 l.length (rowsOf tint a0_3)], []⟩)
noncomputable def n76 (g : Nat) (x : Case) (n : Int) (l : List Int) (p : Int → Bool) : R76 → Exit × St
  | .r0 r0 r1 r2 r3 r4 r5 r6 => (.ret, ⟨mk 42 [(4, .row 3 l.length)], [.cells [iI r0, tMould.lst r1, tHead.lst r2, tint.lst r3, tClaim.lst r4], .cells [iI r5], .gone, .rows 3 1 r6.length (rowsOf tint r6)], []⟩)
  | .r1 r0 r1 r2 r3 r4 r5 r6 r7 => (.ret, ⟨mk 42 [(4, .row 3 r7)], [.cells [iI r0, tMould.lst r1, tHead.lst r2, tint.lst r3, tClaim.lst r4], .cells [iI r5], .gone, .rows 3 1 l.length (rowsOf tint r6)], []⟩)
theorem s76 (g : Nat) (x : Case) (n : Int) (l : List Int) (p : Int → Bool) : Sm 4 (g76 g x n l p) (T76 g x n l p) (n76 g x n l p)
  | .e => ⟨400, by kernel_rfl⟩
  | .l0 _ _ _ => ⟨400, by kernel_rfl⟩
noncomputable def hh76 (g : Nat) (x : Case) (n : Int) (l : List Int) (p : Int → Bool) : R76 → List Blk
  | .r0 r0 r1 r2 r3 r4 r5 r6 => [.cells [iI r0, tMould.lst r1, tHead.lst r2, tint.lst r3, tClaim.lst r4], .cells [iI r5], .gone, .rows 3 1 r6.length (rowsOf tint r6)]
  | .r1 r0 r1 r2 r3 r4 r5 r6 r7 => [.cells [iI r0, tMould.lst r1, tHead.lst r2, tint.lst r3, tClaim.lst r4], .cells [iI r5], .gone, .rows 3 1 l.length (rowsOf tint r6)]
noncomputable def v76 (g : Nat) (x : Case) (n : Int) (l : List Int) (p : Int → Bool) : R76 → V
  | .r0 r0 r1 r2 r3 r4 r5 r6 => .row 3 l.length
  | .r1 r0 r1 r2 r3 r4 r5 r6 r7 => .row 3 r7
theorem q76 (g : Nat) (x : Case) (n : Int) (l : List Int) (p : Int → Bool) : ∀ r, ((n76 g x n l p r).1 = .normal ∨ (n76 g x n l p r).1 = .ret) ∧ (n76 g x n l p r).2.d = [] ∧ (n76 g x n l p r).2.h = hh76 g x n l p r ∧ resultV Tryz.prog Tryz.f76 (n76 g x n l p r).2 = some (v76 g x n l p r)
  | .r0 r0 r1 r2 r3 r4 r5 r6 => ⟨.inr rfl, rfl, rfl, by kernel_rfl⟩
  | .r1 r0 r1 r2 r3 r4 r5 r6 r7 => ⟨.inr rfl, rfl, rfl, by kernel_rfl⟩
theorem w76 (g : Nat) (x : Case) (n : Int) (l : List Int) (p : Int → Bool) {V0 : V} {h' : List Blk} (h : WP Tryz.prog ⟨none, 4⟩ (T76 g x n l p) (Ends' fun r => v76 g x n l p r = V0 ∧ hh76 g x n l p r = h') .e) : HCalls Tryz.prog 76 [.row 3 l.length, .func (.func g) [] [.ref 1 0 0]] V0 [.cells (cC x), .cells [iI n], .gone, .rows 3 1 l.length (rowsOf tint l)] h' :=
  HCalls.wp mx Tryz.func76 (by kernel_rfl) (by kernel_rfl) (T76 g x n l p) (g76 g x n l p) (n76 g x n l p) .e rfl (s76 g x n l p) h fun r hr => by rw [← hr.1, ← hr.2]; exact q76 g x n l p r
theorem firstI_split {p : Int → Bool} : ∀ (l : List Int) (k : Nat), (firstI p k l = none ∧ ∀ q ∈ l, p q = false) ∨ ∃ i, firstI p k l = some (k + i) ∧ i < l.length ∧ p (l.getD i 0) = true ∧ ∀ q ∈ l.take i, p q = false
  | [], _ => .inl ⟨rfl, fun _ h => absurd h List.not_mem_nil⟩
  | y :: l, k => by
    cases hy : p y with
    | true => exact .inr ⟨0, by simp [firstI, hy], by simp, by simpa using hy, by simp⟩
    | false =>
      rcases firstI_split (p := p) l (k + 1) with ⟨h1, h2⟩ | ⟨i, h1, h2, h3, h4⟩
      · refine .inl ⟨by simp [firstI, hy, h1], fun q hq => ?_⟩
        rcases List.mem_cons.1 hq with z | z
        · subst z; exact hy
        · exact h2 q z
      · refine .inr ⟨i + 1, by simp only [firstI, hy, Bool.false_eq_true, if_false, h1]; congr 1; omega, by simp; omega, by simpa using h3, fun q hq => ?_⟩
        rw [List.take_succ_cons] at hq
        rcases List.mem_cons.1 hq with z | z
        · subst z; exact hy
        · exact h4 q z
structure Thin (p : Int → Bool) (l : List Int) (i j : Nat) (cur : List Int) : Prop where
  len : cur.length = l.length
  le : i ≤ j
  jl : j ≤ l.length
  got : cur.take i = (l.take j).filter fun v => !p v
  num : i = ((l.take j).filter fun v => !p v).length
  rest : ∀ q, j ≤ q → cur.getD q 0 = l.getD q 0
theorem Thin.first {p : Int → Bool} {l : List Int} {i : Nat} (h1 : i < l.length) (h2 : p (l.getD i 0) = true) (h3 : ∀ q ∈ l.take i, p q = false) : Thin p l i (i + 1) l := by
  have e : (l.take (i + 1)).filter (fun v => !p v) = l.take i := by
    rw [take_snoc 0 l i h1, List.filter_append]
    have : (l.take i).filter (fun v => !p v) = l.take i := List.filter_eq_self.2 fun q hq => by simp [h3 q hq]
    rw [this, List.filter_cons, h2]; simp
  exact ⟨rfl, by omega, by omega, by rw [e], by rw [e, List.length_take]; omega, fun _ _ => rfl⟩
theorem Thin.keep {p : Int → Bool} {l : List Int} {i j : Nat} {cur : List Int} (h : Thin p l i j cur) (hj : j < l.length) (hp : p (l.getD j 0) = false) : Thin p l (i + 1) (j + 1) (cur.set i (l.getD j 0)) := by
  obtain ⟨a1, a2, a3, a4, a5, a6⟩ := h
  have e : (l.take (j + 1)).filter (fun v => !p v) = (l.take j).filter (fun v => !p v) ++ [l.getD j 0] := by
    rw [take_snoc 0 l j hj, List.filter_append]
    have : [l.getD j 0].filter (fun v => !p v) = [l.getD j 0] := by rw [List.filter_cons, hp]; simp
    rw [this]
  refine ⟨by simp [a1], by omega, by omega, ?_, by rw [e, List.length_append, ← a5]; rfl, fun q hq => ?_⟩
  · have hc : i < (cur.set i (l.getD j 0)).length := by rw [List.length_set]; omega
    rw [e, take_snoc 0 _ i hc, ← a4]
    congr 1
    · rw [List.take_set]
      apply List.set_eq_of_length_le; rw [List.length_take]; omega
    · have hi' : i < cur.length := by omega
      rw [List.getD_eq_getElem?_getD, List.getElem?_set_self hi']; rfl
  · rw [List.getD_eq_getElem?_getD, List.getElem?_set_ne (by omega), ← List.getD_eq_getElem?_getD]; exact a6 q (by omega)
theorem Thin.drop {p : Int → Bool} {l : List Int} {i j : Nat} {cur : List Int} (h : Thin p l i j cur) (hj : j < l.length) (hp : p (l.getD j 0) = true) : Thin p l i (j + 1) cur := by
  obtain ⟨a1, a2, a3, a4, a5, a6⟩ := h
  have e : (l.take (j + 1)).filter (fun v => !p v) = (l.take j).filter (fun v => !p v) := by
    rw [take_snoc 0 l j hj, List.filter_append]; simp only [List.filter_cons, hp, Bool.not_true, Bool.false_eq_true, if_false, List.filter_nil, List.append_nil]
  exact ⟨a1, by omega, by omega, by rw [e]; exact a4, by rw [e]; exact a5, fun q hq => a6 q (by omega)⟩
theorem sem_clr76 (h : List Blk) (cur : List Int) (i m N : Nat) (hi : h[3]? = some (.rows 3 1 N (rowsOf tint cur))) (hN : cur.length = N) (hm : i + m = N) : SemOK Tryz.prog (opAt Tryz.f76 11 3) [(.tmp 38, .sub 3 i 0 1 m)] h (.tuple []) (h.set 3 (.rows 3 1 N (rowsOf tint (clrL cur i m)))) := by
  have e : opAt Tryz.f76 11 3 = .call { callee := .builtin .clear, args := #[.tmp 38], argTypes := #[26] } := by kernel_rfl
  rw [e]
  refine sem_clear (e := 3) (z := .int .i64 0) (zv := .int .i64 0) (by kernel_rfl) Tryz.zeroValue3 rfl rfl (fun _ _ => .int _ _) hi (by omega) fun q hq => ?_
  show V.int .i64 ((clrL cur i m).getD q 0) = _
  unfold clrL
  by_cases z : i ≤ q ∧ q < i + m
  · rw [if_pos z]
    rw [getD_append_right (by rw [List.length_take]; omega), List.getD_eq_getElem?_getD, List.getElem?_replicate]
    split <;> rfl
  · rw [if_neg z, getD_append_left (by rw [List.length_take]; omega), List.getD_eq_getElem?_getD, List.getElem?_take_of_lt (by omega)]
    show _ = V.int .i64 (cur.getD q 0)
    rw [List.getD_eq_getElem?_getD]
theorem tel_set1 (cur : List Int) (i : Nat) (v : Int) {n r j : Nat} (hr : r < n) (hj : j < 1) (hn : cur.length = n) :
    VLe (if r = i ∧ 0 ≤ j ∧ j < 0 + ([V.int .i64 v] : List V).length then ([V.int .i64 v] : List V).getD (j - 0) uU else rowsOf tint cur r j) (rowsOf tint (cur.set i v) r j) := by
  obtain rfl : j = 0 := by omega
  by_cases e : r = i
  · subst e
    rw [if_pos ⟨rfl, Nat.le_refl _, by show 0 < 0 + 1; omega⟩]
    show VLe (V.int .i64 v) (V.int .i64 ((cur.set r v).getD r 0))
    rw [List.getD_eq_getElem?_getD, List.getElem?_set_self (by omega)]; exact VLe.refl _
  · rw [if_neg (fun h => e h.1)]
    show VLe (V.int .i64 (cur.getD r 0)) (V.int .i64 ((cur.set i v).getD r 0))
    rw [List.getD_eq_getElem?_getD, List.getD_eq_getElem?_getD, List.getElem?_set_ne (Ne.symm e)]; exact VLe.refl _
theorem under_int (v : Int) : underL 0 [V.int .i64 v] = true := rfl
abbrev H76 (x : Case) (n : Int) (N : Nat) (l : List Int) : List Blk := [.cells (tCase.cells x), .cells [iI n], .gone, .rows 3 1 N (rowsOf tint l)]
set_option maxHeartbeats 1000000 in
theorem c76 {g : Nat} (x : Case) (n : Int) (l : List Int) {p : Int → Bool} {ok : Int → Prop} (hg : Asks1 g n p ok) (hok : ∀ v ∈ l, ok v) (hl : l.length ≤ 1000) :
    HCalls Tryz.prog 76 [.row 3 l.length, .func (.func g) [] [.ref 1 0 0]] (.row 3 (l.filter fun v => !p v).length) (H76 x n l.length l) (H76 x n l.length (padZ (l.filter fun v => !p v) l.length)) := by
  have h136 := c136_1 l hg hok
  rcases firstI_split (p := p) l 0 with ⟨h1, h2⟩ | ⟨i, h1, h2, h3, h4⟩
  · have hf : l.filter (fun v => !p v) = l := List.filter_eq_self.2 fun q hq => by simp [h2 q hq]
    have hpad : padZ l l.length = l := by simp [padZ]
    rw [hf, hpad]
    refine w76 g x n l p (WP.step ?_)
    simp only [T76, Go, Ends', v76, Tr.sure, SS]
    repeat' with_reducible first | intro _ | apply And.intro
    all_goals first | exact h136 | (simp [h1, place, hh76, Go, Ends', v76, -List.getD_eq_getElem?_getD, *]; done) | (simp_all [h1, place, hh76, Go, Ends', v76, -List.getD_eq_getElem?_getD]; done) | skip
    all_goals first
      | rfl
  · rw [Nat.zero_add] at h1
    have hpl : place (firstI p 0 l) = i := by rw [h1]; rfl
    have hne : ¬ (i : Int) = -1 := by omega
    have hr0 : inR .i64 ((i : Int) + 1) = true := inR64 (by omega) (by omega)
    have main : ∀ i j cur, Thin p l i j cur → WP Tryz.prog ⟨none, 4⟩ (T76 g x n l p) (Ends' fun r => v76 g x n l p r = .row 3 (l.filter fun v => !p v).length ∧ hh76 g x n l p r = H76 x n l.length (padZ (l.filter fun v => !p v) l.length)) (.l0 (i : Int) (j : Int) cur) := fun i j cur ht => by
      refine WP.while (T := T76 g x n l p) (σ := Nat × Nat × List Int) (fun s => .l0 (s.1 : Int) (s.2.1 : Int) s.2.2) (fun s => Thin p l s.1 s.2.1 s.2.2) (fun s => l.length - s.2.1) (fun s ht => ?_) (s := (i, j, cur)) ht
      obtain ⟨i, j, cur⟩ := s
      simp only at ht ⊢
      have ht2 := ht
      obtain ⟨a1, a2, a3, a4, a5, a6⟩ := ht2
      have hr1 : inR .i64 ((i : Int) + 1) = true := inR64 (by omega) (by omega)
      have hr2 : inR .i64 ((j : Int) + 1) = true := inR64 (by omega) (by omega)
      have hz : tint.zero = 0 := rfl
      by_cases hj : j < l.length
      · have hv := a6 j (Nat.le_refl _)
        have hgv := hg _ (hok _ (getD_mem 0 l j hj))
        have hj' : (j : Int) < l.length := by omega
        have hi' : (i : Int) < l.length := by omega
        have hi2 : i < l.length := by omega
        cases hp : p (l.getD j 0) with
        | true =>
          have hd := ht.drop hj hp
          rw [hp] at hgv
          refine WP.once ?_
          simp only [T76, Tr.sure, SS, hj', hi', hi2, hz, hv]
          repeat' with_reducible first | intro _ | apply And.intro
          all_goals first | (simp [hr1, hr2, hp, Go, Ends', v76, -List.getD_eq_getElem?_getD, *]; done) | (simp_all [hr1, hr2, hp, Go, Ends', v76, -List.getD_eq_getElem?_getD]; done) | skip
          all_goals exact .inl ⟨(i, j + 1, cur), rfl, hd, by show l.length - (j + 1) < l.length - j; omega⟩
        | false =>
          have hd := ht.keep hj hp
          rw [hp] at hgv
          refine WP.once ?_
          simp only [T76, Tr.sure, SS, hj', hi', hi2, hz, hv]
          repeat' with_reducible first | intro _ | apply And.intro
          all_goals first | exact (by with_reducible exact under_int _) | exact (tel_set1 _ _ _ (by with_reducible assumption) (by with_reducible assumption) a1) | (simp [hr1, hr2, hp, Go, Ends', v76, -List.getD_eq_getElem?_getD, *]; done) | (simp_all [hr1, hr2, hp, Go, Ends', v76, -List.getD_eq_getElem?_getD]; done) | skip
          all_goals exact .inl ⟨(i + 1, j + 1, cur.set i (l.getD j 0)), rfl, hd, by show l.length - (j + 1) < l.length - j; omega⟩
      · have hjl : j = l.length := by omega
        subst hjl
        rw [List.take_length] at a4 a5
        refine WP.once ?_
        simp only [T76, Tr.sure, SS, Int.lt_irrefl]
        repeat' with_reducible first | intro _ | apply And.intro
        all_goals first | exact (sem_clr76 _ cur i (l.length - i) l.length rfl a1 (by omega)) | (simp [Go, Ends', v76, -List.getD_eq_getElem?_getD, *]; done) | (simp_all [Go, Ends', v76, -List.getD_eq_getElem?_getD]; done) | skip
        all_goals
          refine .inr ⟨?_, ?_⟩
          · show V.row 3 i = _
            rw [a5]
          · show [_, _, _, Blk.rows 3 1 l.length (rowsOf tint (clrL cur i (l.length - i)))] = _
            have : clrL cur i (l.length - i) = padZ (l.filter fun v => !p v) l.length := by unfold clrL padZ; rw [a4, ← a5]
            rw [this]; rfl
    refine w76 g x n l p (WP.step ?_)
    simp only [T76, Go, Ends', v76, Tr.sure, SS, hpl]
    repeat' with_reducible first | intro _ | apply And.intro
    all_goals first | exact (main i (i + 1) l (Thin.first h2 h3 h4)) | (simp [hpl, hne, hr0, Go, Ends', v76, -List.getD_eq_getElem?_getD, *]; done) | (simp_all [hpl, hne, hr0, Go, Ends', v76, -List.getD_eq_getElem?_getD]; done)
inductive P78
  | e
inductive R78
  | r0 (r0 : Bool)
noncomputable def T78 (v : Int) (n : Int) : P78 → Tr P78 R78
  | .e => (.out (.r0 ((bitsOf .and .i64 v n) != n)))
noncomputable def g78 (v : Int) (n : Int) : P78 → List Item × St
  | .e => bd Tryz.f78 [iI v, rR (iI n)] 7
noncomputable def n78 : R78 → Exit × St
  | .r0 r0 => (.ret, ⟨mk 9 [(3, .bool r0)], [], []⟩)
noncomputable def v78 : R78 → V
  | .r0 r0 => .bool r0
theorem s78 (v : Int) (n : Int) : Sm 0 (g78 v n) (T78 v n) (n78)
  | .e => ⟨400, by kernel_rfl⟩
theorem q78 : ∀ r, bodyQ Tryz.prog Tryz.f78 (· = v78 r) (n78 r).1 (n78 r).2
  | .r0 r0 => bq (.bool r0) (by kernel_rfl)
theorem w78 (v : Int) (n : Int) {post : V → Prop} (h : WQ (T78 v n) v78 post .e) : PC 78 [iI v, rR (iI n)] post :=
  PCalls.wq Tryz.func78 (s78 v n) q78 h
theorem c78 (n : Int) : Asks1 78 n (fun v => bitsOf .and .i64 v n != n) fun _ => True := fun v _ => by
  refine w78 v n (WP.step ?_)
  simp only [T78, Go, Ends', v78, Tr.sure, SS]
  repeat' with_reducible first | intro _ | apply And.intro
inductive P29
  | e
inductive R29
  | r0 (r1 : Int)
  | r1 (r0 : List Int) (r1 : Int)
noncomputable def T29 (x : Case) (l : List Int) : P29 → Tr P29 R29
  | .e => let c1 := caseSets x; let c2 := listErr (x.claims.length : Int) l; let c3 : List Blk := [.cells (cC x), .cells [iI (setZ l)], .gone, .rows 3 1 (c1.length) (rowsOf tint c1)]; let c4 : List V := [rR (iI (x.claims.length : Int)), rR (tint.lst l)]; let c5 := (truthsE x c2).2; let c6 : V := .tuple [entP x c2, iI c5]; (.front [(5, 70, [tint.lst l, iI (x.claims.length : Int)], .func (.func 134) [] c4), (6, 63, [.agg (cC x), .func (.func 134) [] c4], .tuple [entP x c2, iI c5])] [] true true (.br ((truthsE x c2).2 != (0 : Int)) (.out (.r0 c5)) (.wait 2 (.vle 6 (entP x c2) (court x c1) (.vle 10 c6 uU (.vle 17 c6 uU (.vle 18 (entP x c2) uU (.call 72 [tint.lst l] (iI (setZ l)) true true (.hcall 77 [tint.lst c1] (.row 3 (c1.length)) [.cells (cC x), .cells [iI (setZ l)]] c3 true (.hcall 76 [.row 3 (c1.length), fG 78 [.ref 1 0 0]] (.row 3 ((c1.filter fun v => bitsOf .and .i64 v (setZ l) == (setZ l)).length)) c3 [.cells (cC x), .cells [iI (setZ l)], .gone, .rows 3 1 (c1.length) (rowsOf tint (padZ (c1.filter fun v => bitsOf .and .i64 v (setZ l) == (setZ l)) (c1.length)))] true (.br ((((c1.filter fun v => bitsOf .and .i64 v (setZ l) == (setZ l)).length) : Int) == (0 : Int)) (.out (.r0 9)) (.wait 2 (.frz 3 ((decide ((c1.filter fun v => bitsOf .and .i64 v (setZ l) == (setZ l)).length ≤ c1.length)) && ((decide (c1.length ≤ c1.length)) && ((decide ((c1.filter fun v => bitsOf .and .i64 v (setZ l) == (setZ l)).length ≤ c1.length)) && ((decide ((c1.filter fun v => bitsOf .and .i64 v (setZ l) == (setZ l)).length ≤ c1.length)) && true)))) (.vle 9 (.list 1 ((c1.filter fun v => bitsOf .and .i64 v (setZ l) == (setZ l)).length) (rowsOf tint (padZ (c1.filter fun v => bitsOf .and .i64 v (setZ l) == (setZ l)) (c1.length)))) (tint.lst (c1.filter fun v => bitsOf .and .i64 v (setZ l) == (setZ l))) (.vle 29 (.list 1 (c1.length) (rowsOf tint (padZ (c1.filter fun v => bitsOf .and .i64 v (setZ l) == (setZ l)) (c1.length)))) (tint.lst (padZ (c1.filter fun v => bitsOf .and .i64 v (setZ l) == (setZ l)) (c1.length))) (.vle 31 (.list 1 ((c1.filter fun v => bitsOf .and .i64 v (setZ l) == (setZ l)).length) (rowsOf tint (padZ (c1.filter fun v => bitsOf .and .i64 v (setZ l) == (setZ l)) (c1.length)))) (tint.lst (c1.filter fun v => bitsOf .and .i64 v (setZ l) == (setZ l))) (.vle 32 (.list 1 ((c1.filter fun v => bitsOf .and .i64 v (setZ l) == (setZ l)).length) (rowsOf tint (padZ (c1.filter fun v => bitsOf .and .i64 v (setZ l) == (setZ l)) (c1.length)))) (tint.lst (c1.filter fun v => bitsOf .and .i64 v (setZ l) == (setZ l))) (.call 79 [court x c1, tint.lst (c1.filter fun v => bitsOf .and .i64 v (setZ l) == (setZ l)), iI 1] (tint.lst (each x.claims.length (c1.filter fun v => bitsOf .and .i64 v (setZ l) == (setZ l)) 1)) true true (.out (.r1 (each x.claims.length (c1.filter fun v => bitsOf .and .i64 v (setZ l) == (setZ l)) 1) 0))))))))))))))))))))
noncomputable def g29 (x : Case) (l : List Int) : P29 → List Item × St
  | .e => bd Tryz.f29 [.agg (cC x), tint.lst l] 36
noncomputable def n29 : R29 → Exit × St
  | .r0 r1 => (.ret, ⟨mk 38 [(4, .nils), (5, iI r1)], [], []⟩)
  | .r1 r0 r1 => (.ret, ⟨mk 38 [(4, tint.lst r0), (5, iI r1)], [], []⟩)
noncomputable def v29 : R29 → V
  | .r0 r1 => .tuple [tint.lst ([] : List Int), iI r1]
  | .r1 r0 r1 => .tuple [tint.lst r0, iI r1]
theorem s29 (x : Case) (l : List Int) : Sm 0 (g29 x l) (T29 x l) (n29)
  | .e => ⟨400, by kernel_rfl⟩
theorem q29 : ∀ r, bodyQ Tryz.prog Tryz.f29 (· = v29 r) (n29 r).1 (n29 r).2
  | .r0 r1 => ⟨.inr rfl, by simp [n29], (.tuple [.nils, iI r1]), (.tuple [tint.lst ([] : List Int), iI r1]), by kernel_rfl, (.tuple rfl fun j hj => match j, hj with | 0, _ => .weak (.imm rfl) VLe.nils | 1, _ => .imm rfl), rfl⟩
  | .r1 r0 r1 => bq (.tuple [tint.lst r0, iI r1]) (by kernel_rfl)
theorem w29 (x : Case) (l : List Int) {post : V → Prop} (h : WQ (T29 x l) v29 post .e) : PC 29 [.agg (cC x), tint.lst l] post :=
  PCalls.wq Tryz.func29 (s29 x l) q29 h
theorem c76_78 (x : Case) (n : Int) (l : List Int) (hl : l.length ≤ 1000) : HCalls Tryz.prog 76 [.row 3 l.length, fG 78 [.ref 1 0 0]] (.row 3 (l.filter fun v => bitsOf .and .i64 v n == n).length) (H76 x n l.length l) (H76 x n l.length (padZ (l.filter fun v => bitsOf .and .i64 v n == n) l.length)) := by
  have := c76 x n l (c78 n) (fun _ _ => trivial) hl
  have e : (fun v => !(bitsOf .and .i64 v n != n)) = fun v => (bitsOf .and .i64 v n == n) := funext fun v => by simp [bne]
  rwa [e] at this
theorem c29 (x : Case) (l : List Int) : PC 29 [.agg (tCase.cells x), tint.lst l] (· = .tuple [tint.lst (followR x l).1, iI (followR x l).2]) := by
  by_cases h : (truthsE x (listErr x.claims.length l)).2 = 0
  · have hok := (okOf h).1
    have hn : ∀ n ∈ l, 0 ≤ n ∧ n < 5 := fun n hm => by have := listOk (okOf h).2 n hm; have := hok.five; omega
    have hF : (caseSets x).filter (fun v => bitsOf .and .i64 v (setZ l) == setZ l) = (caseSets x).filter fun s => allZ s l := List.filter_congr fun y hy => and_set hn (setsOk y hy)
    have hs : ∀ y ∈ (caseSets x).filter (fun v => bitsOf .and .i64 v (setZ l) == setZ l), 0 ≤ y ∧ y < 32 := fun y hy => setsOk y (List.mem_filter.1 hy).1
    have hle := caseSets_le x
    have h76 := c76_78 x (setZ l) (caseSets x) (by omega)
    have h77 := c77 [.cells (tCase.cells x), .cells [iI (setZ l)]] (caseSets x) (by omega)
    have h79 := c79 x (caseSets x) _ 1 hok.five hs
    have hlen := List.length_filter_le (fun v => bitsOf .and .i64 v (setZ l) == setZ l) (caseSets x)
    by_cases hc : can (caseSets x) l = true
    · have hf : followR x l = (each x.claims.length ((caseSets x).filter fun v => bitsOf .and .i64 v (setZ l) == setZ l) 1, 0) := by
        unfold followR; rw [if_neg (by simp [h]), if_neg (by simp [hc]), hF]
      have hne : ¬ (((caseSets x).filter fun v => bitsOf .and .i64 v (setZ l) == setZ l).length : Int) = 0 := fun e => by
        rw [hF, Int.natCast_eq_zero, List.length_eq_zero_iff, List.filter_eq_nil_iff] at e
        unfold can at hc; rw [List.any_eq_true] at hc
        obtain ⟨y, h1, h2⟩ := hc
        exact e y h1 h2
      clear hF
      generalize hX : (caseSets x).filter (fun v => bitsOf .and .i64 v (setZ l) == setZ l) = F at *
      refine w29 x l (WP.step ?_)
      simp only [T29, Go, Ends', v29, Tr.sure, SS, hX]
      repeat' with_reducible first | intro _ | apply And.intro
      all_goals first | exact (c70 _ _) | exact (c63l x l) | exact (VLe.undef _) | exact (entP_le (by with_reducible assumption)) | exact (c72 l hn) | exact h77 | exact h76 | exact (VLe.pad _ _) | exact (VLe.same tint _ (padZ_len hlen).symm) | exact h79 | (simp [hf, hne, hlen, Go, Ends', v29, -List.getD_eq_getElem?_getD, *]; done) | (simp_all [hf, hne, hlen, Go, Ends', v29, -List.getD_eq_getElem?_getD]; done)
    · have hc' : can (caseSets x) l = false := by simpa using hc
      have hf : followR x l = ([], 9) := by
        unfold followR; rw [if_neg (by simp [h]), if_pos hc']
      have hne : (caseSets x).filter (fun v => bitsOf .and .i64 v (setZ l) == setZ l) = [] := by
        rw [hF, List.filter_eq_nil_iff]
        intro y hy e
        unfold can at hc'; rw [List.any_eq_false] at hc'
        exact hc' y hy e
      clear hF
      rw [hne] at h76
      refine w29 x l (WP.step ?_)
      simp only [T29, Go, Ends', v29, Tr.sure, SS, hne]
      repeat' with_reducible first | intro _ | apply And.intro
      all_goals first | exact (c70 _ _) | exact (c63l x l) | exact (VLe.undef _) | exact (entP_le (by with_reducible assumption)) | exact (c72 l hn) | exact h77 | exact h76 | exact (VLe.pad _ _) | (simp [hf, hne, hlen, Go, Ends', v29, -List.getD_eq_getElem?_getD, *]; done) | (simp_all [hf, hne, hlen, Go, Ends', v29, -List.getD_eq_getElem?_getD]; done)
  · have hf : followR x l = ([], (truthsE x (listErr x.claims.length l)).2) := by unfold followR; rw [if_pos h]
    refine w29 x l (WP.step ?_)
    simp only [T29, Go, Ends', v29, Tr.sure, SS]
    repeat' with_reducible first | intro _ | apply And.intro
    all_goals first | exact (c70 _ _) | exact (c63l x l) | exact (VLe.undef _) | exact (entP_le (by with_reducible assumption)) | (simp [hf, h, Go, Ends', v29, -List.getD_eq_getElem?_getD, *]; done) | (simp_all [hf, h, Go, Ends', v29, -List.getD_eq_getElem?_getD]; done)
end
noncomputable section
def mostP (a b : Int) : Bool := decide (manyZ a > manyZ b)
theorem manyZ_0 (s : Int) : 0 ≤ manyZ s := Int.natCast_nonneg _
theorem fold_max : ∀ (l : List Int) (b : Int), manyZ (l.foldl (fun b y => if mostP y b = true then y else b) b) = l.foldl (fun n s => max n (manyZ s)) (manyZ b)
  | [], _ => rfl
  | x :: l, b => by
    rw [List.foldl_cons, List.foldl_cons, fold_max l]
    congr 1
    unfold mostP
    by_cases h : manyZ x > manyZ b
    · rw [if_pos (decide_eq_true h)]; omega
    · rw [if_neg (by simpa using h)]; omega
theorem bst_max (l : List Int) : manyZ (bstOf mostP 0 l) = maxZ manyZ l := by
  cases l with
  | nil => decide
  | cons x l =>
    have h := manyZ_0 x
    show manyZ (l.foldl _ x) = (x :: l).foldl _ 0
    rw [fold_max, List.foldl_cons, show max (0 : Int) (manyZ x) = manyZ x by omega]
theorem le_fold : ∀ (l : List Int) (n : Int), n ≤ l.foldl (fun n s => max n (manyZ s)) n ∧ ∀ y ∈ l, manyZ y ≤ l.foldl (fun n s => max n (manyZ s)) n
  | [], _ => ⟨Int.le_refl _, fun _ h => absurd h List.not_mem_nil⟩
  | x :: l, n => by
    obtain ⟨h1, h2⟩ := le_fold l (max n (manyZ x))
    rw [List.foldl_cons]
    refine ⟨by omega, fun y hy => ?_⟩
    rcases List.mem_cons.1 hy with q | q
    · subst q; omega
    · exact h2 y q
theorem grant_filter (l : List Int) : l.filter (fun v => !(decide (manyZ v < manyZ (bstOf mostP 0 l)))) = l.filter fun s => manyZ s == maxZ manyZ l := by
  refine List.filter_congr fun y hy => ?_
  have := (le_fold l 0).2 y hy
  rw [bst_max]
  show (!decide (manyZ y < maxZ manyZ l)) = _
  have hm : manyZ y ≤ maxZ manyZ l := this
  by_cases e : manyZ y = maxZ manyZ l
  · simp [e]
  · have : manyZ y < maxZ manyZ l := by omega
    simp [this, e]
inductive P35
  | e
inductive R35
  | r0 (r2 : Int)
  | r1 (r0 : List Int) (r1 : List Int) (r2 : Int)
noncomputable def T35 (x : Case) : P35 → Tr P35 R35
  | .e => let c1 := caseSets x; let c2 := bstOf mostP 0 c1; let c3 : V := .tuple [entP x 0, iI ((truthsE x 0).2)]; let c4 : List Blk := [.cells (cC x), .cells [iI c2], .gone, .rows 3 1 (c1.length) (rowsOf tint c1)]; (.call 63 [.agg (cC x), fF 64] c3 true true (.br ((truthsE x 0).2 != (0 : Int)) (.out (.r0 ((truthsE x 0).2))) (.wait 2 (.vle 5 (entP x 0) (court x c1) (.vle 8 c3 uU (.vle 10 c3 uU (.vle 11 (entP x 0) uU (.call 89 [tint.lst c1, fF 90] (iI c2) true true (.hcall 77 [tint.lst c1] (.row 3 (c1.length)) [.cells (cC x), .cells [iI c2]] c4 true (.hcall 76 [.row 3 (c1.length), fG 92 [.ref 1 0 0]] (.row 3 ((c1.filter fun v => !(decide (manyZ v < manyZ c2))).length)) c4 [.cells (cC x), .cells [iI c2], .gone, .rows 3 1 (c1.length) (rowsOf tint (padZ (c1.filter fun v => !(decide (manyZ v < manyZ c2))) (c1.length)))] true (.wait 1 (.frz 3 ((decide ((c1.filter fun v => !(decide (manyZ v < manyZ c2))).length ≤ c1.length)) && ((decide (c1.length ≤ c1.length)) && ((decide ((c1.filter fun v => !(decide (manyZ v < manyZ c2))).length ≤ c1.length)) && true))) (.vle 7 (.list 1 ((c1.filter fun v => !(decide (manyZ v < manyZ c2))).length) (rowsOf tint (padZ (c1.filter fun v => !(decide (manyZ v < manyZ c2))) (c1.length)))) (tint.lst (c1.filter fun v => !(decide (manyZ v < manyZ c2)))) (.vle 25 (.list 1 (c1.length) (rowsOf tint (padZ (c1.filter fun v => !(decide (manyZ v < manyZ c2))) (c1.length)))) (tint.lst (padZ (c1.filter fun v => !(decide (manyZ v < manyZ c2))) (c1.length))) (.vle 27 (.list 1 ((c1.filter fun v => !(decide (manyZ v < manyZ c2))).length) (rowsOf tint (padZ (c1.filter fun v => !(decide (manyZ v < manyZ c2))) (c1.length)))) (tint.lst (c1.filter fun v => !(decide (manyZ v < manyZ c2)))) (.call 79 [court x c1, tint.lst (c1.filter fun v => !(decide (manyZ v < manyZ c2))), iI 1] (tint.lst (each x.claims.length (c1.filter fun v => !(decide (manyZ v < manyZ c2))) 1)) true true (.call 79 [court x c1, tint.lst (c1.filter fun v => !(decide (manyZ v < manyZ c2))), iI 2] (tint.lst (each x.claims.length (c1.filter fun v => !(decide (manyZ v < manyZ c2))) 2)) true true (.out (.r1 (each x.claims.length (c1.filter fun v => !(decide (manyZ v < manyZ c2))) 1) (each x.claims.length (c1.filter fun v => !(decide (manyZ v < manyZ c2))) 2) 0)))))))))))))))))))
noncomputable def g35 (x : Case) : P35 → List Item × St
  | .e => bd Tryz.f35 [.agg (cC x)] 33
noncomputable def n35 : R35 → Exit × St
  | .r0 r2 => (.ret, ⟨mk 34 [(2, .nils), (3, .nils), (4, iI r2)], [], []⟩)
  | .r1 r0 r1 r2 => (.ret, ⟨mk 34 [(2, tint.lst r0), (3, tint.lst r1), (4, iI r2)], [], []⟩)
noncomputable def v35 : R35 → V
  | .r0 r2 => .tuple [tint.lst ([] : List Int), tint.lst ([] : List Int), iI r2]
  | .r1 r0 r1 r2 => .tuple [tint.lst r0, tint.lst r1, iI r2]
theorem s35 (x : Case) : Sm 0 (g35 x) (T35 x) (n35)
  | .e => ⟨400, by kernel_rfl⟩
theorem q35 : ∀ r, bodyQ Tryz.prog Tryz.f35 (· = v35 r) (n35 r).1 (n35 r).2
  | .r0 r2 => ⟨.inr rfl, by simp [n35], (.tuple [.nils, .nils, iI r2]), (.tuple [tint.lst ([] : List Int), tint.lst ([] : List Int), iI r2]), by kernel_rfl, (.tuple rfl fun j hj => match j, hj with | 0, _ => .weak (.imm rfl) VLe.nils | 1, _ => .weak (.imm rfl) VLe.nils | 2, _ => .imm rfl), rfl⟩
  | .r1 r0 r1 r2 => bq (.tuple [tint.lst r0, tint.lst r1, iI r2]) (by kernel_rfl)
theorem w35 (x : Case) {post : V → Prop} (h : WQ (T35 x) v35 post .e) : PC 35 [.agg (cC x)] post :=
  PCalls.wq Tryz.func35 (s35 x) q35 h
theorem c92a (n : Int) (hn : 0 ≤ n ∧ n < 32) : Asks1 92 n (fun v => decide (manyZ v < manyZ n)) fun v => 0 ≤ v ∧ v < 32 := fun v hv => c92 v n hv hn
theorem c35 (x : Case) : PC 35 [.agg (tCase.cells x)] (· = .tuple [tint.lst (grantR x).1, tint.lst (grantR x).2.1, iI (grantR x).2.2]) := by
  by_cases h : (truthsE x 0).2 = 0
  · have hok := (okOf h).1
    have hb := bst_in (p := mostP) (d := 0) (ok := fun v => 0 ≤ v ∧ v < 32) (caseSets x) (fun y hy => setsOk y hy) (by decide)
    have h89 := c89 (p := mostP) (ok := fun v => 0 ≤ v ∧ v < 32) (caseSets x) (fun a b ha hb => c90 a b ha hb) (fun y hy => setsOk y hy) (by decide)
    have hf : grantR x = (each x.claims.length ((caseSets x).filter fun v => !(decide (manyZ v < manyZ (bstOf mostP 0 (caseSets x))))) 1, each x.claims.length ((caseSets x).filter fun v => !(decide (manyZ v < manyZ (bstOf mostP 0 (caseSets x))))) 2, 0) := by
      unfold grantR; rw [if_neg (by simp [h]), grant_filter]
    have hle := caseSets_le x
    have h76 := c76 x (bstOf mostP 0 (caseSets x)) (caseSets x) (c92a _ hb) (fun y hy => setsOk y hy) (by omega)
    have h77 := c77 [.cells (tCase.cells x), .cells [iI (bstOf mostP 0 (caseSets x))]] (caseSets x) (by omega)
    have hs : ∀ y ∈ (caseSets x).filter (fun v => !(decide (manyZ v < manyZ (bstOf mostP 0 (caseSets x))))), 0 ≤ y ∧ y < 32 := fun y hy => setsOk y (List.mem_filter.1 hy).1
    have h791 := c79 x (caseSets x) _ 1 hok.five hs
    have h792 := c79 x (caseSets x) _ 2 hok.five hs
    have hlen := List.length_filter_le (fun v => !(decide (manyZ v < manyZ (bstOf mostP 0 (caseSets x))))) (caseSets x)
    refine w35 x (WP.step ?_)
    simp only [T35, Go, Ends', v35, Tr.sure, SS]
    repeat' with_reducible first | intro _ | apply And.intro
    all_goals first | exact (c63f x) | exact (VLe.undef _) | exact (entP_le (by with_reducible assumption)) | exact h89 | exact h77 | exact h76 | exact (VLe.pad _ _) | exact (VLe.same tint _ (padZ_len hlen).symm) | exact h791 | exact h792 | (simp [hf, hlen, Go, Ends', v35, -List.getD_eq_getElem?_getD, *]; done) | (simp_all [hf, hlen, Go, Ends', v35, -List.getD_eq_getElem?_getD]; done)
  · have hf : grantR x = ([], [], (truthsE x 0).2) := by unfold grantR; rw [if_pos h]
    refine w35 x (WP.step ?_)
    simp only [T35, Go, Ends', v35, Tr.sure, SS]
    repeat' with_reducible first | intro _ | apply And.intro
    all_goals first | exact (c63f x) | exact (VLe.undef _) | exact (entP_le (by with_reducible assumption)) | (simp [hf, h, Go, Ends', v35, -List.getD_eq_getElem?_getD, *]; done) | (simp_all [hf, h, Go, Ends', v35, -List.getD_eq_getElem?_getD]; done)
end
noncomputable section
inductive P26
  | e
  | l0 (x0_21 : Int) (a0_1 : List (List Int))
  | l1 (x0_21 : Int) (x1_7 : Int) (a1_1 : List (List Int))
inductive R26
  | r0 (r0 : List (List Int)) (r1 : Int)
  | r1 (r0 : List (List Int)) (r1 : Int)
noncomputable def T26 (x : Case) : P26 → Tr P26 R26
  | .e => let c1 : V := .tuple [entP x 0, iI ((truthsE x 0).2)]; (.wait 2 (.own 2 26 1 (.call 63 [.agg (cC x), fF 64] c1 true true (.br ((truthsE x 0).2 != (0 : Int)) (.wait 2 (.own 2 26 1 (.out (.r0 ([]) ((truthsE x 0).2))))) (.wait 2 (.vle 4 (entP x 0) (court x (caseSets x)) (.vle 8 c1 uU (.vle 10 c1 uU (.vle 11 (entP x 0) uU (.go (.l0 0 ([]))))))))))))
  | .l0 x0_21 a0_1 => (.br (decide (x0_21 < (x.claims.length : Int))) (.need (inR .i64 (x0_21 + (1 : Int))) (.go (.l1 x0_21 (x0_21 + (1 : Int)) a0_1))) (.out (.r1 a0_1 0)))
  | .l1 x0_21 x1_7 a1_1 => let c1 := (1 : Int) * 2 ^ (min (x0_21).toNat 64); let c2 := (1 : Int) * 2 ^ (min (x1_7).toNat 64); let c3 := caseSets x; let c4 : Tr P26 R26 := .need (inR .i64 (x1_7 + (1 : Int))) (.go (.l1 x0_21 (x1_7 + (1 : Int)) a1_1)); let c5 := decide (0 ≤ x0_21) && inR .i64 c1; let c6 := bitsOf .or .i64 c1 c2; let c7 := decide (0 ≤ x1_7) && inR .i64 c2; let c8 := ([x0_21, x1_7] : List Int); (.br (decide (x1_7 < (x.claims.length : Int))) (.br (c3.any fun s => bitsOf .and .i64 s c1 == c1) (.br (c3.any fun s => bitsOf .and .i64 s c2 == c2) (.front [(3, 71, [court x c3, iI c1], .bool (c3.any fun s => bitsOf .and .i64 s c1 == c1)), (8, 71, [court x c3, iI c2], .bool (c3.any fun s => bitsOf .and .i64 s c2 == c2)), (17, 71, [court x c3, iI c6], .bool (c3.any fun s => bitsOf .and .i64 s c6 == c6))] [(4, true), (10, true)] ((c5 && (((c3.any fun s => bitsOf .and .i64 s c1 == c1) == true) && (c7 && (((c3.any fun s => bitsOf .and .i64 s c2 == c2) == true) && (c5 && (c7 && true)))))) && true) true (.br (!(c3.any fun s => bitsOf .and .i64 s c6 == c6)) (.wait 1 (.frz 2 ((decide (2 ≤ 2)) && true) (.wait 0 (.vle 56 (.list 1 2 (litC 1 2 [iI x0_21, iI x1_7])) (tint.lst c8) (.need ((decide (a1_1.length = a1_1.length) && decide (a1_1.length + 1 ≤ 4294967296)) && decide (1 ≤ 1)) (.scal (fun _ => true) (.need (inR .i64 (x1_7 + (1 : Int))) (.go (.l1 x0_21 (x1_7 + (1 : Int)) (c8 :: a1_1)))))))))) c4)) (.front [(3, 71, [court x c3, iI c1], .bool (c3.any fun s => bitsOf .and .i64 s c1 == c1)), (8, 71, [court x c3, iI c2], .bool (c3.any fun s => bitsOf .and .i64 s c2 == c2))] [(4, true), (10, false)] ((c5 && (((c3.any fun s => bitsOf .and .i64 s c1 == c1) == true) && (c7 && (((c3.any fun s => bitsOf .and .i64 s c2 == c2) == false) && true)))) && true) true (.lit false c4))) (.front [(3, 71, [court x c3, iI c1], .bool (c3.any fun s => bitsOf .and .i64 s c1 == c1))] [(4, false)] ((c5 && (((c3.any fun s => bitsOf .and .i64 s c1 == c1) == false) && true)) && true) true (.lit false c4))) (.need (inR .i64 (x0_21 + (1 : Int))) (.go (.l0 (x0_21 + (1 : Int)) a1_1))))
noncomputable def g26 (x : Case) : P26 → List Item × St
  | .e => bd Tryz.f26 [.agg (cC x)] 60
  | .l0 x0_21 a0_1 => (cutOf Tryz.f26 0, ⟨mk 61 [(1, .ref 0 0 0), (2, .row 1 a0_1.length), (5, .func (.func 71) [court x (caseSets x)] []), (20, iI (x.claims.length : Int)), (21, iI x0_21)], [.cells (cC x), .rows 26 1 a0_1.length (rowsRev (tlist tint) a0_1)], []⟩)
  | .l1 x0_21 x1_7 a1_1 => (cutOf Tryz.f26 1, ⟨mk 61 [(1, .ref 0 0 0), (2, .row 1 a1_1.length), (5, .func (.func 71) [court x (caseSets x)] []), (6, iI x0_21), (7, iI x1_7), (20, iI (x.claims.length : Int)), (21, iI x0_21)], [.cells (cC x), .rows 26 1 a1_1.length (rowsRev (tlist tint) a1_1)], []⟩)
noncomputable def n26 : R26 → Exit × St
  | .r0 r0 r1 => (.ret, ⟨mk 61 [(2, .row 2 r0.length), (3, iI r1)], [.gone, .gone, .rows 26 1 r0.length (rowsRev (tlist tint) r0)], []⟩)
  | .r1 r0 r1 => (.ret, ⟨mk 61 [(2, .row 1 r0.length), (3, iI r1)], [.gone, .rows 26 1 r0.length (rowsRev (tlist tint) r0)], []⟩)
noncomputable def v26 : R26 → V
  | .r0 r0 r1 => .tuple [(tlist tint).lst r0.reverse, iI r1]
  | .r1 r0 r1 => .tuple [(tlist tint).lst r0.reverse, iI r1]
theorem s26 (x : Case) : Sm 0 (g26 x) (T26 x) (n26)
  | .e => ⟨400, by kernel_rfl⟩
  | .l0 _ _ => ⟨400, by kernel_rfl⟩
  | .l1 _ _ _ => ⟨400, by kernel_rfl⟩
theorem q26 : ∀ r, bodyQ Tryz.prog Tryz.f26 (· = v26 r) (n26 r).1 (n26 r).2
  | .r0 r0 r1 => ⟨.inr rfl, by simp [n26], (.tuple [.row 2 r0.length, iI r1]), (.tuple [(tlist tint).lst r0.reverse, iI r1]), by kernel_rfl, (.tuple rfl fun j hj => match j, hj with | 0, _ => .weak (.row rfl (Nat.le_refl _)) (VLe.rev (tlist tint) r0) | 1, _ => .imm rfl), rfl⟩
  | .r1 r0 r1 => ⟨.inr rfl, by simp [n26], (.tuple [.row 1 r0.length, iI r1]), (.tuple [(tlist tint).lst r0.reverse, iI r1]), by kernel_rfl, (.tuple rfl fun j hj => match j, hj with | 0, _ => .weak (.row rfl (Nat.le_refl _)) (VLe.rev (tlist tint) r0) | 1, _ => .imm rfl), rfl⟩
theorem w26 (x : Case) {post : V → Prop} (h : WQ (T26 x) v26 post .e) : PC 26 [.agg (cC x)] post :=
  PCalls.wq Tryz.func26 (s26 x) q26 h
def rowP (a j : Nat) : List (List Int) := (List.range j).map fun (d : Nat) => [(a : Int), ((a + 1 + d : Nat) : Int)]
def pairsL (k i : Nat) : List (List Int) := (List.range i).flatMap fun a => rowP a (k - (a + 1))
theorem picks_pairs : ∀ k : Nat, k < 6 → picks k 2 = pairsL k k := by decide +kernel
theorem setZ_one : ∀ a : Nat, a < 5 → setZ [(a : Int)] = 1 * 2 ^ (min a 64) := by decide +kernel
theorem setZ_two : ∀ a : Nat, a < 5 → ∀ b : Nat, b < 5 → setZ [(a : Int), (b : Int)] = bitsOf .or .i64 (1 * 2 ^ (min a 64)) (1 * 2 ^ (min b 64)) := by decide +kernel
theorem pow_in : ∀ a : Nat, a < 5 → inR .i64 ((1 : Int) * 2 ^ (min a 64)) = true := by decide +kernel
theorem rowP_succ (a j : Nat) : rowP a (j + 1) = rowP a j ++ [[(a : Int), ((a + 1 + j : Nat) : Int)]] := by unfold rowP; rw [List.range_succ, List.map_append]; rfl
theorem pairsL_succ (k i : Nat) : pairsL k (i + 1) = pairsL k i ++ rowP i (k - (i + 1)) := by unfold pairsL; rw [List.range_succ, List.flatMap_append]; simp
theorem rowP_len (a j : Nat) : (rowP a j).length = j := by simp [rowP]
theorem pairsL_len (k : Nat) : ∀ i, (pairsL k i).length ≤ i * k
  | 0 => Nat.zero_le _
  | i + 1 => by
    have := pairsL_len k i
    rw [pairsL_succ, List.length_append, rowP_len, Nat.succ_mul]; omega
theorem filter_rev {τ : Type} (P : τ → Bool) (L : List τ) (x : τ) : ((L ++ [x]).filter P).reverse = if P x = true then x :: (L.filter P).reverse else (L.filter P).reverse := by
  rw [List.filter_append, List.reverse_append]
  by_cases h : P x = true
  · rw [if_pos h, List.filter_cons, if_pos h]; rfl
  · rw [if_neg h, List.filter_cons, if_neg h]; rfl
set_option maxHeartbeats 1000000 in
theorem c26 (x : Case) : PC 26 [.agg (tCase.cells x)] (· = .tuple [(tlist tint).lst (clashR x).1, iI (clashR x).2]) := by
  by_cases h : (truthsE x 0).2 = 0
  · have hok := (okOf h).1
    have h5 := hok.five
    have hf : clashR x = ((pairsL x.claims.length x.claims.length).filter (clashP (caseSets x)), 0) := by
      unfold clashR; rw [if_neg (by simp [h]), picks_pairs _ (by omega)]
    have hs : ∀ y ∈ caseSets x, 0 ≤ y ∧ y < 32 := setsOk
    have h71 := fun y => c71 x (caseSets x) y
    have hone : ∀ a : Nat, a < 5 → ((caseSets x).any fun s => bitsOf .and .i64 s ((1 : Int) * 2 ^ (min a 64)) == ((1 : Int) * 2 ^ (min a 64))) = can (caseSets x) [(a : Int)] := fun a ha => by
      rw [← setZ_one a ha]; exact can_any (fun n hn => by rw [List.mem_singleton] at hn; omega) hs
    have htwo : ∀ a : Nat, a < 5 → ∀ b : Nat, b < 5 → ((caseSets x).any fun s => bitsOf .and .i64 s (bitsOf .or .i64 ((1 : Int) * 2 ^ (min a 64)) ((1 : Int) * 2 ^ (min b 64))) == bitsOf .or .i64 ((1 : Int) * 2 ^ (min a 64)) ((1 : Int) * 2 ^ (min b 64))) = can (caseSets x) [(a : Int), (b : Int)] := fun a ha b hb => by
      rw [← setZ_two a ha b hb]; exact can_any (fun n hn => by simp only [List.mem_cons, List.not_mem_nil, or_false] at hn; omega) hs
    have hmain : WP Tryz.prog ⟨none, 0⟩ (T26 x) (Ends' fun r => v26 r = .tuple [(tlist tint).lst (clashR x).1, iI (clashR x).2]) (.l0 0 []) := by
      refine WP.run (fun (i : Nat) => .l0 i ((pairsL x.claims.length i).filter (clashP (caseSets x))).reverse) rfl x.claims.length (fun i hi => ?_) ?_
      · have hr : inR .i64 ((i : Int) + 1) = true := inR64 (by omega) (by omega)
        have hi' : (i : Int) < x.claims.length := by omega
        have hlen := pairsL_len x.claims.length i
        have hi5 : i * x.claims.length ≤ 5 * 5 := Nat.mul_le_mul (by omega) h5
        have hsucc := pairsL_succ x.claims.length i
        have main : WP Tryz.prog ⟨none, 0⟩ (T26 x) (fun y => y = .inl (.l0 ((i + 1 : Nat) : Int) ((pairsL x.claims.length (i + 1)).filter (clashP (caseSets x))).reverse)) (.l1 (i : Int) ((i : Int) + 1) ((pairsL x.claims.length i).filter (clashP (caseSets x))).reverse) := by
          rw [hsucc]
          generalize pairsL x.claims.length i = L at *
          refine WP.run (fun (j : Nat) => .l1 (i : Int) ((i + 1 + j : Nat) : Int) ((L ++ rowP i j).filter (clashP (caseSets x))).reverse) (by simp [rowP]) (x.claims.length - (i + 1)) (fun j hj => ?_) ?_
          · have hb : i + 1 + j < x.claims.length := by omega
            have hb' : ((i + 1 + j : Nat) : Int) < x.claims.length := by omega
            have h1 := hone i (by omega)
            have h2 := hone (i + 1 + j) (by omega)
            have h3 := htwo i (by omega) (i + 1 + j) (by omega)
            have hr1 : inR .i64 (((i + 1 + j : Nat) : Int) + 1) = true := inR64 (by omega) (by omega)
            have hp1 := pow_in i (by omega)
            have hp2 := pow_in (i + 1 + j) (by omega)
            have hle : ((L ++ rowP i j).filter (clashP (caseSets x))).reverse.length + 1 ≤ 4294967296 := by
              rw [List.length_reverse]
              have := List.length_filter_le (clashP (caseSets x)) (L ++ rowP i j)
              rw [List.length_append, rowP_len] at this; omega
            have hn := filter_rev (clashP (caseSets x)) (L ++ rowP i j) [(i : Int), ((i + 1 + j : Nat) : Int)]
            have hP : clashP (caseSets x) [(i : Int), ((i + 1 + j : Nat) : Int)] = (can (caseSets x) [(i : Int)] && (can (caseSets x) [((i + 1 + j : Nat) : Int)] && !can (caseSets x) [(i : Int), ((i + 1 + j : Nat) : Int)])) := rfl
            have e2 : ((i + 1 + (j + 1) : Nat) : Int) = ((i + 1 + j : Nat) : Int) + 1 := by omega
            rw [rowP_succ, ← List.append_assoc, hn, hP, e2]
            have g0 : (0 : Int) ≤ ((i + 1 + j : Nat) : Int) := Int.natCast_nonneg _
            generalize ((L ++ rowP i j).filter (clashP (caseSets x))).reverse = B at *
            generalize i + 1 + j = b at *
            have hd1 := h71 ((1 : Int) * 2 ^ (min i 64))
            have hd2 := h71 ((1 : Int) * 2 ^ (min b 64))
            have hd3 := h71 (bitsOf .or .i64 ((1 : Int) * 2 ^ (min i 64)) ((1 : Int) * 2 ^ (min b 64)))
            rw [h1] at hd1; rw [h2] at hd2; rw [h3] at hd3
            cases q1 : can (caseSets x) [(i : Int)] with
            | false =>
              rw [q1] at hd1 h1
              refine WP.once ?_
              simp only [T26, Tr.sure, SS, hb', h1]
              repeat' with_reducible first | intro _ | apply And.intro
              all_goals first | exact hd1 | (simp [hr1, hp1, h1, Go, Ends', v26, -List.getD_eq_getElem?_getD, *]; done) | (simp_all [hr1, hp1, h1, Go, Ends', v26, -List.getD_eq_getElem?_getD]; done)
            | true =>
              rw [q1] at hd1 h1
              cases q2 : can (caseSets x) [(b : Int)] with
              | false =>
                rw [q2] at hd2 h2
                refine WP.once ?_
                simp only [T26, Tr.sure, SS, hb', h1, h2]
                repeat' with_reducible first | intro _ | apply And.intro
                all_goals first | exact hd1 | exact hd2 | (simp [hr1, hp1, hp2, Go, Ends', v26, -List.getD_eq_getElem?_getD, *]; done) | (simp_all [hr1, hp1, hp2, Go, Ends', v26, -List.getD_eq_getElem?_getD]; done)
              | true =>
                rw [q2] at hd2 h2
                cases q3 : can (caseSets x) [(i : Int), (b : Int)] with
                | false =>
                  rw [q3] at hd3 h3
                  refine WP.once ?_
                  simp only [T26, Tr.sure, SS, hb', h1, h2, h3]
                  repeat' with_reducible first | intro _ | apply And.intro
                  all_goals first | exact hd1 | exact hd2 | exact hd3 | exact (VLe.lit2 _ _) | (simp [hr1, hp1, hp2, hle, Go, Ends', v26, -List.getD_eq_getElem?_getD, *]; done) | (simp_all [hr1, hp1, hp2, hle, Go, Ends', v26, -List.getD_eq_getElem?_getD]; done)
                | true =>
                  rw [q3] at hd3 h3
                  refine WP.once ?_
                  simp only [T26, Tr.sure, SS, hb', h1, h2, h3]
                  repeat' with_reducible first | intro _ | apply And.intro
                  all_goals first | exact hd1 | exact hd2 | exact hd3 | (simp [hr1, hp1, hp2, Go, Ends', v26, -List.getD_eq_getElem?_getD, *]; done) | (simp_all [hr1, hp1, hp2, Go, Ends', v26, -List.getD_eq_getElem?_getD]; done)
          · have e1 : i + 1 + (x.claims.length - (i + 1)) = x.claims.length := by omega
            rw [e1]
            refine WP.step ?_
            simp only [T26, Go, Ends', v26, Tr.sure, SS, Int.lt_irrefl]
            repeat' with_reducible first | intro _ | apply And.intro
            all_goals first | (simp [hr, Go, Ends', v26, -List.getD_eq_getElem?_getD, *]; done) | skip
            all_goals exact WP.stop rfl
        refine WP.step ?_
        simp only [T26, Go, Ends', v26, Tr.sure, SS, hi']
        repeat' with_reducible first | intro _ | apply And.intro
        all_goals first | exact main | (simp [hr, Go, Ends', v26, -List.getD_eq_getElem?_getD, *]; done)
      · refine WP.step ?_
        simp only [T26, Go, Ends', v26, Tr.sure, SS, Int.lt_irrefl]
        repeat' with_reducible first | intro _ | apply And.intro
        all_goals simp [hf, Go, Ends', v26, -List.getD_eq_getElem?_getD, *]
    refine w26 x (WP.step ?_)
    simp only [T26, Go, Ends', v26, Tr.sure, SS]
    repeat' with_reducible first | intro _ | apply And.intro
    all_goals first | exact (c63f x) | exact (VLe.undef _) | exact (entP_le (by with_reducible assumption)) | exact hmain | (simp_all [h, Go, Ends', v26, -List.getD_eq_getElem?_getD]; done)
  · have hf : clashR x = ([], (truthsE x 0).2) := by unfold clashR; rw [if_pos h]
    refine w26 x (WP.step ?_)
    simp only [T26, Go, Ends', v26, Tr.sure, SS]
    repeat' with_reducible first | intro _ | apply And.intro
    all_goals first | exact (c63f x) | exact (VLe.undef _) | exact (entP_le (by with_reducible assumption)) | (simp [hf, h, Go, Ends', v26, -List.getD_eq_getElem?_getD, *]; done) | (simp_all [hf, h, Go, Ends', v26, -List.getD_eq_getElem?_getD]; done)
end
end Go.Proofs.YtdamoemndifpmaaGreat
