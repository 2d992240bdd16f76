/-
  Part of the proof of ClaimGrants. Conditions: those that stand in each theorem.
-/
import Derived.Test.YtdamoemndifpmaaGreatKB01
set_option linter.unusedSimpArgs false
set_option linter.unusedVariables false
set_option maxRecDepth 100000
namespace Go.Proofs.YtdamoemndifpmaaGreat
open Ab Go
noncomputable section
theorem settled_two {M : List Int} (hne : M ≠ []) {i : Int} : settled M i = 2 ↔ ∀ s ∈ M, ¬ hasZ s i = true := by
  have l1 : M.length ≠ 0 := fun e => hne (List.length_eq_zero_iff.1 e)
  unfold settled
  rw [← List.countP_eq_zero]
  split
  · rename_i h1; rw [h1]; simp [l1]
  · split <;> simp [*]
theorem maxZ_ge (f : Int → Int) (l : List Int) : ∀ b : Int, b ≤ l.foldl (fun n s => max n (f s)) b ∧ (∀ s ∈ l, f s ≤ l.foldl (fun n s => max n (f s)) b) ∧ (l.foldl (fun n s => max n (f s)) b = b ∨ ∃ s ∈ l, f s = l.foldl (fun n s => max n (f s)) b) := by
  induction l with
  | nil => intro b; exact ⟨Int.le_refl _, fun _ h => (by cases h), .inl rfl⟩
  | cons x l ih =>
    intro b
    obtain ⟨h1, h2, h3⟩ := ih (max b (f x))
    simp only [List.foldl_cons]
    refine ⟨by omega, fun s hs => ?_, ?_⟩
    · rcases List.mem_cons.1 hs with rfl | hs
      · omega
      · exact h2 s hs
    · rcases h3 with h3 | ⟨s, hs, h3⟩
      · rw [h3]
        rcases Int.le_total b (f x) with q | q
        · exact .inr ⟨x, by simp, by omega⟩
        · exact .inl (by omega)
      · exact .inr ⟨s, by simp [hs], h3⟩
def topM (x : Case) : List Int := (caseSets x).filter fun s => manyZ s == maxZ manyZ (caseSets x)
theorem many_nn (s : Int) : 0 ≤ manyZ s := by unfold manyZ; omega
theorem top_ne {x : Case} (h : caseSets x ≠ []) : topM x ≠ [] := by
  obtain ⟨h1, h2, h3⟩ := maxZ_ge manyZ (caseSets x) 0
  have : ∃ s ∈ caseSets x, manyZ s = maxZ manyZ (caseSets x) := by
    rcases h3 with h3 | ⟨s, hs, h3⟩
    · obtain ⟨s, hs⟩ := List.exists_mem_of_ne_nil _ h
      have a := h2 s hs
      have b := many_nn s
      refine ⟨s, hs, ?_⟩
      unfold maxZ
      omega
    · exact ⟨s, hs, h3⟩
  obtain ⟨s, hs, e⟩ := this
  intro h0
  have : s ∈ topM x := List.mem_filter.2 ⟨hs, by rw [e]; simp⟩
  rw [h0] at this; cases this
theorem top_sub {x : Case} : ∀ s ∈ topM x, s ∈ caseSets x := fun s hs => (List.mem_filter.1 hs).1
theorem top_max {x : Case} {s : Int} : s ∈ topM x ↔ s ∈ caseSets x ∧ ∀ y ∈ caseSets x, manyZ y ≤ manyZ s := by
  obtain ⟨h1, h2, h3⟩ := maxZ_ge manyZ (caseSets x) 0
  unfold topM
  rw [List.mem_filter, beq_iff_eq]
  constructor
  · rintro ⟨hs, e⟩; exact ⟨hs, fun y hy => by rw [e]; exact h2 y hy⟩
  · rintro ⟨hs, e⟩
    refine ⟨hs, ?_⟩
    have a := h2 s hs
    have b := many_nn s
    unfold maxZ
    rcases h3 with h3 | ⟨y, hy, h3⟩
    · omega
    · have := e y hy; omega
theorem sets_below {x : Case} (h : OkCase x) {s : Int} (hs : s ∈ caseSets x) : 0 ≤ s ∧ s < 2 ^ x.claims.length := by
  obtain ⟨l, -, hy⟩ := (mem_caseSets h.five).1 hs
  obtain ⟨L, -, rfl⟩ := (mem_casesR h.five s).1 hy
  exact mask_range _ _
theorem fall_bits : ∀ k : Nat, k < 6 → ∀ l ∈ allP k (k + 1), ∀ m : Nat, m < 2 ^ k → allZ m (others k l) = true → (k : Int) - l.length ≤ manyZ m ∧ ((l.length : Int) ≤ k - manyZ m → ∀ n ∈ l, hasZ m n = false) := by decide +kernel
theorem comp_many : ∀ k : Nat, k < 6 → ∀ m : Nat, m < 2 ^ k → others k (listZ m) ∈ allP k (k + 1) ∧ others k (others k (listZ m)) = listZ m ∧ ((others k (listZ m)).length : Int) = k - manyZ m ∧ allZ m (listZ m) = true := by decide +kernel
theorem fewer_len {a b : List Int} (h : fewer a b = true) : a.length ≤ b.length := by
  unfold fewer at h
  split at h
  · exact Nat.le_of_lt (of_decide_eq_true h)
  · omega
theorem fall_top {x : Case} (h : someR x = true) : ∃ s ∈ topM x, ∀ n ∈ (fallR x).1, hasZ s n = false := by
  obtain ⟨-, hok, hne⟩ := some_ok h
  have hk := hok.five
  obtain ⟨-, h2⟩ := fall_first h
  obtain ⟨q1, q2, q3⟩ := find_min (all_asc x.claims.length (by omega)) h2
  obtain ⟨s, hs, ha⟩ := List.any_eq_true.1 q1
  obtain ⟨s0, s1⟩ := sets_below hok hs
  obtain ⟨m, rfl⟩ := Int.eq_ofNat_of_zero_le s0
  have hm : m < 2 ^ x.claims.length := by exact_mod_cast s1
  obtain ⟨b1, b2⟩ := fall_bits x.claims.length (by omega) _ q2 m hm ha
  have key : ∀ y ∈ caseSets x, ((fallR x).1.length : Int) ≤ x.claims.length - manyZ y := fun y hy => by
    obtain ⟨y0, y1⟩ := sets_below hok hy
    obtain ⟨p, rfl⟩ := Int.eq_ofNat_of_zero_le y0
    have hp : p < 2 ^ x.claims.length := by exact_mod_cast y1
    obtain ⟨c1, c2, c3, c4⟩ := comp_many x.claims.length (by omega) p hp
    have hq : can (caseSets x) (others x.claims.length (others x.claims.length (listZ p))) = true := by
      rw [c2]; exact List.any_eq_true.2 ⟨_, hy, c4⟩
    rcases q3 _ c1 hq with e | e
    · rw [← c3, e]; omega
    · have := fewer_len e; omega
  exact ⟨m, top_max.2 ⟨hs, fun y hy => by have := key y hy; omega⟩, b2 (key _ hs)⟩
theorem picks_two : ∀ k : Nat, k < 6 → ∀ p ∈ picks k 2, p.length = 2 ∧ ∀ s : Nat, s < 32 → hasZ s (p.getD 0 0) = true → hasZ s (p.getD 1 0) = true → allZ s p = true := by decide +kernel
theorem grant_eq {x : Case} (h : someR x = true) : grantR x = (each x.claims.length (topM x) 1, each x.claims.length (topM x) 2, 0) := by
  unfold grantR; rw [(some_ok h).1]; exact if_neg (by simp)
theorem clash_eq {x : Case} (h : someR x = true) : clashR x = ((picks x.claims.length 2).filter (clashP (caseSets x)), 0) := by
  unfold clashR; rw [(some_ok h).1]; exact if_neg (by simp)
theorem grant_law {x : Case} (h : someR x = true) {G R : List Int} (hG : each x.claims.length (topM x) 1 = G) (hR : each x.claims.length (topM x) 2 = R) :
    (∀ i : Nat, i < x.claims.length → (settled (caseSets x) i = 1 → hasN G i = true) ∧ (settled (caseSets x) i = 2 → hasN R i = true) ∧ (hasN G i = true → hasN R i = false)) ∧
    (∀ p ∈ (clashR x).1, p.length = 2 ∧ (hasN G (p.getD 0 0) = true → hasN G (p.getD 1 0) = false)) ∧ (∀ n ∈ (fallR x).1, hasN G n = false) ∧ can (caseSets x) G = true := by
  obtain ⟨-, hok, hne⟩ := some_ok h
  have hk := hok.five
  have hT := top_ne hne
  have hg : ∀ n, hasN G n = true → ∀ s ∈ topM x, hasZ s n = true := fun n hn => by
    rw [hasN_mem, ← hG] at hn
    obtain ⟨i, -, rfl, h1⟩ := mem_each.1 hn
    exact settled_one.1 h1
  obtain ⟨t, ht⟩ := List.exists_mem_of_ne_nil _ hT
  refine ⟨fun i hi => ⟨fun h1 => ?_, fun h2 => ?_, fun h3 => ?_⟩, fun p hp => ?_, fun n hn => ?_, ?_⟩
  · rw [hasN_mem, ← hG]
    exact mem_each.2 ⟨i, hi, rfl, settled_one.2 fun s hs => settled_one.1 h1 s (top_sub s hs)⟩
  · rw [hasN_mem, ← hR]
    exact mem_each.2 ⟨i, hi, rfl, (settled_two hT).2 fun s hs => (settled_two hne).1 h2 s (top_sub s hs)⟩
  · cases h4 : hasN R i with
    | false => rfl
    | true =>
      exfalso
      rw [hasN_mem, ← hR] at h4
      obtain ⟨j, -, e, h5⟩ := mem_each.1 h4
      have a := hg i h3 t ht
      rw [e] at a
      exact (settled_two hT).1 h5 t ht a
  · rw [clash_eq h] at hp
    obtain ⟨hp1, hp2⟩ := List.mem_filter.1 hp
    obtain ⟨c1, c2⟩ := picks_two x.claims.length (by omega) p hp1
    refine ⟨c1, fun h1 => ?_⟩
    cases h2 : hasN G (p.getD 1 0) with
    | false => rfl
    | true =>
      exfalso
      simp only [clashP, Bool.and_eq_true, Bool.not_eq_true'] at hp2
      obtain ⟨s0, s1⟩ := caseSets_in (top_sub t ht)
      obtain ⟨m, rfl⟩ := Int.eq_ofNat_of_zero_le s0
      have := c2 m (by omega) (hg _ h1 _ ht) (hg _ h2 _ ht)
      have hc : can (caseSets x) p = true := List.any_eq_true.2 ⟨_, top_sub _ ht, this⟩
      rw [hc] at hp2; cases hp2.2.2
  · cases h1 : hasN G n with
    | false => rfl
    | true =>
      obtain ⟨s, hs, hf⟩ := fall_top h
      have := hg n h1 s hs
      rw [hf n hn] at this; cases this
  · exact List.any_eq_true.2 ⟨t, top_sub t ht, allZ_iff.2 fun n hn => hg n (hasN_mem.2 hn) t ht⟩
inductive P11
  | e
  | l0 (x0_6 : Int)
  | l1 (x1_11 : Int)
  | l2 (x2_14 : Int)
inductive R11
  | r0 (r0 : Bool)
noncomputable def T11 (x : Case) : P11 → Tr P11 R11
  | .e => let c1 := (x.claims.length : Int); let c2 := (((grantR x).1.length) : Int) + (((grantR x).2.1.length) : Int); let c3 : Tr P11 R11 := .out (.r0 false); let c4 := (grantR x).2.1; let c5 := (grantR x).1; let c6 := (grantR x).2.2 != (0 : Int); (.call 35 [.agg (cC x)] (.tuple [tint.lst c5, tint.lst c4, iI ((grantR x).2.2)]) true true (.call 46 [.agg (cC x)] (.bool (someR x)) true true (.br (!(someR x)) (.br c6 (.need (inR .i64 c2) (.br (c2 == (0 : Int)) (.call 23 [] (.bool true) true true (.out (.r0 true))) c3)) (.lit false c3)) (.br c6 (.lit true (.lit true c3)) (.call 47 [tint.lst c5, iI c1] (.bool (indicesR c5 c1)) true true (.br (!(indicesR c5 c1)) (.lit true c3) (.call 47 [tint.lst c4, iI c1] (.bool (indicesR c4 c1)) true true (.br (!(indicesR c4 c1)) c3 (.go (.l0 0))))))))))
  | .l0 x0_6 => let c3 : Tr P11 R11 := .lit true (.lit true (.lit true (.lit true (.out (.r0 false))))); let c4 := holdsR x x0_6; let c5 := hasN ((grantR x).1) x0_6; let c1 : Tr P11 R11 := .call 45 [tint.lst ((grantR x).1), iI x0_6] (.bool c5) true true (.br c5 (.call 45 [tint.lst ((grantR x).2.1), iI x0_6] (.bool (hasN ((grantR x).2.1) x0_6)) true true (.lit false (.br (hasN ((grantR x).2.1) x0_6) (.out (.r0 false)) (.need (inR .i64 (x0_6 + (1 : Int))) (.go (.l0 (x0_6 + (1 : Int)))))))) (.lit false (.lit false (.need (inR .i64 (x0_6 + (1 : Int))) (.go (.l0 (x0_6 + (1 : Int)))))))); let c2 : Tr P11 R11 := .br (c4.1 == (2 : Int)) (.call 45 [tint.lst ((grantR x).2.1), iI x0_6] (.bool (hasN ((grantR x).2.1) x0_6)) true true (.lit false (.br (!(hasN ((grantR x).2.1) x0_6)) (.lit true (.lit true (.out (.r0 false)))) c1))) (.lit false (.lit false c1)); (.br (decide (x0_6 < (x.claims.length : Int))) (.call 21 [.agg (cC x), iI x0_6] (.tuple [iI (c4.1), iI (c4.2)]) true true (.br (c4.2 != (0 : Int)) (.lit true (.lit true c3)) (.br (c4.1 == (1 : Int)) (.call 45 [tint.lst ((grantR x).1), iI x0_6] (.bool c5) true true (.lit false (.br (!c5) c3 c2))) (.lit false (.lit false c2))))) (.call 26 [.agg (cC x)] (.tuple [(tlist tint).lst ((clashR x).1), iI ((clashR x).2)]) true true (.go (.l1 0))))
  | .l1 x1_11 => let c1 := ((clashR x).1).getD (x1_11).toNat (tlist tint).zero; let c2 := decide (0 ≤ x1_11) && decide (x1_11 < (((clashR x).1.length) : Int)); let c3 := c1.getD ((1 : Int)).toNat tint.zero; let c4 := c1.getD ((0 : Int)).toNat tint.zero; let c5 : Tr P11 R11 := .need (inR .i64 (x1_11 + (1 : Int))) (.go (.l1 (x1_11 + (1 : Int)))); let c6 := (grantR x).1; let c7 := ((c1.length) : Int); (.br (decide (x1_11 < (((clashR x).1.length) : Int))) (.need c2 (.br (c7 != (2 : Int)) (.lit true (.lit true (.out (.r0 false)))) (.need c2 (.need (decide (0 ≤ (0 : Int)) && decide ((0 : Int) < c7)) (.call 45 [tint.lst c6, iI c4] (.bool (hasN c6 c4)) true true (.br (hasN c6 c4) (.need c2 (.need (decide (0 ≤ (1 : Int)) && decide ((1 : Int) < c7)) (.call 45 [tint.lst c6, iI c3] (.bool (hasN c6 c3)) true true (.lit false (.br (hasN c6 c3) (.out (.r0 false)) c5))))) (.lit false (.lit false c5)))))))) (.call 31 [.agg (cC x)] (.tuple [tint.lst ((fallR x).1), iI ((fallR x).2)]) true true (.go (.l2 0))))
  | .l2 x2_14 => let c1 := ((fallR x).1).getD (x2_14).toNat tint.zero; let c2 := (grantR x).1; let c3 : Tr P11 R11 := .out (.r0 false); let c4 := togetherR x c2; let c5 := x2_14 < (((fallR x).1.length) : Int); let c6 : Tr P11 R11 := .lit false (.lit false c3); (.br (decide c5) (.need (decide (0 ≤ x2_14) && decide c5) (.call 45 [tint.lst c2, iI c1] (.bool (hasN c2 c1)) true true (.br (hasN c2 c1) c3 (.need (inR .i64 (x2_14 + (1 : Int))) (.go (.l2 (x2_14 + (1 : Int)))))))) (.call 24 [.agg (cC x), tint.lst c2] (.tuple [.bool (c4.1), iI (c4.2)]) true true (.br ((clashR x).2 == (0 : Int)) (.br ((fallR x).2 == (0 : Int)) (.br (c4.2 == (0 : Int)) (.br (c4.1) (.call 23 [] (.bool true) true true (.out (.r0 true))) c3) (.lit false c3)) c6) (.lit false c6))))
noncomputable def g11 (x : Case) : P11 → List Item × St
  | .e => bd Tryz.f11 [.agg (cC x)] 177
  | .l0 x0_6 => (cutOf Tryz.f11 0, ⟨mk 178 [(1, .ref 0 0 0), (3, tint.lst ((grantR x).1)), (4, tint.lst ((grantR x).2.1)), (6, iI x0_6)], [.cells (cC x)], []⟩)
  | .l1 x1_11 => (cutOf Tryz.f11 1, ⟨mk 178 [(1, .ref 0 0 0), (3, tint.lst ((grantR x).1)), (9, (tlist tint).lst ((clashR x).1)), (10, iI ((clashR x).2)), (11, iI x1_11)], [.cells (cC x)], []⟩)
  | .l2 x2_14 => (cutOf Tryz.f11 2, ⟨mk 178 [(1, .ref 0 0 0), (3, tint.lst ((grantR x).1)), (10, iI ((clashR x).2)), (12, tint.lst ((fallR x).1)), (13, iI ((fallR x).2)), (14, iI x2_14)], [.cells (cC x)], []⟩)
noncomputable def n11 : R11 → Exit × St
  | .r0 r0 => (.ret, ⟨mk 178 [(2, .bool r0)], [], []⟩)
noncomputable def v11 : R11 → V
  | .r0 r0 => .bool r0
theorem s11 (x : Case) : Sm 0 (g11 x) (T11 x) (n11)
  | .e => ⟨400, by kernel_rfl⟩
  | .l0 _ => ⟨400, by kernel_rfl⟩
  | .l1 _ => ⟨400, by kernel_rfl⟩
  | .l2 _ => ⟨400, by kernel_rfl⟩
theorem q11 : ∀ r, bodyQ Tryz.prog Tryz.f11 (· = v11 r) (n11 r).1 (n11 r).2
  | .r0 r0 => bq (.bool r0) (by kernel_rfl)
theorem w11 (x : Case) {post : V → Prop} (h : WQ (T11 x) v11 post .e) : PC 11 [.agg (cC x)] post :=
  PCalls.wq Tryz.func11 (s11 x) q11 h
theorem c11 (x : Case) : PC 11 [.agg (tCase.cells x)] (· = .bool true) := by
  cases hs : someR x with
  | false =>
    obtain ⟨e, he, h0⟩ := some_not hs
    have f1 : grantR x = ([], [], e) := by unfold grantR; rw [he]; exact if_pos h0
    have k35 := c35 x
    rw [f1] at k35
    refine w11 x (WP.step ?_)
    simp only [T11, Go, Ends', v11, Tr.sure, SS, f1]
    repeat' with_reducible first | intro _ | apply And.intro
    all_goals first | exact (c46 x) | exact k35 | exact c23 | (simp_all [hs, h0, Go, Ends', v11, -List.getD_eq_getElem?_getD]; done) | skip
    all_goals exact inR64 (by simp) (by simp)
  | true =>
    obtain ⟨-, hok, -⟩ := some_ok hs
    have hk := hok.five
    obtain ⟨G, hG⟩ : ∃ G, each x.claims.length (topM x) 1 = G := ⟨_, rfl⟩
    obtain ⟨R, hR⟩ : ∃ R, each x.claims.length (topM x) 2 = R := ⟨_, rfl⟩
    have hgr : grantR x = (G, R, 0) := by rw [grant_eq hs, hG, hR]
    obtain ⟨g1, g2, g3, g4⟩ := grant_law hs hG hR
    have hGa : G ∈ allP x.claims.length (x.claims.length + 1) := by rw [← hG, each_filt]; exact filt_all (by omega) _
    have hRa : R ∈ allP x.claims.length (x.claims.length + 1) := by rw [← hR, each_filt]; exact filt_all (by omega) _
    have hgi := (all_fine x.claims.length (by omega) G hGa).2.1
    have hri := (all_fine x.claims.length (by omega) R hRa).2.1
    have hto := together_eq hs hGa
    rw [g4] at hto
    have k35 := c35 x
    rw [hgr] at k35
    have k24 := c24 x G
    rw [hto] at k24
    have hf2 := (fall_first hs).1
    have hq := (find_min (all_asc x.claims.length (by omega)) (fall_first hs).2).2.1
    have hfl := (all_small x.claims.length (by omega) _ hq).2
    have hc2 : (clashR x).2 = 0 := by rw [clash_eq hs]
    have hcl : (clashR x).1.length ≤ 1000 := by
      rw [clash_eq hs]
      refine Nat.le_trans (List.length_filter_le _ _) ?_
      have : ∀ k : Nat, k < 6 → (picks k 2).length ≤ 1000 := by decide +kernel
      exact this _ (by omega)
    have k26 := c26 x
    have k31 := c31 x
    rcases hcr : clashR x with ⟨C, ce⟩
    rcases hfr : fallR x with ⟨F, fe⟩
    rw [hcr] at k26 hc2 hcl g2
    rw [hfr] at k31 hf2 hfl g3
    simp only at hc2 hcl g2 hf2 hfl g3
    subst hc2
    subst hf2
    have k47 := c47 G x.claims.length
    have k47' := c47 R x.claims.length
    rw [hgi] at k47
    rw [hri] at k47'
    refine w11 x (WP.step ?_)
    simp only [T11, Go, Ends', v11, Tr.sure, SS, hgr, hgi, hri]
    repeat' with_reducible first | intro _ | apply And.intro
    all_goals first | exact (c46 x) | exact k35 | exact k47 | exact k47' | (simp_all [hs, Go, Ends', v11, -List.getD_eq_getElem?_getD]; done) | skip
    refine WP.run (fun i => .l0 i) rfl x.claims.length (fun i hi => ?_) ?_
    · have hr : inR .i64 ((i : Int) + 1) = true := inR64 (by omega) (by omega)
      have hh := holds_eq hs (i := (i : Int)) ⟨by omega, by omega⟩
      obtain ⟨b1, b2, b3⟩ := g1 i hi
      have k21 := c21 x i
      rw [hh] at k21
      refine WP.once ?_
      simp only [T11, Tr.sure, SS, hi, hgr, hh]
      repeat' with_reducible first | intro _ | apply And.intro
      all_goals first | exact k21 | exact (c45 _ _) | (simp [hr, b1, b2, b3, Go, Ends', v11, -List.getD_eq_getElem?_getD, *]; done) | (simp_all [hr, b1, b2, b3, Go, Ends', v11, -List.getD_eq_getElem?_getD]; done)
    · refine WP.step ?_
      simp only [T11, Go, Ends', v11, Tr.sure, SS, Int.lt_irrefl, hgr, hcr]
      repeat' with_reducible first | intro _ | apply And.intro
      all_goals first | exact k26 | skip
      refine WP.run (fun i => .l1 i) rfl C.length (fun i hi => ?_) ?_
      · have hr : inR .i64 ((i : Int) + 1) = true := inR64 (by omega) (by omega)
        obtain ⟨b1, b2⟩ := g2 _ (getD_mem [] C i hi)
        have z6 : (tlist tint).zero = [] := rfl
        have t0 : ((0 : Int)).toNat = 0 := rfl
        have t1 : ((1 : Int)).toNat = 1 := rfl
        refine WP.once ?_
        simp only [T11, Tr.sure, SS, hi, z1, z6, t0, t1, hgr, hcr, b1]
        repeat' with_reducible first | intro _ | apply And.intro
        all_goals first | exact (c45 _ _) | (simp [hr, b1, b2, Go, Ends', v11, -List.getD_eq_getElem?_getD, *]; done) | (simp_all [hr, b1, b2, Go, Ends', v11, -List.getD_eq_getElem?_getD]; done)
      · refine WP.step ?_
        simp only [T11, Go, Ends', v11, Tr.sure, SS, Int.lt_irrefl, hgr, hcr, hfr]
        repeat' with_reducible first | intro _ | apply And.intro
        all_goals first | exact k31 | skip
        refine WP.run (fun i => .l2 i) rfl F.length (fun i hi => ?_) ?_
        · have hr : inR .i64 ((i : Int) + 1) = true := inR64 (by omega) (by omega)
          have hm := g3 _ (getD_mem 0 F i hi)
          have k45 := c45 G (F.getD i 0)
          rw [hm] at k45
          refine WP.once ?_
          simp only [T11, Tr.sure, SS, hi, z1, hgr, hfr, hm]
          repeat' with_reducible first | intro _ | apply And.intro
          all_goals first | exact k45 | (simp [hr, Go, Ends', v11, -List.getD_eq_getElem?_getD, *]; done)
        · refine WP.step ?_
          simp only [T11, Go, Ends', v11, Tr.sure, SS, Int.lt_irrefl, hgr, hcr, hfr, hto]
          repeat' with_reducible first | intro _ | apply And.intro
          all_goals first | exact k24 | exact c23
end
end Go.Proofs.YtdamoemndifpmaaGreat
