/-
  Part of the proof of ClaimFollows. Conditions: those that stand in each theorem.
-/
import Derived.Test.YtdamoemndifpmaaGreatKC01
set_option linter.unusedSimpArgs false
set_option linter.unusedVariables false
set_option maxRecDepth 100000
namespace Go.Proofs.YtdamoemndifpmaaGreat
open Ab Go
noncomputable section
theorem filt_bits : ∀ k : Nat, k < 6 → ∀ n : Nat, n < 32 → filtI (fun i => n.testBit i) k ∈ allP k (k + 1) := by decide +kernel
theorem five_bits : ∀ b0 b1 b2 b3 b4 : Bool, ∃ n : Fin 32, n.1.testBit 0 = b0 ∧ n.1.testBit 1 = b1 ∧ n.1.testBit 2 = b2 ∧ n.1.testBit 3 = b3 ∧ n.1.testBit 4 = b4 := by decide +kernel
theorem filtI_congr {p q : Nat → Bool} {k : Nat} (h : ∀ i, i < k → p i = q i) : filtI p k = filtI q k := by
  unfold filtI
  rw [List.filter_congr fun i hi => h i (List.mem_range.1 hi)]
theorem filt_all {k : Nat} (hk : k < 6) (p : Nat → Bool) : filtI p k ∈ allP k (k + 1) := by
  obtain ⟨n, h0, h1, h2, h3, h4⟩ := five_bits (p 0) (p 1) (p 2) (p 3) (p 4)
  have e : filtI p k = filtI (fun i => n.1.testBit i) k := filtI_congr fun i hi => by
    match i, (show i < 5 by omega) with
    | 0, _ => exact h0.symm
    | 1, _ => exact h1.symm
    | 2, _ => exact h2.symm
    | 3, _ => exact h3.symm
    | 4, _ => exact h4.symm
    | n + 5, h => omega
  rw [e]; exact filt_bits k hk n.1 n.2
theorem each_filt (k : Nat) (M : List Int) (how : Int) : each k M how = filtI (fun i => settled M (i : Int) == how) k := rfl
theorem mem_each {k : Nat} {M : List Int} {how n : Int} : n ∈ each k M how ↔ ∃ i : Nat, i < k ∧ n = (i : Int) ∧ settled M (i : Int) = how := by
  unfold each
  simp only [List.mem_map, List.mem_filter, List.mem_range, beq_iff_eq]
  constructor
  · rintro ⟨i, ⟨h1, h2⟩, rfl⟩; exact ⟨i, h1, rfl, h2⟩
  · rintro ⟨i, h1, rfl, h2⟩; exact ⟨i, ⟨h1, h2⟩, rfl⟩
theorem settled_one {M : List Int} {i : Int} : settled M i = 1 ↔ ∀ s ∈ M, hasZ s i = true := by
  unfold settled
  rw [← List.countP_eq_length]
  split
  · rename_i h1; simp [h1]
  · rename_i h1; split <;> simp [h1]
theorem hasN_mem {l : List Int} {n : Int} : hasN l n = true ↔ n ∈ l := by
  unfold hasN
  rw [List.any_eq_true]
  constructor
  · rintro ⟨y, h1, h2⟩; rw [← eq_of_beq h2]; exact h1
  · intro h; exact ⟨n, h, by simp⟩
theorem allZ_iff {s : Int} {l : List Int} : allZ s l = true ↔ ∀ n ∈ l, hasZ s n = true := by unfold allZ; rw [List.all_eq_true]
theorem follow_eq {x : Case} (h : someR x = true) {l : List Int} (hl : l ∈ allP x.claims.length (x.claims.length + 1)) :
    followR x l = if can (caseSets x) l = true then (each x.claims.length ((caseSets x).filter fun s => allZ s l) 1, 0) else ([], 9) := by
  obtain ⟨ht, hok, -⟩ := some_ok h
  have hk := hok.five
  unfold followR
  rw [(all_fine x.claims.length (by omega) l hl).1, ht]
  cases can (caseSets x) l <;> simp
theorem follow_law {x : Case} (h : someR x = true) {A B : List Int} (hA : A ∈ allP x.claims.length (x.claims.length + 1)) (hB : B ∈ allP x.claims.length (x.claims.length + 1)) (hAB : ∀ n ∈ A, n ∈ B) (hc : can (caseSets x) A = true) :
    ∃ L K e, followR x A = (L, 0) ∧ L ∈ allP x.claims.length (x.claims.length + 1) ∧ (∀ n ∈ A, n ∈ L) ∧ followR x L = (L, 0) ∧ followR x B = (K, e) ∧ (e = 0 ∨ e = 9) ∧ (e = 0 → ∀ n ∈ L, n ∈ K) := by
  obtain ⟨ht, hok, hne⟩ := some_ok h
  have hk := hok.five
  obtain ⟨L, hL⟩ : ∃ L, each x.claims.length ((caseSets x).filter fun s => allZ s A) 1 = L := ⟨_, rfl⟩
  have hLa : L ∈ allP x.claims.length (x.claims.length + 1) := by rw [← hL, each_filt]; exact filt_all (by omega) _
  have hsm := (all_small x.claims.length (by omega) A hA).1
  have hAL : ∀ n ∈ A, n ∈ L := fun n hn => by
    rw [← hL]
    have := hsm n hn
    refine mem_each.2 ⟨n.toNat, by omega, by omega, settled_one.2 fun s hs => ?_⟩
    rw [List.mem_filter] at hs
    rw [show ((n.toNat : Nat) : Int) = n by omega]
    exact allZ_iff.1 hs.2 n hn
  have hin : ∀ s ∈ caseSets x, allZ s A = true → allZ s L = true := fun s hs ha => allZ_iff.2 fun n hn => by
    rw [← hL] at hn
    obtain ⟨i, -, rfl, hi⟩ := mem_each.1 hn
    exact settled_one.1 hi s (List.mem_filter.2 ⟨hs, ha⟩)
  have hout : ∀ s, allZ s L = true → allZ s A = true := fun s ha => allZ_iff.2 fun n hn => allZ_iff.1 ha n (hAL n hn)
  have hfil : ((caseSets x).filter fun s => allZ s L) = (caseSets x).filter fun s => allZ s A := List.filter_congr fun s hs => by
    cases e1 : allZ s A with
    | true => exact hin s hs e1
    | false =>
      cases e2 : allZ s L with
      | false => rfl
      | true => rw [hout s e2] at e1; cases e1
  have hcL : can (caseSets x) L = true := by
    obtain ⟨s, hs, ha⟩ := List.any_eq_true.1 hc
    exact List.any_eq_true.2 ⟨s, hs, hin s hs ha⟩
  refine ⟨L, (followR x B).1, (followR x B).2, by rw [follow_eq h hA, if_pos hc, hL], hLa, hAL, by rw [follow_eq h hLa, if_pos hcL, hfil, hL], rfl, ?_, ?_⟩
  · rw [follow_eq h hB]; split <;> simp
  · rw [follow_eq h hB]
    split
    · rename_i hcB
      intro _ n hn
      rw [← hL] at hn
      obtain ⟨i, hi, rfl, h1⟩ := mem_each.1 hn
      refine mem_each.2 ⟨i, hi, rfl, settled_one.2 fun s hs => settled_one.1 h1 s ?_⟩
      rw [List.mem_filter] at hs ⊢
      exact ⟨hs.1, allZ_iff.2 fun n hn => allZ_iff.1 hs.2 n (hAB n hn)⟩
    · intro h9; cases h9
theorem bitP_nat {m i : Nat} (hi : i < 8) : bitP (m : Int) i = m.testBit i := by
  unfold bitP
  rw [Nat.testBit_eq_decide_div_mod_eq, show min i 8 = i by omega]
  have e : ((m : Int).fdiv (2 ^ i)) = ((m / 2 ^ i : Nat) : Int) := by
    rw [Int.fdiv_eq_ediv_of_nonneg _ (Int.le_of_lt (Int.pow_pos (by decide)))]
    push_cast
    rfl
  rw [e]
  have e2 : (((m / 2 ^ i : Nat) : Int)).tmod 2 = ((m / 2 ^ i % 2 : Nat) : Int) := rfl
  rw [e2]
  cases hd : decide (m / 2 ^ i % 2 = 1) with
  | true => have := of_decide_eq_true hd; rw [this]; rfl
  | false =>
    have := of_decide_eq_false hd
    rw [beq_eq_false_iff_ne]
    omega
theorem or_u8 {a b : Nat} (ha : a < 256) (hb : b < 256) : bitsOf .or .u8 (a : Int) (b : Int) = ((a ||| b : Nat) : Int) := by
  have h : a ||| b < 2 ^ 8 := Nat.or_lt_two_pow ha hb
  have e : (BitVec.ofInt 8 (a : Int) ||| BitVec.ofInt 8 (b : Int)).toNat = a ||| b := by
    rw [BitVec.toNat_or, BitVec.ofInt_natCast, BitVec.ofInt_natCast, BitVec.toNat_ofNat, BitVec.toNat_ofNat, Nat.mod_eq_of_lt (by omega), Nat.mod_eq_of_lt (by omega)]
  show IntKind.wrap .u8 (((BitVec.ofInt 8 (a : Int) ||| BitVec.ofInt 8 (b : Int)).toNat : Nat) : Int) = _
  rw [e]
  simp [IntKind.wrap, IntKind.bits, IntKind.signed]
  omega
theorem bits_or {a b : Int} (ha : 0 ≤ a ∧ a ≤ 255) (hb : 0 ≤ b ∧ b ≤ 255) {k : Nat} (hk : k < 6) : (∀ n ∈ bitsR a k, n ∈ bitsR (bitsOf .or .u8 a b) k) ∧ bitsR (bitsOf .or .u8 a b) k ∈ allP k (k + 1) := by
  obtain ⟨a, rfl⟩ := Int.eq_ofNat_of_zero_le ha.1
  obtain ⟨b, rfl⟩ := Int.eq_ofNat_of_zero_le hb.1
  rw [or_u8 (by omega) (by omega)]
  refine ⟨fun n hn => ?_, filt_all hk _⟩
  simp only [bitsR, filtI, List.mem_map, List.mem_filter, List.mem_range] at hn ⊢
  obtain ⟨i, ⟨h1, h2⟩, rfl⟩ := hn
  refine ⟨i, ⟨h1, ?_⟩, rfl⟩
  rw [bitP_nat (by omega)] at h2 ⊢
  rw [Nat.testBit_or, h2]; rfl
theorem c29n (x : Case) : PC 29 [.agg (tCase.cells x), .nils] (· = .tuple [tint.lst (followR x []).1, iI (followR x []).2]) := PCalls.arg (pre := [.agg (tCase.cells x)]) (c29 x []) VLe.nils
inductive P12
  | e
  | l0 (x0_13 : Int)
  | l1 (x1_18 : Int)
inductive R12
  | r0 (r0 : Bool)
noncomputable def T12 (x : Case) (p : Nat → Int) : P12 → Tr P12 R12
  | .e => let c2 := (x.claims.length : Int); let c1 := bitsR (p (((0 : Int)).toNat)) (c2).toNat; let c3 := followR x c1; let c4 : Tr P12 R12 := .out (.r0 false); let c5 := bitsOf .or .u8 (p (((0 : Int)).toNat)) (p (((1 : Int)).toNat)); let c6 := decide (0 ≤ (0 : Int)) && decide ((0 : Int) < (2 : Int)); let c7 := togetherR x c1; let c8 : Tr P12 R12 := .call 23 [] (.bool true) true true (.out (.r0 true)); let c9 := decide (((0 : Int)).toNat < 2) && decide (0 < 1); let c10 := followR x ([]); let c11 : List V := [.agg (cC x), tint.lst c1]; (.call 46 [.agg (cC x)] (.bool (someR x)) true true (.br (!(someR x)) (.call 29 [.agg (cC x), .nils] (.tuple [tint.lst (c10.1), iI (c10.2)]) true true (.br (c10.2 != (0 : Int)) c8 c4)) (.front [(5, 48, [.int .u8 (p (((0 : Int)).toNat)), iI c2], tint.lst c1)] [] ((c6 && (c9 && (c6 && (c9 && ((decide (0 ≤ (1 : Int)) && decide ((1 : Int) < (2 : Int))) && ((decide (((1 : Int)).toNat < 2) && decide (0 < 1)) && true)))))) && true) true (.call 48 [.int .u8 c5, iI c2] (tint.lst (bitsR c5 (c2).toNat)) true true (.call 24 c11 (.tuple [.bool (c7.1), iI (c7.2)]) true true (.call 29 c11 (.tuple [tint.lst (c3.1), iI (c3.2)]) true true (.br (c7.2 != (0 : Int)) (.lit true c4) (.br (!(c7.1 == (c3.2 == (0 : Int)))) c4 (.br (!(c7.1)) (.br (c3.2 == (9 : Int)) (.br (((c3.1.length) : Int) == (0 : Int)) c8 c4) (.lit false c4)) (.call 47 [tint.lst (c3.1), iI c2] (.bool (indicesR (c3.1) c2)) true true (.br (!(indicesR (c3.1) c2)) c4 (.go (.l0 0)))))))))))))
  | .l0 x0_13 => let c1 := bitsR (p (((0 : Int)).toNat)) ((x.claims.length : Int)).toNat; let c2 := bitsR (bitsOf .or .u8 (p (((0 : Int)).toNat)) (p (((1 : Int)).toNat))) ((x.claims.length : Int)).toNat; let c3 := (followR x c1).1; let c4 := c1.getD (x0_13).toNat tint.zero; let c5 := followR x c3; let c6 : Tr P12 R12 := .out (.r0 false); let c7 := followR x c2; let c8 := x0_13 < ((c1.length) : Int); let c9 : Tr P12 R12 := .lit true (.lit true c6); (.br (decide c8) (.need (decide (0 ≤ x0_13) && decide c8) (.call 45 [tint.lst c3, iI c4] (.bool (hasN c3 c4)) true true (.br (!(hasN c3 c4)) c6 (.need (inR .i64 (x0_13 + (1 : Int))) (.go (.l0 (x0_13 + (1 : Int)))))))) (.call 29 [.agg (cC x), tint.lst c3] (.tuple [tint.lst (c5.1), iI (c5.2)]) true true (.call 29 [.agg (cC x), tint.lst c2] (.tuple [tint.lst (c7.1), iI (c7.2)]) true true (.br (c5.2 != (0 : Int)) (.lit true c9) (.call 20 [tint.lst (c5.1), tint.lst c3] (.bool (sameI (c5.1) c3)) true true (.br (!(sameI (c5.1) c3)) c9 (.br (c7.2 != (0 : Int)) (.lit false (.br (c7.2 != (9 : Int)) c6 (.go (.l1 0)))) (.lit false (.lit false (.go (.l1 0)))))))))))
  | .l1 x1_18 => let c1 := followR x (bitsR (bitsOf .or .u8 (p (((0 : Int)).toNat)) (p (((1 : Int)).toNat))) ((x.claims.length : Int)).toNat); let c2 := followR x (bitsR (p (((0 : Int)).toNat)) ((x.claims.length : Int)).toNat); let c3 := (c2.1).getD (x1_18).toNat tint.zero; let c4 : Tr P12 R12 := .call 23 [] (.bool true) true true (.out (.r0 true)); let c5 := x1_18 < ((c2.1.length) : Int); (.br (decide c5) (.br (c1.2 == (0 : Int)) (.need (decide (0 ≤ x1_18) && decide c5) (.call 45 [tint.lst (c1.1), iI c3] (.bool (hasN (c1.1) c3)) true true (.br (!(hasN (c1.1) c3)) (.out (.r0 false)) (.need (inR .i64 (x1_18 + (1 : Int))) (.go (.l1 (x1_18 + (1 : Int)))))))) c4) (.lit false c4))
noncomputable def g12 (x : Case) (p : Nat → Int) : P12 → List Item × St
  | .e => bd Tryz.f12 [.agg (cC x), .arr 1 2 (rowsFn tu8 p)] 142
  | .l0 x0_13 => (cutOf Tryz.f12 0, ⟨mk 144 [(2, .ref 0 0 0), (7, tint.lst (bitsR (p (((0 : Int)).toNat)) ((x.claims.length : Int)).toNat)), (8, tint.lst (bitsR (bitsOf .or .u8 (p (((0 : Int)).toNat)) (p (((1 : Int)).toNat))) ((x.claims.length : Int)).toNat)), (11, tint.lst ((followR x (bitsR (p (((0 : Int)).toNat)) ((x.claims.length : Int)).toNat)).1)), (13, iI x0_13)], [.cells (cC x)], []⟩)
  | .l1 x1_18 => (cutOf Tryz.f12 1, ⟨mk 144 [(11, tint.lst ((followR x (bitsR (p (((0 : Int)).toNat)) ((x.claims.length : Int)).toNat)).1)), (16, tint.lst ((followR x (bitsR (bitsOf .or .u8 (p (((0 : Int)).toNat)) (p (((1 : Int)).toNat))) ((x.claims.length : Int)).toNat)).1)), (17, iI ((followR x (bitsR (bitsOf .or .u8 (p (((0 : Int)).toNat)) (p (((1 : Int)).toNat))) ((x.claims.length : Int)).toNat)).2)), (18, iI x1_18)], [], []⟩)
noncomputable def n12 : R12 → Exit × St
  | .r0 r0 => (.ret, ⟨mk 144 [(4, .bool r0)], [], []⟩)
noncomputable def v12 : R12 → V
  | .r0 r0 => .bool r0
theorem s12 (x : Case) (p : Nat → Int) : Sm 0 (g12 x p) (T12 x p) (n12)
  | .e => ⟨400, by kernel_rfl⟩
  | .l0 _ => ⟨400, by kernel_rfl⟩
  | .l1 _ => ⟨400, by kernel_rfl⟩
theorem q12 : ∀ r, bodyQ Tryz.prog Tryz.f12 (· = v12 r) (n12 r).1 (n12 r).2
  | .r0 r0 => bq (.bool r0) (by kernel_rfl)
theorem w12 (x : Case) (p : Nat → Int) {post : V → Prop} (h : WQ (T12 x p) v12 post .e) : PC 12 [.agg (cC x), .arr 1 2 (rowsFn tu8 p)] post :=
  PCalls.wq Tryz.func12 (s12 x p) q12 h
theorem w12_end (x : Case) (p : Nat → Int) {A B L K : List Int} {e : Int} (hA : bitsR (p 0) x.claims.length = A) (hB : bitsR (bitsOf .or .u8 (p 0) (p 1)) x.claims.length = B) (hlen2 : L.length ≤ 1000)
    (f1 : followR x A = (L, 0)) (f4 : followR x B = (K, e)) (f5 : e = 0 ∨ e = 9) (f6 : e = 0 → ∀ n ∈ L, n ∈ K) :
    WP Tryz.prog ⟨none, 0⟩ (T12 x p) (Ends' fun r => v12 r = .bool true) (.l1 0) := by
  have t0 : ((0 : Int)).toNat = 0 := rfl
  have t1 : ((1 : Int)).toNat = 1 := rfl
  rcases f5 with rfl | rfl
  · refine WP.run (fun i => .l1 i) rfl L.length (fun i hi => ?_) ?_
    · have hr : inR .i64 ((i : Int) + 1) = true := inR64 (by omega) (by omega)
      have hm : hasN K (L.getD i 0) = true := hasN_mem.2 (f6 rfl _ (getD_mem 0 L i hi))
      have k45 := c45 K (L.getD i 0)
      rw [hm] at k45
      refine WP.once ?_
      simp only [T12, Tr.sure, SS, hi, z1, t0, t1, hA, hB, f1, f4, hm]
      repeat' with_reducible first | intro _ | apply And.intro
      all_goals first | exact k45 | (simp [hr, Go, Ends', v12, -List.getD_eq_getElem?_getD, *]; done)
    · refine WP.step ?_
      simp only [T12, Go, Ends', v12, Tr.sure, SS, Int.lt_irrefl, t0, t1, hA, hB, f1, f4]
      repeat' with_reducible first | intro _ | apply And.intro
      all_goals exact c23
  · refine WP.step ?_
    simp only [T12, Go, Ends', v12, Tr.sure, SS, t0, t1, hA, hB, f1, f4]
    repeat' with_reducible first | intro _ | apply And.intro
    all_goals first | exact c23 | (simp [Go, Ends', v12, -List.getD_eq_getElem?_getD, *]; done) | (simp_all [Go, Ends', v12, -List.getD_eq_getElem?_getD]; done)
theorem w12_go (x : Case) (p : Nat → Int) (hs : someR x = true) {A B L K : List Int} {e : Int} (hA : bitsR (p 0) x.claims.length = A) (hB : bitsR (bitsOf .or .u8 (p 0) (p 1)) x.claims.length = B) (hlen : A.length ≤ 1000) (hlen2 : L.length ≤ 1000)
    (f1 : followR x A = (L, 0)) (f2 : ∀ n ∈ A, n ∈ L) (f3 : followR x L = (L, 0)) (f4 : followR x B = (K, e)) (f5 : e = 0 ∨ e = 9) (f6 : e = 0 → ∀ n ∈ L, n ∈ K) :
    WP Tryz.prog ⟨none, 0⟩ (T12 x p) (Ends' fun r => v12 r = .bool true) (.l0 0) := by
  have t0 : ((0 : Int)).toNat = 0 := rfl
  have t1 : ((1 : Int)).toNat = 1 := rfl
  refine WP.run (fun i => .l0 i) rfl A.length (fun i hi => ?_) ?_
  · have hr : inR .i64 ((i : Int) + 1) = true := inR64 (by omega) (by omega)
    have hm : hasN L (A.getD i 0) = true := hasN_mem.2 (f2 _ (getD_mem 0 A i hi))
    have k45 := c45 L (A.getD i 0)
    rw [hm] at k45
    refine WP.once ?_
    simp only [T12, Tr.sure, SS, hi, z1, t0, t1, hA, hB, f1, hm]
    repeat' with_reducible first | intro _ | apply And.intro
    all_goals first | exact k45 | (simp [hr, Go, Ends', v12, -List.getD_eq_getElem?_getD, *]; done)
  · have k1 := c29 x L
    have k2 := c29 x B
    rw [f3] at k1
    rw [f4] at k2
    have hend := w12_end x p hA hB hlen2 f1 f4 f5 f6
    refine WP.step ?_
    simp only [T12, Go, Ends', v12, Tr.sure, SS, Int.lt_irrefl, t0, t1, hA, hB, f1, f3, f4]
    repeat' with_reducible first | intro _ | apply And.intro
    all_goals first | exact k1 | exact k2 | exact (c20 _ _) | exact hend | (simp_all [f5, sameI_self, Go, Ends', v12, -List.getD_eq_getElem?_getD]; done)
theorem c12 (x : Case) (p : Nat → Int) (hp : ∀ i, i < 2 → 0 ≤ p i ∧ p i ≤ 255) : PC 12 [.agg (tCase.cells x), .arr 1 2 (rowsFn tu8 p)] (· = .bool true) := by
  have t0 : ((0 : Int)).toNat = 0 := rfl
  have t1 : ((1 : Int)).toNat = 1 := rfl
  cases hs : someR x with
  | false =>
    have f1 : (followR x []).2 ≠ 0 := by
      have := some_err hs (listErr x.claims.length [])
      unfold followR
      rw [if_pos this]; exact this
    refine w12 x p (WP.step ?_)
    simp only [T12, Go, Ends', v12, Tr.sure, SS]
    repeat' with_reducible first | intro _ | apply And.intro
    all_goals first | exact (c46 x) | exact (c29n x) | exact c23 | (simp [hs, f1, Go, Ends', v12, -List.getD_eq_getElem?_getD, *]; done) | (simp_all [hs, f1, Go, Ends', v12, -List.getD_eq_getElem?_getD]; done)
  | true =>
    have h5 := (some_ok hs).2.1.five
    have p0 := hp 0 (by omega)
    have p1 := hp 1 (by omega)
    have hA0 := (filt_all (k := x.claims.length) (by omega) (bitP (p 0)))
    obtain ⟨hAB, hB0⟩ := bits_or p0 p1 (k := x.claims.length) (by omega)
    have k3 := c48 (p 0) x.claims.length h5
    have k4 := c48 (bitsOf .or .u8 (p 0) (p 1)) x.claims.length h5
    obtain ⟨A, hA⟩ : ∃ A, bitsR (p 0) x.claims.length = A := ⟨_, rfl⟩
    obtain ⟨B, hB⟩ : ∃ B, bitsR (bitsOf .or .u8 (p 0) (p 1)) x.claims.length = B := ⟨_, rfl⟩
    have hA1 : A ∈ allP x.claims.length (x.claims.length + 1) := by rw [← hA]; exact hA0
    rw [hB] at hAB hB0 k4
    rw [hA] at hAB k3
    have ht := together_eq hs hA1
    have k5 := c24 x A
    have k6 := c29 x A
    rw [ht] at k5
    cases hc : can (caseSets x) A with
    | false =>
      have hf : followR x A = ([], 9) := by rw [follow_eq hs hA1, if_neg (by rw [hc]; simp)]
      rw [hc] at ht k5
      rw [hf] at k6
      refine w12 x p (WP.step ?_)
      simp only [T12, Go, Ends', v12, Tr.sure, SS, t0, t1, hA, hB, ht, hf]
      repeat' with_reducible first | intro _ | apply And.intro
      all_goals first | exact (c46 x) | exact k3 | exact k4 | exact k5 | exact k6 | exact c23 | (simp [hs, Go, Ends', v12, -List.getD_eq_getElem?_getD, *]; done) | (simp_all [hs, Go, Ends', v12, -List.getD_eq_getElem?_getD]; done)
    | true =>
      obtain ⟨L, K, e, f1, f1a, f2, f3, f4, f5, f6⟩ := follow_law hs hA1 hB0 hAB hc
      have l1 := (all_small x.claims.length (by omega) A hA1).2
      have l2 := (all_small x.claims.length (by omega) L f1a).2
      have hind := (all_fine x.claims.length (by omega) L f1a).2.1
      have hgo := w12_go x p hs hA hB l1 l2 f1 f2 f3 f4 f5 f6
      have k7 := c47 L x.claims.length
      rw [hc] at ht k5
      rw [f1] at k6
      rw [hind] at k7
      refine w12 x p (WP.step ?_)
      simp only [T12, Go, Ends', v12, Tr.sure, SS, t0, t1, hA, hB, ht, f1, hind]
      repeat' with_reducible first | intro _ | apply And.intro
      all_goals first | exact (c46 x) | exact k3 | exact k4 | exact k5 | exact k6 | exact k7 | exact hgo | exact c23 | (simp [hs, Go, Ends', v12, -List.getD_eq_getElem?_getD, *]; done) | (simp_all [hs, Go, Ends', v12, -List.getD_eq_getElem?_getD]; done)
end
end Go.Proofs.YtdamoemndifpmaaGreat
