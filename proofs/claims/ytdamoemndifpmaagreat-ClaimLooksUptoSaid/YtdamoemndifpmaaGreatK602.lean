/-
  Part of the proof of ClaimLooks. Conditions: those that stand in each theorem.
-/
import Derived.Test.YtdamoemndifpmaaGreatK601
set_option linter.unusedSimpArgs false
set_option linter.unusedVariables false
set_option maxRecDepth 100000
namespace Go.Proofs.YtdamoemndifpmaaGreat
open Ab Go
noncomputable section
theorem tel_rep {τ : Type} (E : Ty τ) (x : τ) {n : Nat} {cs : List V} (hc : cs = E.cells x) {r j : Nat} (hr : r < n) : VLe (cs.getD j uU) (rowsOf E (List.replicate n x) r j) := by
  subst hc
  have : (List.replicate n x).getD r E.zero = x := by simp [List.getD_eq_getElem?_getD, hr]
  simp only [rowsOf, this]; exact VLe.refl _
theorem set_one (b x : Int) : ([b] : List Int).set 0 x = [x] := rfl
theorem underL_bool (b : Bool) : underL 0 [.bool b] = true := rfl
inductive P183
  | e
  | l0 (x0_6 : Int) (a0_1 : List Int)
  | l1 (x1_5 : List Int) (x1_7 : Int)
  | l2 (x1_7 : Int) (x2_5 : List Int) (x2_8 : Int)
  | l3 (x1_7 : Int) (x2_5 : List Int) (x2_8 : Int) (x3_11 : Int) (a3_2 : List Int)
  | l4 (x1_7 : Int) (x2_5 : List Int) (x2_8 : Int) (x3_11 : Int) (x4_13 : Int) (a4_2 : List Int)
inductive R183
  | r0 (r0 : List Int)
noncomputable def T183 (p0 : Case) (p1 : List Cast) : P183 → Tr P183 R183
  | .e => (.wait 6 (.telb 1 1 1 (litC 1 1 [iI 0]) (rowsOf tint ([0] : List Int)) (.go (.l0 0 ([0] : List Int)))))
  | .l0 x0_6 a0_1 => let c1 := p0.claims.getD (x0_6).toNat tClaim.zero; let c2 := (a0_1.getD ((0 : Int)).toNat tint.zero) + (bitZ x0_6); let c3 := x0_6 + (1 : Int); let c4 := (decide (0 ≤ (0 : Int)) && decide ((0 : Int) < (1 : Int))) && decide (1 ≤ 1); let c5 := x0_6 < (p0.claims.length : Int); let c6 := ([iI c2] : List V); let c7 : Tr P183 R183 := .need (inR .i64 c3) (.go (.l0 c3 a0_1)); let c8 := a0_1.set (((0 : Int)).toNat) c2; let c9 := decide (0 ≤ x0_6) && decide c5; (.br (decide c5) (.need c9 (.call 130 [iI (c1.kind)] (.bool (lasting (c1.kind))) true true (.br (!(lasting (c1.kind))) (.need c9 (.call 44 [.agg [iI (c1.own), iI (c1.kind), iI (c1.a), iI (c1.b), iI (c1.mould), iI (c1.feature), iI (c1.number), iI (c1.worth)], tCast.lst p1, iI 0] (.bool (so c1 p1 0)) true true (.br (so c1 p1 0) (.front [(5, 182, [iI x0_6], iI (bitZ x0_6))] [] ((c4 && ((decide (((0 : Int)).toNat < 1) && decide (0 < 1)) && ((inR .i64 c2) && true))) && true) true (.need c4 (.need ((decide (((0 : Int)).toNat < 1) && decide (0 + c6.length ≤ 1)) && underL 0 c6) (.telb 1 1 1 (fun r' j => if r' = ((0 : Int)).toNat ∧ 0 ≤ j ∧ j < 0 + c6.length then c6.getD (j - 0) uU else (rowsOf tint a0_1) r' j) (rowsOf tint c8) (.need (inR .i64 c3) (.go (.l0 c3 c8))))))) c7))) (.lit false c7)))) (.wait 5 (.frz 1 ((decide (1 ≤ 1)) && true) (.vle 5 (.list 1 1 (rowsOf tint a0_1)) (tint.lst a0_1) (.go (.l1 a0_1 0))))))
  | .l1 x1_5 x1_7 => (.br (decide (x1_7 < (p0.shop.moulds.length : Int))) (.go (.l2 x1_7 x1_5 0)) (.out (.r0 x1_5)))
  | .l2 x1_7 x2_5 x2_8 => let c1 := lastOf p0.shop p1 x1_7 x2_8; (.br (decide (x2_8 < p0.shop.features)) (.call 185 [.agg [iI p0.shop.features, tMould.lst p0.shop.moulds, tHead.lst p0.shop.heads], tCast.lst p1, iI x1_7, iI x2_8] (.agg [iI (c1.lo), iI (c1.hi)]) true true (.wait 2 (.own 10 3 1 (.go (.l3 x1_7 x2_5 x2_8 (c1.lo) ([])))))) (.need (inR .i64 (x1_7 + (1 : Int))) (.go (.l1 x2_5 (x1_7 + (1 : Int))))))
  | .l3 x1_7 x2_5 x2_8 x3_11 a3_2 => let c1 : V := .list 1 a3_2.length (rowsRev tint a3_2); let c2 := decide (a3_2.length ≤ a3_2.length); let c3 := tint.lst a3_2.reverse; (.br (decide (x3_11 ≤ (lastOf p0.shop p1 x1_7 x2_8).hi)) (.call 205 [.agg (cC p0), tCast.lst p1, iI x1_7, iI x2_8, iI x3_11] (iI (aboutR p0 p1 x1_7 x2_8 x3_11)) true true (.go (.l4 x1_7 x2_5 x2_8 x3_11 0 a3_2))) (.need (inR .i64 (x2_8 + (1 : Int))) (.frz 2 (c2 && (c2 && (c2 && true))) (.vle 5 c1 c3 (.vle 10 c1 c3 (.vle 106 c1 c3 (.go (.l2 x1_7 a3_2.reverse (x2_8 + (1 : Int))))))))))
  | .l4 x1_7 x2_5 x2_8 x3_11 x4_13 a4_2 => let c1 := (x2_5.getD (x4_13).toNat tint.zero) + (aboutR p0 p1 x1_7 x2_8 x3_11); let c2 := decide (0 ≤ x4_13) && decide (x4_13 < (x2_5.length : Int)); let c3 := x4_13 + (1 : Int); (.br (decide (x4_13 < (x2_5.length : Int))) (.need c2 (.need (inR .i64 c1) (.call 45 [.list 1 a4_2.length (rowsRev tint a4_2), iI c1] (.bool (hasN a4_2.reverse c1)) ((decide (a4_2.length ≤ a4_2.length)) && true) true (.br (!(hasN a4_2.reverse c1)) (.need c2 (.need (inR .i64 c1) (.need ((decide (a4_2.length = a4_2.length) && decide (a4_2.length + 1 ≤ 4294967296)) && decide (1 ≤ 1)) (.scal (fun _ => true) (.need (inR .i64 c3) (.go (.l4 x1_7 x2_5 x2_8 x3_11 c3 (c1 :: a4_2)))))))) (.need (inR .i64 c3) (.go (.l4 x1_7 x2_5 x2_8 x3_11 c3 a4_2))))))) (.need (inR .i64 (x3_11 + (1 : Int))) (.go (.l3 x1_7 x2_5 x2_8 (x3_11 + (1 : Int)) a4_2))))
noncomputable def g183 (p0 : Case) (p1 : List Cast) : P183 → List Item × St
  | .e => bd Tryz.f183 [.agg (cC p0), tCast.lst p1] 106
  | .l0 x0_6 a0_1 => (cutOf Tryz.f183 0, ⟨mk 108 [(1, tCast.lst p1), (2, .ref 0 0 0), (4, .nils), (5, .row 1 1), (6, iI x0_6)], [.cells (cC p0), .rows 3 1 1 (rowsOf tint a0_1)], []⟩)
  | .l1 x1_5 x1_7 => (cutOf Tryz.f183 1, ⟨mk 108 [(1, tCast.lst p1), (2, .ref 0 0 0), (4, .nils), (5, tint.lst x1_5), (7, iI x1_7)], [.cells (cC p0)], []⟩)
  | .l2 x1_7 x2_5 x2_8 => (cutOf Tryz.f183 2, ⟨mk 108 [(1, tCast.lst p1), (2, .ref 0 0 0), (4, .nils), (5, tint.lst x2_5), (7, iI x1_7), (8, iI x2_8), (47, iI x1_7), (48, .ref 0 0 0), (49, .ref 0 0 1), (50, tMould.lst p0.shop.moulds), (51, iI (p0.shop.moulds.length : Int)), (52, .bool (decide (x1_7 < (p0.shop.moulds.length : Int))))], [.cells (cC p0)], []⟩)
  | .l3 x1_7 x2_5 x2_8 x3_11 a3_2 => (cutOf Tryz.f183 3, ⟨mk 108 [(1, tCast.lst p1), (2, .ref 0 0 0), (4, .nils), (5, tint.lst x2_5), (7, iI x1_7), (8, iI x2_8), (9, .ref 1 0 0), (10, .row 2 a3_2.length), (11, iI x3_11), (47, iI x1_7), (48, .ref 0 0 0), (49, .ref 0 0 1), (50, tMould.lst p0.shop.moulds), (51, iI (p0.shop.moulds.length : Int)), (52, .bool (decide (x1_7 < (p0.shop.moulds.length : Int)))), (55, iI x2_8), (56, .ref 0 0 0), (57, .ref 0 0 0), (58, iI p0.shop.features), (59, .bool (decide (x2_8 < p0.shop.features))), (62, .ref 0 0 0), (63, .agg [iI p0.shop.features, tMould.lst p0.shop.moulds, tHead.lst p0.shop.heads]), (64, tCast.lst p1), (65, iI x1_7), (66, iI x2_8), (67, .agg [iI ((lastOf p0.shop p1 x1_7 x2_8).lo), iI ((lastOf p0.shop p1 x1_7 x2_8).hi)]), (68, .ref 1 0 0), (69, iI ((lastOf p0.shop p1 x1_7 x2_8).lo))], [.cells (cC p0), .cells [iI ((lastOf p0.shop p1 x1_7 x2_8).lo), iI ((lastOf p0.shop p1 x1_7 x2_8).hi)], .rows 3 1 a3_2.length (rowsRev tint a3_2)], []⟩)
  | .l4 x1_7 x2_5 x2_8 x3_11 x4_13 a4_2 => (cutOf Tryz.f183 4, ⟨mk 108 [(1, tCast.lst p1), (2, .ref 0 0 0), (4, .nils), (5, tint.lst x2_5), (7, iI x1_7), (8, iI x2_8), (9, .ref 1 0 0), (10, .row 2 a4_2.length), (11, iI x3_11), (12, iI (aboutR p0 p1 x1_7 x2_8 x3_11)), (13, iI x4_13), (47, iI x1_7), (48, .ref 0 0 0), (49, .ref 0 0 1), (50, tMould.lst p0.shop.moulds), (51, iI (p0.shop.moulds.length : Int)), (52, .bool (decide (x1_7 < (p0.shop.moulds.length : Int)))), (55, iI x2_8), (56, .ref 0 0 0), (57, .ref 0 0 0), (58, iI p0.shop.features), (59, .bool (decide (x2_8 < p0.shop.features))), (62, .ref 0 0 0), (63, .agg [iI p0.shop.features, tMould.lst p0.shop.moulds, tHead.lst p0.shop.heads]), (64, tCast.lst p1), (65, iI x1_7), (66, iI x2_8), (67, .agg [iI ((lastOf p0.shop p1 x1_7 x2_8).lo), iI ((lastOf p0.shop p1 x1_7 x2_8).hi)]), (68, .ref 1 0 0), (69, iI ((lastOf p0.shop p1 x1_7 x2_8).lo)), (70, iI x3_11), (71, .ref 1 0 1), (72, iI ((lastOf p0.shop p1 x1_7 x2_8).hi)), (73, .bool (decide (x3_11 ≤ (lastOf p0.shop p1 x1_7 x2_8).hi))), (76, .agg (cC p0)), (77, tCast.lst p1), (78, iI x1_7), (79, iI x2_8), (80, iI x3_11), (81, iI (aboutR p0 p1 x1_7 x2_8 x3_11))], [.cells (cC p0), .cells [iI ((lastOf p0.shop p1 x1_7 x2_8).lo), iI ((lastOf p0.shop p1 x1_7 x2_8).hi)], .rows 3 1 a4_2.length (rowsRev tint a4_2)], []⟩)
noncomputable def n183 : R183 → Exit × St
  | .r0 r0 => (.ret, ⟨mk 108 [(4, tint.lst r0)], [], []⟩)
noncomputable def v183 : R183 → V
  | .r0 r0 => tint.lst r0
theorem s183 (p0 : Case) (p1 : List Cast) : Sm 0 (g183 p0 p1) (T183 p0 p1) (n183)
  | .e => ⟨400, by kernel_rfl⟩
  | .l0 _ _ => ⟨400, by kernel_rfl⟩
  | .l1 _ _ => ⟨400, by kernel_rfl⟩
  | .l2 _ _ _ => ⟨400, by kernel_rfl⟩
  | .l3 _ _ _ _ _ => ⟨400, by kernel_rfl⟩
  | .l4 _ _ _ _ _ _ => ⟨400, by kernel_rfl⟩
theorem q183 : ∀ r, bodyQ Tryz.prog Tryz.f183 (· = v183 r) (n183 r).1 (n183 r).2
  | .r0 r0 => bq (tint.lst r0) (by kernel_rfl)
theorem w183 (p0 : Case) (p1 : List Cast) {post : V → Prop} (h : WQ (T183 p0 p1) v183 post .e) : PC 183 [.agg (cC p0), tCast.lst p1] post :=
  PCalls.wq Tryz.func183 (s183 p0 p1) q183 h
theorem c183 (c : Case) (l : List Cast) (h : OkCase c) (hl : l.length = c.shop.heads.length) (hc : ∀ x ∈ l, CastOk c.shop x) : PC 183 [.agg (tCase.cells c), tCast.lst l] (· = tint.lst (casesR c l)) := by
  have h5 := h.five
  have hm := h.shop.nm
  have hf := h.shop.feat
  refine w183 _ _ (WP.step ?_)
  simp only [T183, Go, Ends', v183, Tr.sure, SS]
  repeat' with_reducible first | intro _ | apply And.intro
  all_goals first | exact tel_lit tint [0] rfl rfl (fun _ => rfl) rfl (by assumption) (by assumption) | skip
  refine WP.run (fun i => .l0 i [castTo c l i]) rfl c.claims.length (fun i hi => ?_) ?_
  · have hr : inR .i64 ((i : Int) + 1) = true := inR64 (by omega) (by omega)
    have hk := h.cl hi
    have hs : castTo c l (i + 1) = if castP c l i = true then castTo c l i + bitZ i else castTo c l i := mask_succ _ _
    have hm0 := mask_lt (p := castP c l) (n := i) (by omega)
    have hb : inR .i64 (castTo c l i + bitZ i) = true := by
      have : bitZ (i : Int) ≤ 32 := by
        rcases show i = 0 ∨ i = 1 ∨ i = 2 ∨ i = 3 ∨ i = 4 by omega with e | e | e | e | e <;> subst e <;> decide
      have := bitZ_pos (i : Int)
      unfold castTo; exact inR64 (by omega) (by omega)
    have hcl : c.claims.getD i zClaim = cl c i := rfl
    have hcall := c44 (cl c i) l 0 hk.kind (fun e => by have := hk.cast e; omega) (fun e => by have := hk.pair e; omega)
    have hg0 : ([castTo c l i] : List Int).getD 0 0 = castTo c l i := rfl
    refine WP.once ?_
    simp only [T183, Tr.sure, SS, hi, z8, z1, hcl, hg0, Int.toNat_zero]
    repeat' with_reducible first | intro _ | apply And.intro
    all_goals first | exact c130 _ | exact hcall | exact c182 _ (by omega) | exact (tel_set tint _ _ _ _ rfl rfl rfl _ _ (by assumption) (by assumption)) | (simp [hr, hb, hs, castP, set_one, underL_int, Go, Ends', v183, -List.getD_eq_getElem?_getD, *]; done)
  · refine WP.step ?_
    simp only [T183, Go, Ends', v183, Tr.sure, SS, Int.lt_irrefl]
    repeat' with_reducible first | intro _ | apply And.intro
    all_goals first | exact tel_one tint _ rfl | (simp [Go, Ends', v183, -List.getD_eq_getElem?_getD, *]; done) | skip
    refine WP.run (fun m => .l1 (mouldR c l m) m) rfl c.shop.moulds.length (fun m hmi => ?_) ?_
    · have hr : inR .i64 ((m : Int) + 1) = true := inR64 (by omega) (by omega)
      have hml := mouldR_le h.shop l m (by omega)
      have hml' : (mouldR c l m).length ≤ 5764801 := Nat.le_trans hml (by
        rcases show m = 0 ∨ m = 1 ∨ m = 2 by omega with e | e | e <;> subst e <;> decide)
      refine WP.step ?_
      simp only [T183, Go, Ends', v183, Tr.sure, SS, hmi]
      repeat' with_reducible first | intro _ | apply And.intro
      obtain ⟨F, hF⟩ : ∃ F : Nat, c.shop.features.toNat = F := ⟨_, rfl⟩
      refine WP.run (fun f => .l2 m (featR c l m (mouldR c l m) f) f) rfl F (fun f hfi => ?_) ?_
      · have hr' : inR .i64 ((f : Int) + 1) = true := inR64 (by omega) (by omega)
        have hfl : (f : Int) < c.shop.features := by omega
        have hcall := c185 c.shop l m f h.shop (by omega) hc (by omega) (by omega)
        have hout : ∀ o ∈ featR c l m (mouldR c l m) f, 0 ≤ o ∧ o < 32 := fun o ho => featR_in h5 hmi (by omega) ho
        have hlen := featR_le h.shop l (m := (m : Int)) (by omega) (mouldR c l m) f (by omega)
        have h7 := pow7 (F := f) (by omega)
        have hlen' : (featR c l m (mouldR c l m) f).length ≤ 20000000 := by
          by_cases hm0 : m = 0
          · subst hm0
            have : (mouldR c l 0).length = 1 := rfl
            rw [this] at hlen; omega
          · have hm1 : m = 1 := by omega
            subst hm1
            have := Nat.mul_le_mul h7 hml
            simp only [Nat.pow_one] at this
            omega
        have hnext : featR c l m (mouldR c l m) (f + 1) = stepR c l m f (featR c l m (mouldR c l m) f) := rfl
        have hwd := wide_le h.shop l (m := (m : Int)) (f := (f : Int)) (by omega) (by omega)
        have hin := lastOf_in h.shop l (m := (m : Int)) (f := (f : Int)) (by omega) (by omega)
        generalize featR c l m (mouldR c l m) f = out at *
        refine WP.step ?_
        simp only [T183, Go, Ends', v183, Tr.sure, SS, hfl]
        repeat' with_reducible first | intro _ | apply And.intro
        all_goals first | exact hcall | skip
        refine WP.run (fun n => .l3 m out f ((lastOf c.shop l m f).lo + (n : Int)) (lastsN c l m f out n).reverse) (by simp [lastsN, natF]) (Go.Proofs.YtdamoemndifpmaaGreat.wide (lastOf c.shop l m f)) (fun n hn => ?_) ?_
        · have hle : (lastOf c.shop l m f).lo + (n : Int) ≤ (lastOf c.shop l m f).hi := by unfold Go.Proofs.YtdamoemndifpmaaGreat.wide at hn; omega
          have hcall2 := c205 c l m f ((lastOf c.shop l m f).lo + (n : Int)) h
          have hown := mask_lt (p := aboutP c l m f ((lastOf c.shop l m f).lo + (n : Int))) h5
          have hr3 : inR .i64 ((lastOf c.shop l m f).lo + (n : Int) + 1) = true := inR64 (by omega) (by omega)
          have hla := lastsN_le c l m f out n
          have hlb : (lastsN c l m f out n).length ≤ 140000000 := Nat.le_trans hla (Nat.le_trans (Nat.mul_le_mul (show n ≤ 7 by omega) hlen') (by decide))
          have hx : (lastOf c.shop l m f).lo + ((n + 1 : Nat) : Int) = (lastOf c.shop l m f).lo + (n : Int) + 1 := by omega
          have hln : lastsN c l m f out (n + 1) = innerN out (aboutR c l m f ((lastOf c.shop l m f).lo + (n : Int))) (lastsN c l m f out n) out.length := rfl
          refine WP.step ?_
          simp only [T183, Go, Ends', v183, Tr.sure, SS, hle]
          repeat' with_reducible first | intro _ | apply And.intro
          all_goals first | exact hcall2 | skip
          refine WP.run (fun k => .l4 m out f ((lastOf c.shop l m f).lo + (n : Int)) k (innerN out (aboutR c l m f ((lastOf c.shop l m f).lo + (n : Int))) (lastsN c l m f out n) k).reverse) rfl out.length (fun k hk => ?_) ?_
          · have hr4 : inR .i64 ((k : Int) + 1) = true := inR64 (by omega) (by omega)
            have ho := hout _ (getD_mem 0 out k hk)
            have hsum : inR .i64 (out.getD k 0 + aboutR c l m f ((lastOf c.shop l m f).lo + (n : Int))) = true := by
              unfold aboutR aboutTo; exact inR64 (by omega) (by omega)
            have hli := innerN_le out (aboutR c l m f ((lastOf c.shop l m f).lo + (n : Int))) (lastsN c l m f out n) k
            have hnx : innerN out (aboutR c l m f ((lastOf c.shop l m f).lo + (n : Int))) (lastsN c l m f out n) (k + 1) = addNew (innerN out (aboutR c l m f ((lastOf c.shop l m f).lo + (n : Int))) (lastsN c l m f out n) k) (out.getD k 0 + aboutR c l m f ((lastOf c.shop l m f).lo + (n : Int))) := rfl
            generalize innerN out (aboutR c l m f ((lastOf c.shop l m f).lo + (n : Int))) (lastsN c l m f out n) k = nx at *
            have hb : nx.length + 1 ≤ 4294967296 := by omega
            have hcall3 := c45r nx.reverse (out.getD k 0 + aboutR c l m f ((lastOf c.shop l m f).lo + (n : Int)))
            refine WP.once ?_
            simp only [T183, Tr.sure, SS, hk, z1]
            repeat' with_reducible first | intro _ | apply And.intro
            all_goals first | exact hcall3 | (simp [hr4, hsum, hb, hnx, addNew, Go, Ends', v183, -List.getD_eq_getElem?_getD, *]; done) | (simp_all [hr4, hsum, hb, hnx, addNew, Go, Ends', v183, -List.getD_eq_getElem?_getD]; done)
          · refine WP.once ?_
            simp only [T183, Tr.sure, SS, Int.lt_irrefl]
            repeat' with_reducible first | intro _ | apply And.intro
            all_goals first | (simp [hr3, hx, hln, Go, Ends', v183, -List.getD_eq_getElem?_getD, *]; done) | (simp_all [hr3, hx, hln, Go, Ends', v183, -List.getD_eq_getElem?_getD]; done)
        · have hle : ¬ (lastOf c.shop l m f).lo + (Go.Proofs.YtdamoemndifpmaaGreat.wide (lastOf c.shop l m f) : Int) ≤ (lastOf c.shop l m f).hi := by unfold Go.Proofs.YtdamoemndifpmaaGreat.wide; omega
          have he : (lastsN c l m f out (Go.Proofs.YtdamoemndifpmaaGreat.wide (lastOf c.shop l m f))).reverse.reverse = stepR c l m f out := by rw [List.reverse_reverse]; rfl
          refine WP.once ?_
          simp only [T183, Tr.sure, SS, hle]
          repeat' with_reducible first | intro _ | apply And.intro
          all_goals first | exact VLe.rev tint _ | (simp [hr', he, hnext, Go, Ends', v183, -List.getD_eq_getElem?_getD, *]; done)
      · have hle : ¬ (F : Int) < c.shop.features := by omega
        have he : mouldR c l (m + 1) = featR c l m (mouldR c l m) F := by rw [← hF]; rfl
        refine WP.once ?_
        simp only [T183, Tr.sure, SS, hle]
        repeat' with_reducible first | intro _ | apply And.intro
        all_goals simp [hr, he, Go, Ends', v183, -List.getD_eq_getElem?_getD, *]
    · refine WP.step ?_
      simp only [T183, Go, Ends', v183, Tr.sure, SS, Int.lt_irrefl]
      repeat' with_reducible first | intro _ | apply And.intro
      all_goals simp [casesR, Go, Ends', v183, -List.getD_eq_getElem?_getD, *]
theorem bit5 : bitZ 5 = 32 := by decide
theorem tel_repB {n r j : Nat} (hr : r < n) : VLe (([.bool false] : List V).getD j uU) (rowsOf tbool (List.replicate n false) r j) := tel_rep tbool false rfl hr
inductive P131
  | e
  | l0 (x0_5 : Int) (a0_1 : List Bool)
  | l1 (x0_5 : Int) (x1_7 : Int) (a1_1 : List Bool)
  | l2 (a0_1 : List Bool) (x2_9 : Int) (a2_2 : List Int)
inductive R131
  | r0 (r0 : List Int)
noncomputable def T131 (p0 : Case) : P131 → Tr P131 R131
  | .e => let c1 := List.replicate (((bitZ 5)).toNat) false; (.call 95 [.agg [iI p0.shop.features, tMould.lst p0.shop.moulds, tHead.lst p0.shop.heads]] ((tlist tCast).lst (truths p0.shop)) true true (.call 182 [iI 5] (iI (bitZ 5)) true true (.need ((decide (0 ≤ (bitZ 5)) && decide ((bitZ 5) = (bitZ 5))) && decide ((bitZ 5) ≤ 4294967296)) (.telb 1 1 (((bitZ 5)).toNat) (fun _ j => ([.bool false] : List V).getD j uU) (rowsOf tbool c1) (.go (.l0 0 c1))))))
  | .l0 x0_5 a0_1 => let c1 := (truths p0.shop).getD (x0_5).toNat (tlist tCast).zero; let c2 := x0_5 < (((truths p0.shop).length) : Int); (.br (decide c2) (.front [] [] (((decide (0 ≤ x0_5) && decide c2) && true) && true) true (.call 183 [.agg (cC p0), tCast.lst c1] (tint.lst (casesR p0 c1)) true true (.go (.l1 x0_5 0 a0_1)))) (.wait 3 (.own 8 3 1 (.go (.l2 a0_1 0 ([]))))))
  | .l1 x0_5 x1_7 a1_1 => let c1 := (casesR p0 ((truths p0.shop).getD (x0_5).toNat (tlist tCast).zero)).getD (x1_7).toNat tint.zero; let c2 := x1_7 < (((casesR p0 ((truths p0.shop).getD (x0_5).toNat (tlist tCast).zero)).length) : Int); let c3 := ([.bool true] : List V); let c4 := a1_1.set ((c1).toNat) true; (.br (decide c2) (.need (decide (0 ≤ x1_7) && decide c2) (.need ((decide (0 ≤ c1) && decide (c1 < ((((bitZ 5)).toNat) : Int))) && decide (((bitZ 5)).toNat ≤ ((bitZ 5)).toNat)) (.need ((decide ((c1).toNat < ((bitZ 5)).toNat) && decide (0 + c3.length ≤ 1)) && underL 0 c3) (.telb 1 1 (((bitZ 5)).toNat) (fun r' j => if r' = (c1).toNat ∧ 0 ≤ j ∧ j < 0 + c3.length then c3.getD (j - 0) uU else (rowsOf tbool a1_1) r' j) (rowsOf tbool c4) (.need (inR .i64 (x1_7 + (1 : Int))) (.go (.l1 x0_5 (x1_7 + (1 : Int)) c4))))))) (.need (inR .i64 (x0_5 + (1 : Int))) (.go (.l0 (x0_5 + (1 : Int)) a1_1))))
  | .l2 a0_1 x2_9 a2_2 => let c1 := x2_9 + (1 : Int); let c2 := x2_9 < ((((bitZ 5)).toNat) : Int); (.br (decide c2) (.need ((decide (0 ≤ x2_9) && decide c2) && decide (((bitZ 5)).toNat ≤ ((bitZ 5)).toNat)) (.need (decide ((x2_9).toNat < ((bitZ 5)).toNat) && decide (0 < 1)) (.br (a0_1.getD (x2_9).toNat tbool.zero) (.need ((decide (a2_2.length = a2_2.length) && decide (a2_2.length + 1 ≤ 4294967296)) && decide (1 ≤ 1)) (.scal (fun _ => true) (.need (inR .i64 c1) (.go (.l2 a0_1 c1 (x2_9 :: a2_2)))))) (.need (inR .i64 c1) (.go (.l2 a0_1 c1 a2_2)))))) (.out (.r0 a2_2)))
noncomputable def g131 (p0 : Case) : P131 → List Item × St
  | .e => bd Tryz.f131 [.agg (cC p0)] 53
  | .l0 x0_5 a0_1 => (cutOf Tryz.f131 0, ⟨mk 54 [(1, .ref 0 0 0), (2, .nils), (3, (tlist tCast).lst (truths p0.shop)), (4, .row 1 (((bitZ 5)).toNat)), (5, iI x0_5)], [.cells (cC p0), .rows 4 1 (((bitZ 5)).toNat) (rowsOf tbool a0_1)], []⟩)
  | .l1 x0_5 x1_7 a1_1 => (cutOf Tryz.f131 1, ⟨mk 54 [(1, .ref 0 0 0), (2, .nils), (3, (tlist tCast).lst (truths p0.shop)), (4, .row 1 (((bitZ 5)).toNat)), (5, iI x0_5), (6, tint.lst (casesR p0 ((truths p0.shop).getD (x0_5).toNat (tlist tCast).zero))), (7, iI x1_7), (15, iI x0_5), (16, (tlist tCast).lst (truths p0.shop)), (17, iI (((truths p0.shop).length) : Int)), (18, .bool (decide (x0_5 < (((truths p0.shop).length) : Int)))), (21, .agg (cC p0)), (22, (tlist tCast).lst (truths p0.shop)), (23, iI x0_5), (24, rR (tCast.lst ((truths p0.shop).getD (x0_5).toNat (tlist tCast).zero))), (25, tCast.lst ((truths p0.shop).getD (x0_5).toNat (tlist tCast).zero)), (26, tint.lst (casesR p0 ((truths p0.shop).getD (x0_5).toNat (tlist tCast).zero)))], [.cells (cC p0), .rows 4 1 (((bitZ 5)).toNat) (rowsOf tbool a1_1)], []⟩)
  | .l2 a0_1 x2_9 a2_2 => (cutOf Tryz.f131 2, ⟨mk 54 [(2, .nils), (4, .row 1 (((bitZ 5)).toNat)), (8, .row 2 a2_2.length), (9, iI x2_9)], [.gone, .rows 4 1 (((bitZ 5)).toNat) (rowsOf tbool a0_1), .rows 3 1 a2_2.length (rowsRev tint a2_2)], []⟩)
noncomputable def n131 : R131 → Exit × St
  | .r0 r0 => (.ret, ⟨mk 54 [(2, .row 2 r0.length)], [.gone, .gone, .rows 3 1 r0.length (rowsRev tint r0)], []⟩)
noncomputable def v131 : R131 → V
  | .r0 r0 => tint.lst r0.reverse
theorem s131 (p0 : Case) : Sm 0 (g131 p0) (T131 p0) (n131)
  | .e => ⟨400, by kernel_rfl⟩
  | .l0 _ _ => ⟨400, by kernel_rfl⟩
  | .l1 _ _ _ => ⟨400, by kernel_rfl⟩
  | .l2 _ _ _ => ⟨400, by kernel_rfl⟩
theorem q131 : ∀ r, bodyQ Tryz.prog Tryz.f131 (· = v131 r) (n131 r).1 (n131 r).2
  | .r0 r0 => ⟨.inr rfl, by simp [n131], (.row 2 r0.length), (tint.lst r0.reverse), by kernel_rfl, (.weak (.row rfl (Nat.le_refl _)) (VLe.rev tint r0)), rfl⟩
theorem w131 (p0 : Case) {post : V → Prop} (h : WQ (T131 p0) v131 post .e) : PC 131 [.agg (cC p0)] post :=
  PCalls.wq Tryz.func131 (s131 p0) q131 h
theorem c131 (c : Case) (h : OkCase c) : PC 131 [.agg (tCase.cells c)] (· = tint.lst (caseSets c)) := by
  have h5 := h.five
  have hts := grow_small h.shop (n := c.shop.heads.length) h.shop.nh
  have htl : (truths c.shop).length ≤ 4096 := hts
  refine w131 _ (WP.step ?_)
  simp only [T131, Go, Ends', v131, Tr.sure, SS]
  repeat' with_reducible first | intro _ | apply And.intro
  all_goals first | exact c95 _ h.shop | exact c182 _ (by omega) | exact tel_repB (by assumption) | (simp [bit5, Go, Ends', v131, -List.getD_eq_getElem?_getD, *]; done) | skip
  rw [bit5]
  refine WP.run (fun i => .l0 i (metTo c i)) rfl (truths c.shop).length (fun i hi => ?_) ?_
  · have hr : inR .i64 ((i : Int) + 1) = true := inR64 (by omega) (by omega)
    obtain ⟨g1, g2⟩ := grow_mem (getD_mem [] (truths c.shop) i hi)
    have hcall := c183 c ((truths c.shop).getD i []) h g1 g2
    have hin : ∀ x ∈ casesR c ((truths c.shop).getD i []), 0 ≤ x ∧ x < 32 := fun x hx => casesR_lt h5 hx
    have hn : metTo c (i + 1) = markTo (casesR c ((truths c.shop).getD i [])) (metTo c i) (casesR c ((truths c.shop).getD i [])).length := rfl
    have hml := metTo_len c i
    have hcl : (casesR c ((truths c.shop).getD i [])).length ≤ 5764801 := Nat.le_trans (mouldR_le h.shop _ _ (Nat.le_refl _)) (by
      have := h.shop.nm
      rcases show c.shop.moulds.length = 0 ∨ c.shop.moulds.length = 1 ∨ c.shop.moulds.length = 2 by omega with e | e | e <;> rw [e] <;> decide)
    refine WP.step ?_
    simp only [T131, Go, Ends', v131, Tr.sure, SS, hi, z6]
    repeat' with_reducible first | intro _ | apply And.intro
    all_goals first | exact hcall | skip
    generalize hL : casesR c ((truths c.shop).getD i []) = L at *
    refine WP.run (fun k => .l1 i k (markTo L (metTo c i) k)) rfl L.length (fun k hk => ?_) ?_
    · have hr' : inR .i64 ((k : Int) + 1) = true := inR64 (by omega) (by omega)
      have hx := hin _ (getD_mem 0 L k hk)
      have hx' : (L.getD k 0).toNat < 32 := by omega
      have hln : markTo L (metTo c i) (k + 1) = (markTo L (metTo c i) k).set (L.getD k 0).toNat true := rfl
      have hml' := (markTo_len L (metTo c i) k).trans hml
      refine WP.once ?_
      simp only [T131, Tr.sure, SS, hk, z6, z1, bit5, hL, hx, hx']
      repeat' with_reducible first | intro _ | apply And.intro
      all_goals first | exact (tel_set tbool _ _ _ _ rfl rfl hml'.symm _ _ (by assumption) (by assumption)) | (simp [hr', hx, hx', hln, underL_bool, bit5, Go, Ends', v131, -List.getD_eq_getElem?_getD, *]; done)
    · refine WP.once ?_
      simp only [T131, Tr.sure, SS, Int.lt_irrefl, z6, hL]
      repeat' with_reducible first | intro _ | apply And.intro
      all_goals simp [hr, hn, Go, Ends', v131, -List.getD_eq_getElem?_getD, *]
  · refine WP.step ?_
    simp only [T131, Go, Ends', v131, Tr.sure, SS, Int.lt_irrefl]
    repeat' with_reducible first | intro _ | apply And.intro
    refine WP.run (fun n => .l2 (metTo c (truths c.shop).length) n ((((List.range n).filter fun s => (metTo c (truths c.shop).length).getD s false).map fun (s : Nat) => (s : Int)).reverse)) rfl 32 (fun n hn => ?_) ?_
    · have hr : inR .i64 ((n : Int) + 1) = true := inR64 (by omega) (by omega)
      have hn' : (n : Int) < 32 := by omega
      have hl := List.length_filter_le (fun s => (metTo c (truths c.shop).length).getD s false) (List.range n)
      rw [List.length_range] at hl
      have hb : ((((List.range n).filter fun s => (metTo c (truths c.shop).length).getD s false).map fun (s : Nat) => (s : Int)).reverse).length + 1 ≤ 4294967296 := by rw [List.length_reverse, List.length_map]; omega
      refine WP.once ?_
      simp only [T131, Tr.sure, SS, hn, hn', z9, bit5]
      repeat' with_reducible first | intro _ | apply And.intro
      all_goals first | (simp [hr, hb, List.range_succ, hn, hn', Go, Ends', v131, -List.getD_eq_getElem?_getD, *]; done) | (simp_all [hr, hb, List.range_succ, hn, hn', Go, Ends', v131, -List.getD_eq_getElem?_getD]; done)
    · refine WP.step ?_
      simp only [T131, Go, Ends', v131, Tr.sure, SS, bit5]
      repeat' with_reducible first | intro _ | apply And.intro
      all_goals first | (simp [caseSets_met h5, Go, Ends', v131, -List.getD_eq_getElem?_getD, *]; done) | (simp_all [caseSets_met h5, Go, Ends', v131, -List.getD_eq_getElem?_getD]; done)
end
noncomputable section
inductive P103
  | e
  | l0
  | l100
inductive R103
  | r0 (r0 : Int) (r1 : List Mould) (r2 : List Head)
  | r1 (r0 : Int) (r1 : List Mould) (r2 : List Int)
noncomputable def T103 (s : Shop) (e : Entry) : P103 → Tr P103 R103
  | .e => let c1 := rowsOf tHead s.heads; (.need ((decide (0 = 0) && decide (0 + s.heads.length ≤ 4294967296)) && true) (.scal (fun r => (List.range 2).all fun j => (c1 r j).scalar) (.telb 2 2 (0 + s.heads.length) (appC 0 (litC 2 0 []) c1) c1 (.go (.l0)))))
  | .l0 => let c2 := ([e] : List Entry).getD ((0 : Int)).toNat tEntry.zero; let c1 := s.heads.getD (c2.head).toNat tHead.zero; let c3 := decide (0 ≤ (0 : Int)) && decide ((0 : Int) < ((([e] : List Entry).length) : Int)); let c4 : List V := [.str (c1.name), .row 4 (0 + c1.shows.length)]; let c5 := (decide (0 ≤ c2.head) && decide (c2.head < ((0 + s.heads.length) : Int))) && decide ((0 + s.heads.length) ≤ (0 + s.heads.length)); let c6 := rowsOf tint ((c1.shows).set ((c2.feature).toNat) 0); let c7 := rowsOf tint (c1.shows); let c8 : List V := [iI s.features, tMould.lst s.moulds, tHead.lst s.heads]; let c9 := ([iI 0] : List V); (.br (decide ((0 : Int) < ((([e] : List Entry).length) : Int))) (.need c3 (.need c5 (.need (decide ((c2.head).toNat < (0 + s.heads.length)) && decide (0 + 2 ≤ 2)) (.need ((decide (0 = 0) && decide (0 + c1.shows.length ≤ 4294967296)) && true) (.scal (fun r => (List.range 1).all fun j => (c7 r j).scalar) (.telb 4 1 (0 + c1.shows.length) (appC 0 (litC 1 0 []) c7) c7 (.front [] [] ((c3 && true) && true) true (.need ((decide (0 ≤ c2.feature) && decide (c2.feature < ((0 + c1.shows.length) : Int))) && decide ((0 + c1.shows.length) ≤ (0 + c1.shows.length))) (.need ((decide ((c2.feature).toNat < (0 + c1.shows.length)) && decide (0 + c9.length ≤ 1)) && underL 0 c9) (.telb 4 1 (0 + c1.shows.length) (fun r' j => if r' = (c2.feature).toNat ∧ 0 ≤ j ∧ j < 0 + c9.length then c9.getD (j - 0) uU else c7 r' j) c6 (.front [] [] ((c3 && true) && true) true (.need c5 (.sem (opAt Tryz.f103 8 8) [(.tmp 46, .ref 2 ((c2.head).toNat) 0), (.tmp 45, .agg c4)] [.cells c8, .cells [iI 0, .nils, .nils], .rows 78 2 (0 + s.heads.length) (rowsOf tHead s.heads), .cells c4, .rows 3 1 (0 + c1.shows.length) c6] (uU) [.cells c8, .cells [iI 0, .nils, .nils], .rowsL 78 2 (0 + s.heads.length) (fun r' q => if r' = (c2.head).toNat then (c4 : List V).getD q uU else (rowsOf tHead s.heads) r' q) ((c2.head).toNat) 1 (.row 4 (0 + c1.shows.length)), .cells c4, .rows 3 1 (0 + c1.shows.length) c6] true (.need (inR .i64 ((0 : Int) + (1 : Int))) (.go (.l100)))))))))))))))) (.out (.r0 s.features s.moulds s.heads)))
  | .l100 => let c1 := ([e] : List Entry).getD ((0 : Int)).toNat tEntry.zero; (.br (decide (((0 : Int) + (1 : Int)) < ((([e] : List Entry).length) : Int))) (.wait 4 .never) (.out (.r1 s.features s.moulds (((s.heads.getD (c1.head).toNat tHead.zero).shows).set ((c1.feature).toNat) 0))))
noncomputable def g103 (s : Shop) (e : Entry) : P103 → List Item × St
  | .e => bd Tryz.f103 [.agg [iI s.features, tMould.lst s.moulds, tHead.lst s.heads], tEntry.lst ([e] : List Entry)] 48
  | .l0 => (cutOf Tryz.f103 0, ⟨mk 50 [(1, tEntry.lst ([e] : List Entry)), (2, .ref 0 0 0), (4, .ref 1 0 0), (5, .row 2 (0 + s.heads.length)), (6, iI 0)], [.cells [iI s.features, tMould.lst s.moulds, tHead.lst s.heads], .cells [iI 0, .nils, .nils], .rows 78 2 (0 + s.heads.length) (rowsOf tHead s.heads)], []⟩)
  | .l100 => (cutOf Tryz.f103 0, ⟨mk 50 [(1, tEntry.lst ([e] : List Entry)), (2, .ref 0 0 0), (4, .ref 1 0 0), (5, .row 2 (0 + s.heads.length)), (6, iI ((0 : Int) + (1 : Int)))], [.cells [iI s.features, tMould.lst s.moulds, tHead.lst s.heads], .cells [iI 0, .nils, .nils], .rowsL 78 2 (0 + s.heads.length) (fun r' q => if r' = ((([e] : List Entry).getD ((0 : Int)).toNat tEntry.zero).head).toNat then ([.str ((s.heads.getD ((([e] : List Entry).getD ((0 : Int)).toNat tEntry.zero).head).toNat tHead.zero).name), .row 4 (0 + (s.heads.getD ((([e] : List Entry).getD ((0 : Int)).toNat tEntry.zero).head).toNat tHead.zero).shows.length)] : List V).getD q uU else (rowsOf tHead s.heads) r' q) (((([e] : List Entry).getD ((0 : Int)).toNat tEntry.zero).head).toNat) 1 (.row 4 (0 + (s.heads.getD ((([e] : List Entry).getD ((0 : Int)).toNat tEntry.zero).head).toNat tHead.zero).shows.length)), .gone, .rows 3 1 (0 + (s.heads.getD ((([e] : List Entry).getD ((0 : Int)).toNat tEntry.zero).head).toNat tHead.zero).shows.length) (rowsOf tint (((s.heads.getD ((([e] : List Entry).getD ((0 : Int)).toNat tEntry.zero).head).toNat tHead.zero).shows).set (((([e] : List Entry).getD ((0 : Int)).toNat tEntry.zero).feature).toNat) 0))], []⟩)
noncomputable def n103 (s : Shop) (e : Entry) : R103 → Exit × St
  | .r0 r0 r1 r2 => (.ret, ⟨mk 50 [(4, .ref 1 0 0)], [.gone, .cells [iI r0, tMould.lst r1, .row 2 (0 + s.heads.length)], .rows 78 2 (0 + s.heads.length) (rowsOf tHead r2)], []⟩)
  | .r1 r0 r1 r2 => (.ret, ⟨mk 50 [(4, .ref 1 0 0)], [.gone, .cells [iI r0, tMould.lst r1, .row 2 (0 + s.heads.length)], .rowsL 78 2 (0 + s.heads.length) (fun r' q => if r' = ((([e] : List Entry).getD ((0 : Int)).toNat tEntry.zero).head).toNat then ([.str ((s.heads.getD ((([e] : List Entry).getD ((0 : Int)).toNat tEntry.zero).head).toNat tHead.zero).name), .row 4 (0 + (s.heads.getD ((([e] : List Entry).getD ((0 : Int)).toNat tEntry.zero).head).toNat tHead.zero).shows.length)] : List V).getD q uU else (rowsOf tHead s.heads) r' q) (((([e] : List Entry).getD ((0 : Int)).toNat tEntry.zero).head).toNat) 1 (.row 4 (0 + (s.heads.getD ((([e] : List Entry).getD ((0 : Int)).toNat tEntry.zero).head).toNat tHead.zero).shows.length)), .gone, .rows 3 1 (0 + (s.heads.getD ((([e] : List Entry).getD ((0 : Int)).toNat tEntry.zero).head).toNat tHead.zero).shows.length) (rowsOf tint r2)], []⟩)
theorem s103 (s : Shop) (e : Entry) : Sm 0 (g103 s e) (T103 s e) (n103 s e)
  | .e => ⟨400, by kernel_rfl⟩
  | .l0 => ⟨400, by kernel_rfl⟩
  | .l100 => ⟨400, by kernel_rfl⟩
noncomputable def hh103 (s : Shop) (e : Entry) : R103 → List Blk
  | .r0 r0 r1 r2 => [.gone, .cells [iI r0, tMould.lst r1, .row 2 (0 + s.heads.length)], .rows 78 2 (0 + s.heads.length) (rowsOf tHead r2)]
  | .r1 r0 r1 r2 => [.gone, .cells [iI r0, tMould.lst r1, .row 2 (0 + s.heads.length)], .rowsL 78 2 (0 + s.heads.length) (fun r' q => if r' = ((([e] : List Entry).getD ((0 : Int)).toNat tEntry.zero).head).toNat then ([.str ((s.heads.getD ((([e] : List Entry).getD ((0 : Int)).toNat tEntry.zero).head).toNat tHead.zero).name), .row 4 (0 + (s.heads.getD ((([e] : List Entry).getD ((0 : Int)).toNat tEntry.zero).head).toNat tHead.zero).shows.length)] : List V).getD q uU else (rowsOf tHead s.heads) r' q) (((([e] : List Entry).getD ((0 : Int)).toNat tEntry.zero).head).toNat) 1 (.row 4 (0 + (s.heads.getD ((([e] : List Entry).getD ((0 : Int)).toNat tEntry.zero).head).toNat tHead.zero).shows.length)), .gone, .rows 3 1 (0 + (s.heads.getD ((([e] : List Entry).getD ((0 : Int)).toNat tEntry.zero).head).toNat tHead.zero).shows.length) (rowsOf tint r2)]
noncomputable def v103 (s : Shop) (e : Entry) : R103 → V
  | .r0 r0 r1 r2 => .agg [iI r0, tMould.lst r1, .row 2 (0 + s.heads.length)]
  | .r1 r0 r1 r2 => .agg [iI r0, tMould.lst r1, .row 2 (0 + s.heads.length)]
theorem q103 (s : Shop) (e : Entry) : ∀ r, ((n103 s e r).1 = .normal ∨ (n103 s e r).1 = .ret) ∧ (n103 s e r).2.d = [] ∧ (n103 s e r).2.h = hh103 s e r ∧ resultV Tryz.prog Tryz.f103 (n103 s e r).2 = some (v103 s e r)
  | .r0 r0 r1 r2 => ⟨.inr rfl, rfl, rfl, by kernel_rfl⟩
  | .r1 r0 r1 r2 => ⟨.inr rfl, rfl, rfl, by kernel_rfl⟩
theorem w103 (s : Shop) (e : Entry) {V0 : V} {h' : List Blk} (h : WP Tryz.prog ⟨none, 0⟩ (T103 s e) (Ends' fun r => v103 s e r = V0 ∧ hh103 s e r = h') .e) : HCalls Tryz.prog 103 [.agg [iI s.features, tMould.lst s.moulds, tHead.lst s.heads], tEntry.lst ([e] : List Entry)] V0 [] h' :=
  HCalls.wp mx Tryz.func103 (by kernel_rfl) (by kernel_rfl) (T103 s e) (g103 s e) (n103 s e) .e rfl (s103 s e) h fun r hr => by rw [← hr.1, ← hr.2]; exact q103 s e r
def heap103 (s : Shop) (e : Entry) : List Blk :=
  [.gone, .cells [iI s.features, tMould.lst s.moulds, .row 2 s.heads.length],
   .rowsL 78 2 s.heads.length (fun r' q => if r' = e.head.toNat then ([.str (s.heads.getD e.head.toNat zHead).name, .row 4 (s.heads.getD e.head.toNat zHead).shows.length] : List V).getD q uU else (rowsOf tHead s.heads) r' q) e.head.toNat 1 (.row 4 (s.heads.getD e.head.toNat zHead).shows.length),
   .gone, .rows 3 1 (s.heads.getD e.head.toNat zHead).shows.length (rowsOf tint ((s.heads.getD e.head.toNat zHead).shows.set e.feature.toNat 0))]
theorem c103' (s : Shop) (e : Entry) (h1 : 0 ≤ e.head ∧ e.head < s.heads.length) (h2 : 0 ≤ e.feature ∧ e.feature < (s.heads.getD e.head.toNat zHead).shows.length) (h3 : s.heads.length ≤ 4294967296) (h4 : (s.heads.getD e.head.toNat zHead).shows.length ≤ 4294967296) :
    HCalls Tryz.prog 103 [.agg (tShop.cells s), tEntry.lst [e]] (.agg [iI s.features, tMould.lst s.moulds, .row 2 s.heads.length]) [] (heap103 s e) := by
  have hr : e.head.toNat < s.heads.length := by omega
  have hf : e.feature.toNat < (s.heads.getD e.head.toNat zHead).shows.length := by omega
  have e0 : ([e] : List Entry).getD (0 : Int).toNat tEntry.zero = e := rfl
  have hn : 0 + s.heads.length = s.heads.length := Nat.zero_add _
  have hm : 0 + (s.heads.getD e.head.toNat zHead).shows.length = (s.heads.getD e.head.toNat zHead).shows.length := Nat.zero_add _
  refine w103 _ _ (WP.step ?_)
  simp only [T103, Go, Ends', v103, Tr.sure, SS, e0]
  repeat' with_reducible first | intro _ | apply And.intro
  all_goals first | exact (VLe.app0 _ _) | exact (show ((List.range 2).all fun j => (rowsOf tHead s.heads _ j).scalar) = true from rfl) | (simp [hh103, Go, Ends', v103, -List.getD_eq_getElem?_getD, *]; done) | skip
  refine WP.step ?_
  simp only [T103, Go, Ends', v103, Tr.sure, SS, e0, z3, h1.1, h1.2, h2.1, h2.2, hr, hf, hn, hm]
  repeat' with_reducible first | intro _ | apply And.intro
  all_goals first | exact (VLe.app0 _ _) | (simp [hh103, hn, hm, Go, Ends', v103, -List.getD_eq_getElem?_getD, *]; done) | (simp_all [hh103, hn, hm, Go, Ends', v103, -List.getD_eq_getElem?_getD]; done) | skip
  · rfl
  · rfl
  · exact tel_set tint _ _ _ _ rfl rfl rfl _ _ (by assumption) (by assumption)
  · refine sem_storeLA (by kernel_rfl) (by kernel_rfl) rfl rfl hr (by decide) fun q q1 q2 => ?_
    have q3 : q = 0 := by omega
    subst q3; rfl
  · decide
  · refine WP.step ?_
    simp only [T103, Go, Ends', v103, Tr.sure, SS, e0, z3, hn, hm]
    repeat' with_reducible first | intro _ | apply And.intro
    all_goals simp_all [hh103, hn, hm, heap103, Go, Ends', v103, -List.getD_eq_getElem?_getD]
inductive P53
  | e
inductive R53
  | r0 (r0_0 : Int) (r0_1 : List Mould) (r0_2 : List Head) (r0_3 : List Int) (r0_4 : List Claim)
noncomputable def T53 (c : Case) (y : Entry) (n : Int) : P53 → Tr P53 R53
  | .e => let c1 := c.shop.heads.getD (y.head).toNat zHead; let c3 := (decide (c.shop.heads.length ≤ c.shop.heads.length)) && true; let c4 := (c1.shows.set (y.feature).toNat 0).set ((y.feature).toNat) n; let c2 := c.shop.heads.set ((y.head).toNat) (⟨c1.name, c4⟩ : Head); let c6 := c1.shows.length; let c7 : List V := [iI c.shop.features, tMould.lst c.shop.moulds, tHead.lst c2, tint.lst c.owners, tClaim.lst c.claims]; let c8 : List V := [iI c.shop.features, tMould.lst c.shop.moulds, .row 6 c.shop.heads.length]; let c9 := c1.shows.length ≤ c1.shows.length; let c10 := rowsOf tint (c1.shows.set (y.feature).toNat 0); let c11 : List V := [iI y.head, iI y.feature]; let c12 := ([iI n] : List V); let c13 : List V := [iI 0, .nils, .nils, .nils, .nils]; let c14 := rowsOf tHead c2; let c5 : List V := [iI c.shop.features, tMould.lst c.shop.moulds, .list 2 c.shop.heads.length c14, tint.lst c.owners, tClaim.lst c.claims]; let c15 := rowsOf tint c4; let c16 : List V := [.str (c1.name), .row 4 c6]; let c17 := rowsOf tHead c.shop.heads; (.wait 4 (.frz 3 ((decide (1 ≤ 1)) && true) (.wait 0 (.vle 10 (.list 2 1 (litC 2 1 c11)) (tEntry.lst ([y] : List Entry)) (.hcall 103 [.agg [iI c.shop.features, tMould.lst c.shop.moulds, tHead.lst c.shop.heads], tEntry.lst ([y] : List Entry)] (.agg c8) [.cells (cC c), .cells c11, .cells c13, .gone] [.cells (cC c), .cells c11, .cells c13, .gone, .gone, .cells c8, .rowsL 78 2 c.shop.heads.length (fun r' q => if r' = (y.head).toNat then (c16 : List V).getD q uU else c17 r' q) ((y.head).toNat) 1 (.row 8 c6), .gone, .rows 3 1 c6 c10] true (.front [] [] ((((decide (0 ≤ y.head) && decide (y.head < (c.shop.heads.length : Int))) && decide (c.shop.heads.length ≤ c.shop.heads.length)) && ((decide ((y.head).toNat = (y.head).toNat) && decide (1 = 1)) && true)) && true) true (.need ((decide (0 ≤ y.feature) && decide (y.feature < (c6 : Int))) && decide c9) (.need ((decide ((y.feature).toNat < c1.shows.length) && decide (0 + c12.length ≤ 1)) && underL 0 c12) (.telb 8 1 c6 (fun r' j => if r' = (y.feature).toNat ∧ 0 ≤ j ∧ j < 0 + c12.length then c12.getD (j - 0) uU else c10 r' j) c15 (.wait 2 (.frz 8 (((decide c9) && true) && ((decide c9) && true)) (.vle 20 (.list 1 c6 c15) (tint.lst c4) (.telb 6 2 c.shop.heads.length (fun r' j' => if r' = (y.head).toNat ∧ j' = 1 then (.list 1 c6 c15 : V) else (fun r' q => if r' = (y.head).toNat then (c16 : List V).getD q uU else c17 r' q) r' j') c14 (.frz 6 (c3 && (c3 && (c3 && (c3 && true)))) (.vle 15 (.list 2 c.shop.heads.length c14) (tHead.lst c2) (.telc 0 c5 c7 (.telc 2 c5 c7 (.telc 5 [iI c.shop.features, tMould.lst c.shop.moulds, .list 2 c.shop.heads.length c14] [iI c.shop.features, tMould.lst c.shop.moulds, tHead.lst c2] (.out (.r0 c.shop.features c.shop.moulds c2 c.owners c.claims))))))))))))))))))))
noncomputable def g53 (c : Case) (y : Entry) (n : Int) : P53 → List Item × St
  | .e => bd Tryz.f53 [.agg (cC c), .agg [iI y.head, iI y.feature], iI n] 23
noncomputable def n53 : R53 → Exit × St
  | .r0 r0_0 r0_1 r0_2 r0_3 r0_4 => (.ret, ⟨mk 26 [(6, .ref 2 0 0)], [.gone, .gone, .cells [iI r0_0, tMould.lst r0_1, tHead.lst r0_2, tint.lst r0_3, tClaim.lst r0_4]], []⟩)
noncomputable def v53 : R53 → V
  | .r0 r0_0 r0_1 r0_2 r0_3 r0_4 => .agg [iI r0_0, tMould.lst r0_1, tHead.lst r0_2, tint.lst r0_3, tClaim.lst r0_4]
theorem s53 (c : Case) (y : Entry) (n : Int) : Sm 0 (g53 c y n) (T53 c y n) (n53)
  | .e => ⟨400, by kernel_rfl⟩
theorem q53 : ∀ r, bodyQ Tryz.prog Tryz.f53 (· = v53 r) (n53 r).1 (n53 r).2
  | .r0 r0_0 r0_1 r0_2 r0_3 r0_4 => bq (.agg [iI r0_0, tMould.lst r0_1, tHead.lst r0_2, tint.lst r0_3, tClaim.lst r0_4]) (by kernel_rfl)
theorem w53 (c : Case) (y : Entry) (n : Int) {post : V → Prop} (h : WQ (T53 c y n) v53 post .e) : PC 53 [.agg (cC c), .agg [iI y.head, iI y.feature], iI n] post :=
  PCalls.wq Tryz.func53 (s53 c y n) q53 h
theorem set_set' (l : List Int) (i : Nat) (a b : Int) : (l.set i a).set i b = l.set i b := by simp
theorem tel_rowLA {τ : Type} (E : Ty τ) (l : List τ) (r0 j0 : Nat) (x : τ) {v : V} {cs : List V} (hv : VLe v ((E.cells x).getD j0 uU)) (ho : ∀ j, j ≠ j0 → cs.getD j uU = (E.cells x).getD j uU) {r j : Nat} (hr : r < l.length) :
    VLe (if r = r0 ∧ j = j0 then v else if r = r0 then cs.getD j uU else rowsOf E l r j) (rowsOf E (l.set r0 x) r j) := by
  by_cases h : r = r0
  · subst h
    have e : (l.set r x).getD r E.zero = x := by rw [List.getD_eq_getElem?_getD, List.getElem?_set_self hr]; rfl
    by_cases hj : j = j0
    · subst hj; simp only [and_self, if_true, rowsOf, e]; exact hv
    · simp only [hj, and_false, if_false, if_true, rowsOf, e, ho j hj]; exact VLe.refl _
  · have e : (l.set r0 x).getD r E.zero = l.getD r E.zero := by rw [List.getD_eq_getElem?_getD, List.getElem?_set_ne (Ne.symm h), ← List.getD_eq_getElem?_getD]
    simp only [h, false_and, if_false, rowsOf, e]; exact VLe.refl _
theorem heads_self (nm : ByteArray) (s : List Int) (v : V) : ∀ j, j ≠ 1 → ([.str nm, v] : List V).getD j uU = (tHead.cells ⟨nm, s⟩).getD j uU
  | 0, _ => rfl
  | 1, h => absurd rfl h
  | _ + 2, _ => rfl
theorem c53 (c : Case) (y : Entry) (n : Int) (h1 : 0 ≤ y.head ∧ y.head < c.shop.heads.length) (h2 : 0 ≤ y.feature ∧ y.feature < (c.shop.heads.getD y.head.toNat zHead).shows.length) (h3 : c.shop.heads.length ≤ 4294967296) (h4 : (c.shop.heads.getD y.head.toNat zHead).shows.length ≤ 4294967296) :
    PC 53 [.agg (tCase.cells c), .agg (tEntry.cells y), iI n] (· = .agg (tCase.cells (readC c y.head y.feature n))) := by
  have hr : y.head.toNat < c.shop.heads.length := by omega
  have hf : y.feature.toNat < (c.shop.heads.getD y.head.toNat zHead).shows.length := by omega
  refine w53 _ _ _ (WP.step ?_)
  simp only [T53, Go, Ends', v53, Tr.sure, SS, h1.1, h1.2, h2.1, h2.2, hr, hf, z1, z3]
  repeat' with_reducible first | intro _ | apply And.intro
  all_goals first | exact (c103' c.shop y h1 h2 h3 h4).frame rfl rfl _ | (simp [Go, Ends', v53, -List.getD_eq_getElem?_getD, *]; done) | skip
  all_goals
    have hs : (c.shop.heads.getD y.head.toNat zHead).shows.length = (((c.shop.heads.getD y.head.toNat zHead).shows.set y.feature.toNat 0).set y.feature.toNat n).length := by simp
    have hh : c.shop.heads.length = (c.shop.heads.set y.head.toNat ⟨(c.shop.heads.getD y.head.toNat zHead).name, ((c.shop.heads.getD y.head.toNat zHead).shows.set y.feature.toNat 0).set y.feature.toNat n⟩).length := by simp
    have h0 : (c.shop.heads.getD y.head.toNat zHead).shows.length = ((c.shop.heads.getD y.head.toNat zHead).shows.set y.feature.toNat 0).length := by simp
    first
    | rfl
    | exact (c103' c.shop y h1 h2 h3 h4).frame rfl rfl [_, _, _, _]
    | exact VLe.lit tEntry [y] rfl rfl (fun _ => rfl)
    | exact VLe.same tint _ hs
    | exact VLe.same tHead _ hh
    | exact tel_set tint _ _ _ _ rfl rfl h0 _ _ (by assumption) (by assumption)
    | exact tel_rowLA tHead _ _ _ _ (VLe.same tint _ hs) (heads_self _ _ _) (by assumption)
    | exact VLe.cons (VLe.refl _) (VLe.cons (VLe.refl _) (VLe.cons (VLe.same tHead _ hh) fun _ => VLe.refl _)) _
    | (simp only [set_set']; rfl)
end
noncomputable section
inductive P65
  | e
inductive R65
  | r0 (r1 : Int)
  | r1 (r0 : List Int) (r1 : Int)
noncomputable def T65 (p0 : Case) (p1 : Int) : P65 → Tr P65 R65
  | .e => let c1 : Tr P65 R65 := .call 131 [.agg (cC p0)] (tint.lst (caseSets p0)) true true (.br ((((caseSets p0).length) : Int) == (0 : Int)) (.out (.r0 8)) (.out (.r1 (caseSets p0) 0))); let c2 := caseCheck p0; (.call 17 [.agg (cC p0)] (.tuple [iI (c2.1), iI (c2.2.1), iI (c2.2.2)]) true true (.br (c2.2.2 == (0 : Int)) (.br (p1 != (0 : Int)) (.out (.r0 p1)) c1) (.br (c2.2.2 != (0 : Int)) (.out (.r0 (c2.2.2))) c1)))
noncomputable def g65 (p0 : Case) (p1 : Int) : P65 → List Item × St
  | .e => bd Tryz.f65 [.agg (cC p0), iI p1] 26
noncomputable def n65 : R65 → Exit × St
  | .r0 r1 => (.ret, ⟨mk 28 [(4, .nils), (5, iI r1)], [], []⟩)
  | .r1 r0 r1 => (.ret, ⟨mk 28 [(4, tint.lst r0), (5, iI r1)], [], []⟩)
noncomputable def v65 : R65 → V
  | .r0 r1 => .tuple [tint.lst ([] : List Int), iI r1]
  | .r1 r0 r1 => .tuple [tint.lst r0, iI r1]
theorem s65 (p0 : Case) (p1 : Int) : Sm 0 (g65 p0 p1) (T65 p0 p1) (n65)
  | .e => ⟨400, by kernel_rfl⟩
theorem q65 : ∀ r, bodyQ Tryz.prog Tryz.f65 (· = v65 r) (n65 r).1 (n65 r).2
  | .r0 r1 => ⟨.inr rfl, by simp [n65], (.tuple [.nils, iI r1]), (.tuple [tint.lst ([] : List Int), iI r1]), by kernel_rfl, (.tuple rfl fun j hj => match j, hj with | 0, _ => .weak (.imm rfl) VLe.nils | 1, _ => .imm rfl), rfl⟩
  | .r1 r0 r1 => bq (.tuple [tint.lst r0, iI r1]) (by kernel_rfl)
theorem w65 (p0 : Case) (p1 : Int) {post : V → Prop} (h : WQ (T65 p0 p1) v65 post .e) : PC 65 [.agg (cC p0), iI p1] post :=
  PCalls.wq Tryz.func65 (s65 p0 p1) q65 h
theorem c65 (c : Case) (other : Int) : PC 65 [.agg (tCase.cells c), iI other] (· = .tuple [tint.lst (truthsE c other).1, iI (truthsE c other).2]) := by
  refine w65 _ _ (WP.step ?_)
  simp only [T65, Go, Ends', v65, Tr.sure, SS]
  repeat' with_reducible first | intro _ | apply And.intro
  all_goals first | exact c17 _ | exact (c131 c (okCase (by with_reducible assumption))) | (simp [truthsE, Go, Ends', v65, -List.getD_eq_getElem?_getD, *]; done) | (simp_all [truthsE, Go, Ends', v65, -List.getD_eq_getElem?_getD]; done)
  all_goals simp_all [truthsE]
inductive P68
  | e
inductive R68
  | r0 (r0 : Int)
noncomputable def T68 (p0 : Int) (p1 : Int) : P68 → Tr P68 R68
  | .e => let c1 := p1 - (1 : Int); (.need (inR .i64 c1) (.call 61 [iI p0, iI 0, iI c1] (.bool (within p0 0 c1)) true true (.br (!(within p0 0 c1)) (.out (.r0 4)) (.out (.r0 0)))))
noncomputable def g68 (p0 : Int) (p1 : Int) : P68 → List Item × St
  | .e => bd Tryz.f68 [iI p0, iI p1] 8
noncomputable def n68 : R68 → Exit × St
  | .r0 r0 => (.ret, ⟨mk 10 [(4, iI r0)], [], []⟩)
noncomputable def v68 : R68 → V
  | .r0 r0 => iI r0
theorem s68 (p0 : Int) (p1 : Int) : Sm 0 (g68 p0 p1) (T68 p0 p1) (n68)
  | .e => ⟨400, by kernel_rfl⟩
theorem q68 : ∀ r, bodyQ Tryz.prog Tryz.f68 (· = v68 r) (n68 r).1 (n68 r).2
  | .r0 r0 => bq (iI r0) (by kernel_rfl)
theorem w68 (p0 : Int) (p1 : Int) {post : V → Prop} (h : WQ (T68 p0 p1) v68 post .e) : PC 68 [iI p0, iI p1] post :=
  PCalls.wq Tryz.func68 (s68 p0 p1) q68 h
theorem c68 (n : Int) (many : Nat) (hm : many ≤ maxn) : PC 68 [iI n, iI (many : Int)] (· = iI (indexErr n many)) := by
  have hr : inR .i64 ((many : Int) - 1) = true := by unfold maxn at hm; exact inR64 (by omega) (by omega)
  refine w68 _ _ (WP.step ?_)
  simp only [T68, Go, Ends', v68, Tr.sure, SS]
  repeat' with_reducible first | intro _ | apply And.intro
  all_goals first | exact c61 _ _ _ | (simp [indexErr, hr, Go, Ends', v68, -List.getD_eq_getElem?_getD, *]; done)
inductive P69
  | e
  | l0 (x0_5 : Int) (x0_6 : Int)
inductive R69
  | r0 (r0 : Int)
noncomputable def T69 (p0 : List Int) (p1 : Int) : P69 → Tr P69 R69
  | .e => (.go (.l0 0 0))
  | .l0 x0_5 x0_6 => let c1 := p0.getD (x0_6).toNat tint.zero; let c2 := x0_6 + (1 : Int); let c3 := (p0.length : Int); (.br (decide (x0_6 < c3)) (.need (decide (0 ≤ x0_6) && decide (x0_6 < c3)) (.call 133 [iI c1, iI p1] (.bool (hasZ c1 p1)) true true (.br (hasZ c1 p1) (.need (inR .i64 (x0_5 + (1 : Int))) (.need (inR .i64 c2) (.go (.l0 (x0_5 + (1 : Int)) c2)))) (.need (inR .i64 c2) (.go (.l0 x0_5 c2)))))) (.br (x0_5 == c3) (.out (.r0 1)) (.br (x0_5 == (0 : Int)) (.out (.r0 2)) (.out (.r0 0)))))
noncomputable def g69 (p0 : List Int) (p1 : Int) : P69 → List Item × St
  | .e => bd Tryz.f69 [tint.lst p0, iI p1] 26
  | .l0 x0_5 x0_6 => (cutOf Tryz.f69 0, ⟨mk 28 [(0, tint.lst p0), (1, iI p1), (5, iI x0_5), (6, iI x0_6)], [], []⟩)
noncomputable def n69 : R69 → Exit × St
  | .r0 r0 => (.ret, ⟨mk 28 [(4, iI r0)], [], []⟩)
noncomputable def v69 : R69 → V
  | .r0 r0 => iI r0
theorem s69 (p0 : List Int) (p1 : Int) : Sm 0 (g69 p0 p1) (T69 p0 p1) (n69)
  | .e => ⟨400, by kernel_rfl⟩
  | .l0 _ _ => ⟨400, by kernel_rfl⟩
theorem q69 : ∀ r, bodyQ Tryz.prog Tryz.f69 (· = v69 r) (n69 r).1 (n69 r).2
  | .r0 r0 => bq (iI r0) (by kernel_rfl)
theorem w69 (p0 : List Int) (p1 : Int) {post : V → Prop} (h : WQ (T69 p0 p1) v69 post .e) : PC 69 [tint.lst p0, iI p1] post :=
  PCalls.wq Tryz.func69 (s69 p0 p1) q69 h
theorem e69 : ∀ xs w, (callFunc 69 xs).run Tryz.prog w = .ok (.enter 69 xs) w := PCalls.enters Tryz.func69 (c := Tryz.f69.body.getD .skip) (by kernel_rfl) (by kernel_rfl)
theorem c69 (l : List Int) (n : Int) (hs : ∀ s ∈ l, 0 ≤ s ∧ s < 32) (hn : 0 ≤ n ∧ n ≤ 5) : PC 69 [tint.lst l, iI n] (· = iI (settled l n)) := by
  refine PCalls.assume e69 0 (by simp) .list fun hl => ?_
  refine w69 _ _ (WP.step ?_)
  simp only [T69, Go, Ends', v69, Tr.sure, SS]
  repeat' with_reducible first | intro _ | apply And.intro
  refine WP.run (fun i => .l0 (((l.take i).countP fun s => hasZ s n : Nat) : Int) i) rfl l.length (fun i hi => ?_) ?_
  · have hr := inRi hi hl
    have hc := c133 (l.getD i 0) n hn (hs _ (getD_mem 0 l i hi))
    have ht := countP_take (fun s => hasZ s n) l 0 hi
    have hle : (l.take i).countP (fun s => hasZ s n) ≤ i := Nat.le_trans List.countP_le_length (by simp; omega)
    have hr2 : inR .i64 ((((l.take i).countP fun s => hasZ s n : Nat) : Int) + 1) = true := by unfold maxn at hl; exact inR64 (by omega) (by omega)
    refine WP.once ?_
    simp only [T69, Tr.sure, SS, hi, z1]
    repeat' with_reducible first | intro _ | apply And.intro
    all_goals first | exact hc | (simp [hr, hr2, ht, Go, Ends', v69, -List.getD_eq_getElem?_getD, *]; done)
  · rw [List.take_length]
    generalize hk : (l.countP fun s => hasZ s n) = k
    have hset : settled l n = if (k : Int) = (l.length : Int) then 1 else if (k : Int) = 0 then 2 else 0 := by
      subst hk; unfold settled; simp only [Int.natCast_inj, Int.natCast_eq_zero]
    refine WP.step ?_
    simp only [T69, Go, Ends', v69, Tr.sure, SS, Int.lt_irrefl]
    repeat' with_reducible first | intro _ | apply And.intro
    all_goals first | (simp [hset, Go, Ends', v69, -List.getD_eq_getElem?_getD, *]; done) | (simp_all [hset, Go, Ends', v69, -List.getD_eq_getElem?_getD]; done)
end
noncomputable section
theorem truths_ok {c : Case} {o : Int} (h : (truthsE c o).2 = 0) : OkCase c ∧ o = 0 ∧ (truthsE c o).1 = caseSets c := by
  unfold truthsE at h ⊢
  split at h
  · rename_i h1; exact absurd h h1
  · rename_i h1
    split at h
    · rename_i h2; exact absurd h h2
    · rename_i h2
      split at h
      · cases h
      · rename_i h3
        rw [if_neg h1, if_neg h2, if_neg h3]
        exact ⟨okCase (Decidable.not_not.1 h1), Decidable.not_not.1 h2, rfl⟩
theorem index_ok {n : Int} {many : Nat} (h : indexErr n many = 0) : 0 ≤ n ∧ n < many := by
  unfold indexErr at h
  split at h
  · rename_i h1; rw [within_iff] at h1; omega
  · cases h
theorem e22 : ∀ xs w, (callFunc 22 xs).run Tryz.prog w = .ok (.enter 22 xs) w := PCalls.enters Tryz.func22 (c := Tryz.f22.body.getD .skip) (by kernel_rfl) (by kernel_rfl)
inductive P22
  | e
inductive R22
  | r0 (r0 : Int) (r1 : Int)
noncomputable def T22 (p0 : Case) (p1 : Int) : P22 → Tr P22 R22
  | .e => let c2 := (p0.claims.length : Int); let c1 := truthsE p0 (indexErr p1 c2); (.front [(5, 68, [iI p1, iI c2], iI (indexErr p1 c2)), (6, 65, [.agg (cC p0), iI (indexErr p1 c2)], .tuple [tint.lst (c1.1), iI (c1.2)])] [] true true (.br (c1.2 != (0 : Int)) (.out (.r0 0 (c1.2))) (.call 69 [tint.lst (c1.1), iI p1] (iI (settled (c1.1) p1)) true true (.out (.r0 (settled (c1.1) p1) 0)))))
noncomputable def g22 (p0 : Case) (p1 : Int) : P22 → List Item × St
  | .e => bd Tryz.f22 [.agg (cC p0), iI p1] 22
noncomputable def n22 : R22 → Exit × St
  | .r0 r0 r1 => (.ret, ⟨mk 24 [(4, iI r0), (5, iI r1)], [], []⟩)
noncomputable def v22 : R22 → V
  | .r0 r0 r1 => .tuple [iI r0, iI r1]
theorem s22 (p0 : Case) (p1 : Int) : Sm 0 (g22 p0 p1) (T22 p0 p1) (n22)
  | .e => ⟨400, by kernel_rfl⟩
theorem q22 : ∀ r, bodyQ Tryz.prog Tryz.f22 (· = v22 r) (n22 r).1 (n22 r).2
  | .r0 r0 r1 => bq (.tuple [iI r0, iI r1]) (by kernel_rfl)
theorem w22 (p0 : Case) (p1 : Int) {post : V → Prop} (h : WQ (T22 p0 p1) v22 post .e) : PC 22 [.agg (cC p0), iI p1] post :=
  PCalls.wq Tryz.func22 (s22 p0 p1) q22 h
theorem c22 (c : Case) (i : Int) : PC 22 [.agg (tCase.cells c), iI i] (· = .tuple [iI (holdsR c i).1, iI (holdsR c i).2]) := by
  refine PCalls.assume e22 0 (by simp) (.agg 4 .list (by simp [tCase])) fun hcl => ?_
  have key : (truthsE c (indexErr i c.claims.length)).2 = 0 → PC 69 [tint.lst (truthsE c (indexErr i c.claims.length)).1, iI i] (· = iI (settled (truthsE c (indexErr i c.claims.length)).1 i)) := fun h => by
    obtain ⟨h1, h2, h3⟩ := truths_ok h
    have h4 := index_ok h2
    have := h1.five
    rw [h3]
    exact c69 _ _ (fun s hs => caseSets_in hs) (by omega)
  have e3 : (truthsE c (indexErr i c.claims.length)).2 = 0 → (truthsE c (indexErr i c.claims.length)).1 = caseSets c := fun h => (truths_ok h).2.2
  refine w22 _ _ (WP.step ?_)
  simp only [T22, Go, Ends', v22, Tr.sure, SS]
  repeat' with_reducible first | intro _ | apply And.intro
  all_goals first | exact (c68 _ _ hcl) | exact (c65 _ _) | exact (key (by with_reducible assumption)) | (simp [holdsR, e3, Go, Ends', v22, -List.getD_eq_getElem?_getD, *]; done)
end
noncomputable section
theorem truths_cases (c : Case) (o : Int) : (truthsE c o = (caseSets c, 0) ∧ OkCase c ∧ o = 0) ∨ ∃ e, truthsE c o = ([], e) ∧ e ≠ 0 := by
  by_cases h : (truthsE c o).2 = 0
  · obtain ⟨h1, h2, h3⟩ := truths_ok h
    exact .inl ⟨Prod.ext h3 h, h1, h2⟩
  · refine .inr ⟨(truthsE c o).2, ?_, h⟩
    revert h
    unfold truthsE
    split
    · intro _; rfl
    · split
      · intro _; rfl
      · split
        · intro _; rfl
        · intro h; exact absurd rfl h
end
noncomputable section
inductive P96
  | e
  | l0 (x0_9 : Int) (x0_10 : Int)
inductive R96
  | r0 (r0 : Int)
noncomputable def T96 (c : Case) (l : List Cast) (m : Int) (w : Int) : P96 → Tr P96 R96
  | .e => (.go (.l0 0 0))
  | .l0 x0_9 x0_10 => let c2 : Tr P96 R96 := .need (inR .i64 (x0_10 + (1 : Int))) (.go (.l0 x0_9 (x0_10 + (1 : Int)))); let c3 := decide (0 ≤ x0_10) && decide (x0_10 < (l.length : Int)); let c4 := l.getD (x0_10).toNat tCast.zero; let c1 : Tr P96 R96 := .need c3 (.need (inR .i64 (x0_10 + (1 : Int))) (.go (.l0 (c4.number) (x0_10 + (1 : Int))))); let c5 : Tr P96 R96 := .lit false (.lit false c2); (.br (decide (x0_10 < (l.length : Int))) (.need c3 (.br (c4.mould == m) (.need (decide (0 ≤ x0_10) && decide (x0_10 < (c.owners.length : Int))) (.br ((c.owners.getD (x0_10).toNat tint.zero) == w) (.br (x0_9 == (0 : Int)) (.lit true (.lit true c1)) (.need c3 (.lit true (.br (decide (c4.number < x0_9)) c1 c2)))) c5)) (.lit false c5))) (.out (.r0 x0_9)))
noncomputable def g96 (c : Case) (l : List Cast) (m : Int) (w : Int) : P96 → List Item × St
  | .e => bd Tryz.f96 [.agg (cC c), tCast.lst l, iI m, iI w] 48
  | .l0 x0_9 x0_10 => (cutOf Tryz.f96 0, ⟨mk 52 [(1, tCast.lst l), (2, iI m), (3, iI w), (4, .ref 0 0 0), (9, iI x0_9), (10, iI x0_10)], [.cells (cC c)], []⟩)
noncomputable def n96 : R96 → Exit × St
  | .r0 r0 => (.ret, ⟨mk 52 [(8, iI r0)], [], []⟩)
noncomputable def v96 : R96 → V
  | .r0 r0 => iI r0
theorem s96 (c : Case) (l : List Cast) (m : Int) (w : Int) : Sm 0 (g96 c l m w) (T96 c l m w) (n96)
  | .e => ⟨400, by kernel_rfl⟩
  | .l0 _ _ => ⟨400, by kernel_rfl⟩
theorem q96 : ∀ r, bodyQ Tryz.prog Tryz.f96 (· = v96 r) (n96 r).1 (n96 r).2
  | .r0 r0 => bq (iI r0) (by kernel_rfl)
theorem w96 (c : Case) (l : List Cast) (m : Int) (w : Int) {post : V → Prop} (h : WQ (T96 c l m w) v96 post .e) : PC 96 [.agg (cC c), tCast.lst l, iI m, iI w] post :=
  PCalls.wq Tryz.func96 (s96 c l m w) q96 h
theorem c96 (c : Case) (l : List Cast) (m w : Int) (h : l.length ≤ c.owners.length) (h4 : l.length ≤ 4) : PC 96 [.agg (tCase.cells c), tCast.lst l, iI m, iI w] (· = iI (least c l m w)) := by
  refine w96 _ _ _ _ (WP.step ?_)
  simp only [T96, Go, Ends', v96, Tr.sure, SS]
  repeat' with_reducible first | intro _ | apply And.intro
  refine WP.run (fun i => .l0 (natF (leastStep c l m w) 0 i) (i : Int)) rfl l.length (fun i hi => ?_) ?_
  · have hr : inR .i64 ((i : Int) + 1) = true := inR64 (by omega) (by omega)
    have hi' : (i : Int) < l.length := by omega
    have ho : i < c.owners.length := by omega
    have hn : natF (leastStep c l m w) 0 (i + 1) = leastStep c l m w i (natF (leastStep c l m w) 0 i) := rfl
    rw [hn]
    generalize natF (leastStep c l m w) 0 i = n
    unfold leastStep
    refine WP.once ?_
    simp only [T96, Tr.sure, SS, hi', ho, z1, z5]
    repeat' with_reducible first | intro _ | apply And.intro
    all_goals simp [hr, Go, Ends', v96, -List.getD_eq_getElem?_getD, *]
    all_goals (rename_i q1 q2 q3 q4 q5; simp only [q1, q2, q3, q4, beq_self_eq_true, Bool.true_and, Bool.or_true, Bool.or_false, beq_iff_eq, if_true, if_false, Bool.false_eq_true, true_and, Bool.or_eq_true, false_or, or_false]; simp [-List.getD_eq_getElem?_getD]; first | (have q6 := of_decide_eq_true q4; omega) | (have q6 := of_decide_eq_false q4; omega))
  · refine WP.step ?_
    simp only [T96, Go, Ends', v96, Tr.sure, SS, Int.lt_irrefl]
    repeat' with_reducible first | intro _ | apply And.intro
    all_goals simp [least, Go, Ends', v96, -List.getD_eq_getElem?_getD, *]
inductive P38
  | e
  | l0 (x0_9 : Int) (x0_10 : Int) (x0_11 : Int)
inductive R38
  | r0 (r0 : Int) (r1 : Int)
noncomputable def T38 (c : Case) (m : Int) : P38 → Tr P38 R38
  | .e => let c1 := indexErr m (c.shop.moulds.length : Int); let c2 := truthsE c c1; (.front [(6, 68, [iI m, iI (c.shop.moulds.length : Int)], iI c1), (7, 65, [.agg (cC c), iI c1], .tuple [tint.lst (c2.1), iI (c2.2)])] [] true true (.br (c2.2 != (0 : Int)) (.out (.r0 0 (c2.2))) (.call 95 [.agg [iI c.shop.features, tMould.lst c.shop.moulds, tHead.lst c.shop.heads]] ((tlist tCast).lst (truths c.shop)) true true (.go (.l0 0 0 0)))))
  | .l0 x0_9 x0_10 x0_11 => let c1 := (truths c.shop).getD (x0_11).toNat (tlist tCast).zero; let c2 := x0_11 + (1 : Int); let c3 : Tr P38 R38 := .br (x0_10 == (0 : Int)) (.out (.r0 0 0)) (.br (x0_9 == (0 : Int)) (.out (.r0 1 0)) (.out (.r0 2 0))); let c4 := x0_11 < (((truths c.shop).length) : Int); let c5 : Tr P38 R38 := .need (inR .i64 c2) (.go (.l0 x0_9 x0_10 c2)); let c6 := decide (0 ≤ x0_11) && decide c4; let c7 := least c c1 m 1; let c8 := least c c1 m 0; (.br (decide c4) (.front [(6, 96, [.agg (cC c), tCast.lst c1, iI m, iI 0], iI c8)] [] ((c6 && (c6 && true)) && true) true (.call 96 [.agg (cC c), tCast.lst c1, iI m, iI 1] (iI c7) true true (.br (c8 == (0 : Int)) (.lit true c5) (.br (c7 == (0 : Int)) c5 (.br (decide (c8 < c7)) (.need (inR .i64 (x0_9 + (1 : Int))) (.need (inR .i64 c2) (.go (.l0 (x0_9 + (1 : Int)) x0_10 c2)))) (.need (inR .i64 (x0_10 + (1 : Int))) (.need (inR .i64 c2) (.go (.l0 x0_9 (x0_10 + (1 : Int)) c2))))))))) (.br (x0_9 == (0 : Int)) (.br (x0_10 == (0 : Int)) (.out (.r0 0 9)) c3) (.lit false c3)))
noncomputable def g38 (c : Case) (m : Int) : P38 → List Item × St
  | .e => bd Tryz.f38 [.agg (cC c), iI m] 72
  | .l0 x0_9 x0_10 x0_11 => (cutOf Tryz.f38 0, ⟨mk 74 [(1, iI m), (2, .ref 0 0 0), (8, (tlist tCast).lst (truths c.shop)), (9, iI x0_9), (10, iI x0_10), (11, iI x0_11)], [.cells (cC c)], []⟩)
noncomputable def n38 : R38 → Exit × St
  | .r0 r0 r1 => (.ret, ⟨mk 74 [(4, iI r0), (5, iI r1)], [], []⟩)
noncomputable def v38 : R38 → V
  | .r0 r0 r1 => .tuple [iI r0, iI r1]
theorem s38 (c : Case) (m : Int) : Sm 0 (g38 c m) (T38 c m) (n38)
  | .e => ⟨400, by kernel_rfl⟩
  | .l0 _ _ _ => ⟨400, by kernel_rfl⟩
theorem q38 : ∀ r, bodyQ Tryz.prog Tryz.f38 (· = v38 r) (n38 r).1 (n38 r).2
  | .r0 r0 r1 => bq (.tuple [iI r0, iI r1]) (by kernel_rfl)
theorem w38 (c : Case) (m : Int) {post : V → Prop} (h : WQ (T38 c m) v38 post .e) : PC 38 [.agg (cC c), iI m] post :=
  PCalls.wq Tryz.func38 (s38 c m) q38 h
theorem e38 : ∀ xs w, (callFunc 38 xs).run Tryz.prog w = .ok (.enter 38 xs) w := PCalls.enters Tryz.func38 (c := Tryz.f38.body.getD .skip) (by kernel_rfl) (by kernel_rfl)
theorem c38 (c : Case) (m : Int) : PC 38 [.agg (tCase.cells c), iI m] (· = .tuple [iI (olderR c m).1, iI (olderR c m).2]) := by
  refine PCalls.assume e38 0 (by simp) (.agg 1 .list (by simp [tCase])) fun hml => ?_
  have h65 := c65 c (indexErr m c.shop.moulds.length)
  rcases truths_cases c (indexErr m c.shop.moulds.length) with ⟨ht, hok, h2⟩ | ⟨e, ht, he⟩
  · have hts : (truths c.shop).length ≤ 4096 := grow_small hok.shop (n := c.shop.heads.length) hok.shop.nh
    have hnh := hok.shop.nh
    have hmany := hok.many
    have hg := fun l (hl : l ∈ truths c.shop) => (grow_mem hl).1
    have h95 := c95 c.shop hok.shop
    have hf : olderR c m = if (truths c.shop).countP (oldP c m) = 0 ∧ (truths c.shop).countP (newP c m) = 0 then (0, 9)
        else if (truths c.shop).countP (newP c m) = 0 then (0, 0) else if (truths c.shop).countP (oldP c m) = 0 then (1, 0) else (2, 0) := by
      unfold olderR; rw [ht]; simp
    rw [ht] at h65
    generalize hL : truths c.shop = L at *
    refine w38 _ _ (WP.step ?_)
    simp only [T38, Go, Ends', v38, Tr.sure, SS, ht, hL]
    repeat' with_reducible first | intro _ | apply And.intro
    all_goals first | exact (c68 _ _ hml) | exact h65 | exact h95 | skip
    refine WP.run (fun i => .l0 ((L.take i).countP (oldP c m) : Int) ((L.take i).countP (newP c m) : Int) (i : Int)) rfl L.length (fun i hi => ?_) ?_
    · have hr : inR .i64 ((i : Int) + 1) = true := inR64 (by omega) (by omega)
      have hi' : (i : Int) < L.length := by omega
      have hA := countP_takeG (oldP c m) L [] hi
      have hB := countP_takeG (newP c m) L [] hi
      have hA1 : (L.take i).countP (oldP c m) ≤ i := Nat.le_trans List.countP_le_length (by simp; omega)
      have hB1 : (L.take i).countP (newP c m) ≤ i := Nat.le_trans List.countP_le_length (by simp; omega)
      have hrA : inR .i64 (((L.take i).countP (oldP c m) : Int) + 1) = true := inR64 (by omega) (by omega)
      have hrB : inR .i64 (((L.take i).countP (newP c m) : Int) + 1) = true := inR64 (by omega) (by omega)
      have hz : (tlist tCast).zero = ([] : List Cast) := rfl
      have hlen := hg _ (getD_mem [] L i hi)
      rw [hA, hB]
      generalize (L.take i).countP (oldP c m) = A at *
      generalize (L.take i).countP (newP c m) = B at *
      generalize hl : L.getD i [] = l at *
      have k0 := c96 c l m 0 (by omega) (by omega)
      have k1 := c96 c l m 1 (by omega) (by omega)
      unfold oldP newP
      generalize hx : least c l m 0 = x at *
      generalize hy : least c l m 1 = y at *
      refine WP.once ?_
      simp only [T38, Tr.sure, SS, hi', hz, hL, hl, hx, hy]
      repeat' with_reducible first | intro _ | apply And.intro
      all_goals first | exact k0 | exact k1 | (simp [hr, hrA, hrB, Go, Ends', v38, -List.getD_eq_getElem?_getD, *]; done)
    · rw [List.take_length]
      generalize L.countP (oldP c m) = A at *
      generalize L.countP (newP c m) = B at *
      refine WP.step ?_
      simp only [T38, Go, Ends', v38, Tr.sure, SS, Int.lt_irrefl, Int.natCast_eq_zero, hL]
      repeat' with_reducible first | intro _ | apply And.intro
      all_goals first | (simp [hf, Go, Ends', v38, -List.getD_eq_getElem?_getD, *]; done) | (simp_all [hf, Go, Ends', v38, -List.getD_eq_getElem?_getD]; done)
  · have hf : olderR c m = (0, e) := by unfold olderR; rw [ht, if_pos he]
    rw [ht] at h65
    refine w38 _ _ (WP.step ?_)
    simp only [T38, Go, Ends', v38, Tr.sure, SS, ht, he]
    repeat' with_reducible first | intro _ | apply And.intro
    all_goals first | exact (c68 _ _ hml) | exact h65 | (simp [hf, Go, Ends', v38, -List.getD_eq_getElem?_getD, *]; done)
inductive P99
  | e
  | l0 (x0_7 : Int)
inductive R99
  | r0 (r0 : Bool)
noncomputable def T99 (c : Case) (i : Int) (e : Entry) : P99 → Tr P99 R99
  | .e => (.go (.l0 1))
  | .l0 x0_7 => let c1 : Tr P99 R99 := .need (inR .i64 (x0_7 + (1 : Int))) (.go (.l0 (x0_7 + (1 : Int)))); (.br (decide (x0_7 ≤ (2 : Int))) (.call 53 [.agg (cC c), .agg [iI e.head, iI e.feature], iI x0_7] (.agg [iI (((fun c (a : Entry) n => readC c a.head a.feature n) c e x0_7).shop.features), tMould.lst (((fun c (a : Entry) n => readC c a.head a.feature n) c e x0_7).shop.moulds), tHead.lst (((fun c (a : Entry) n => readC c a.head a.feature n) c e x0_7).shop.heads), tint.lst (((fun c (a : Entry) n => readC c a.head a.feature n) c e x0_7).owners), tClaim.lst (((fun c (a : Entry) n => readC c a.head a.feature n) c e x0_7).claims)]) true true (.call 131 [.agg [iI (((fun c (a : Entry) n => readC c a.head a.feature n) c e x0_7).shop.features), tMould.lst (((fun c (a : Entry) n => readC c a.head a.feature n) c e x0_7).shop.moulds), tHead.lst (((fun c (a : Entry) n => readC c a.head a.feature n) c e x0_7).shop.heads), tint.lst (((fun c (a : Entry) n => readC c a.head a.feature n) c e x0_7).owners), tClaim.lst (((fun c (a : Entry) n => readC c a.head a.feature n) c e x0_7).claims)]] (tint.lst (caseSets ((fun c (a : Entry) n => readC c a.head a.feature n) c e x0_7))) true true (.br (decide ((((caseSets ((fun c (a : Entry) n => readC c a.head a.feature n) c e x0_7)).length) : Int) > (0 : Int))) (.call 69 [tint.lst (caseSets ((fun c (a : Entry) n => readC c a.head a.feature n) c e x0_7)), iI i] (iI (settled (caseSets ((fun c (a : Entry) n => readC c a.head a.feature n) c e x0_7)) i)) true true (.br ((settled (caseSets ((fun c (a : Entry) n => readC c a.head a.feature n) c e x0_7)) i) == (0 : Int)) (.out (.r0 false)) c1)) (.lit false c1)))) (.out (.r0 true)))
noncomputable def g99 (c : Case) (i : Int) (e : Entry) : P99 → List Item × St
  | .e => bd Tryz.f99 [.agg (cC c), iI i, .agg [iI e.head, iI e.feature]] 24
  | .l0 x0_7 => (cutOf Tryz.f99 0, ⟨mk 27 [(1, iI i), (3, .ref 0 0 0), (5, .ref 1 0 0), (7, iI x0_7)], [.cells (cC c), .cells [iI e.head, iI e.feature]], []⟩)
noncomputable def n99 : R99 → Exit × St
  | .r0 r0 => (.ret, ⟨mk 27 [(6, .bool r0)], [], []⟩)
noncomputable def v99 : R99 → V
  | .r0 r0 => .bool r0
theorem s99 (c : Case) (i : Int) (e : Entry) : Sm 0 (g99 c i e) (T99 c i e) (n99)
  | .e => ⟨400, by kernel_rfl⟩
  | .l0 _ => ⟨400, by kernel_rfl⟩
theorem q99 : ∀ r, bodyQ Tryz.prog Tryz.f99 (· = v99 r) (n99 r).1 (n99 r).2
  | .r0 r0 => bq (.bool r0) (by kernel_rfl)
theorem w99 (c : Case) (i : Int) (e : Entry) {post : V → Prop} (h : WQ (T99 c i e) v99 post .e) : PC 99 [.agg (cC c), iI i, .agg [iI e.head, iI e.feature]] post :=
  PCalls.wq Tryz.func99 (s99 c i e) q99 h
theorem c99 (c : Case) (i : Int) (e : Entry) (h : OkCase c) (hi : 0 ≤ i ∧ i ≤ 5) (h1 : 0 ≤ e.head ∧ e.head < c.shop.heads.length) (h2 : 0 ≤ e.feature ∧ e.feature < c.shop.features) : PC 99 [.agg (tCase.cells c), iI i, .agg (tEntry.cells e)] (· = .bool (looked c i e)) := by
  have hm : c.shop.heads.getD e.head.toNat zHead ∈ c.shop.heads := getD_mem zHead _ _ (by omega)
  have hh := (h.shop.head _ hm).1
  have hf4 := h.shop.feat
  have hnh := h.shop.nh
  have k53 := fun n => c53 c e n h1 (by omega) (by omega) (by omega)
  refine w99 _ _ _ (WP.step ?_)
  simp only [T99, Go, Ends', v99, Tr.sure, SS]
  repeat' with_reducible first | intro _ | apply And.intro
  refine WP.count (fun j => .l0 ((j : Int) + 1)) (by simp) 2 (fun j => ∀ q : Nat, q < j → lookedP c i e ((q : Int) + 1) = false) (fun q hq => absurd hq (Nat.not_lt_zero q)) (fun j hj hI => ?_) fun hI => ?_
  · have hr : inR .i64 ((j : Int) + 1 + 1) = true := inR64 (by omega) (by omega)
    have hok : OkCase (readC c e.head e.feature ((j : Int) + 1)) := okCase_read h h1 (by omega)
    have k131 := c131 _ hok
    have k69 := c69 (caseSets (readC c e.head e.feature ((j : Int) + 1))) i (fun s hs => caseSets_in hs) hi
    have hj' : (j : Int) + 1 ≤ 2 := by omega
    have hP : lookedP c i e ((j : Int) + 1) = (decide (((caseSets (readC c e.head e.feature ((j : Int) + 1))).length : Int) > 0) && settled (caseSets (readC c e.head e.feature ((j : Int) + 1))) i == 0) := rfl
    have hfin : lookedP c i e ((j : Int) + 1) = true → looked c i e = false := fun q => by
      unfold looked
      rcases show j = 0 ∨ j = 1 by omega with e0 | e0
      · subst e0; rw [show ((0 : Nat) : Int) + 1 = 1 from rfl] at q; rw [q]; rfl
      · subst e0; rw [show ((1 : Nat) : Int) + 1 = 2 from rfl] at q; rw [q]; simp
    have hnext : lookedP c i e ((j : Int) + 1) = false → ∀ q : Nat, q < j + 1 → lookedP c i e ((q : Int) + 1) = false := fun z q hq => by
      by_cases hqj : q = j
      · subst hqj; exact z
      · exact hI q (by omega)
    have k53j := k53 ((j : Int) + 1)
    clear hI
    generalize hR : readC c e.head e.feature ((j : Int) + 1) = R at *
    generalize hS : caseSets R = S at *
    refine WP.once ?_
    simp only [T99, Tr.sure, SS, hj', hR, hS]
    repeat' with_reducible first | intro _ | apply And.intro
    all_goals first | exact k53j | exact k131 | exact k69 | (simp [hr, Go, Ends', v99, -List.getD_eq_getElem?_getD, *]; done) | (simp_all [hr, Go, Ends', v99, -List.getD_eq_getElem?_getD]; done)
  · have hge : ¬ ((2 : Nat) : Int) + 1 ≤ 2 := by omega
    have hl : looked c i e = true := by
      have a := hI 0 (by omega)
      have b := hI 1 (by omega)
      rw [show ((0 : Nat) : Int) + 1 = 1 from rfl] at a
      rw [show ((1 : Nat) : Int) + 1 = 2 from rfl] at b
      unfold looked; rw [a, b]; rfl
    refine WP.step ?_
    simp only [T99, Go, Ends', v99, Tr.sure, SS, hge]
    repeat' with_reducible first | intro _ | apply And.intro
    all_goals simp [hl, Go, Ends', v99, -List.getD_eq_getElem?_getD, *]
theorem holds_ok {c : Case} {i : Int} (h : (holdsR c i).2 = 0) : OkCase c ∧ 0 ≤ i ∧ i < c.claims.length := by
  unfold holdsR at h
  split at h
  · rename_i h1; exact absurd h h1
  · rename_i h1
    obtain ⟨q1, q2, _⟩ := truths_ok (Decidable.not_not.1 h1)
    exact ⟨q1, index_ok q2⟩
theorem lookV {c : Case} {i : Int} {e : Entry} {n : Int} (h : lookR c i = (e, n)) : V.tuple [.agg [iI e.head, iI e.feature], iI n] = V.tuple [.agg (tEntry.cells (lookR c i).1), iI (lookR c i).2] := by rw [h]; rfl
inductive P40
  | e
  | l0 (x0_8 : Int)
  | l1 (x0_8 : Int) (x1_9 : Int)
inductive R40
  | r0 (r0_0 : Int) (r0_1 : Int) (r1 : Int)
noncomputable def T40 (c : Case) (i : Int) : P40 → Tr P40 R40
  | .e => let c2 := holdsR c i; let c1 : Tr P40 R40 := .br (c2.2 != (0 : Int)) (.out (.r0 0 0 (c2.2))) (.go (.l0 0)); (.call 22 [.agg (cC c), iI i] (.tuple [iI (c2.1), iI (c2.2)]) true true (.br (c2.2 == (0 : Int)) (.br (c2.1 != (0 : Int)) (.br ((2 : Int) != (0 : Int)) (.out (.r0 0 0 2)) (.go (.l0 0))) c1) (.lit false c1)))
  | .l0 x0_8 => (.br (decide (x0_8 < (c.shop.heads.length : Int))) (.go (.l1 x0_8 0)) (.out (.r0 0 0 9)))
  | .l1 x0_8 x1_9 => let c1 : Tr P40 R40 := .need (inR .i64 (x1_9 + (1 : Int))) (.go (.l1 x0_8 (x1_9 + (1 : Int)))); let c2 := c.shop.heads.getD (x0_8).toNat tHead.zero; let c3 := looked c i (⟨x0_8, x1_9⟩ : Entry); (.br (decide (x1_9 < c.shop.features)) (.need (decide (0 ≤ x0_8) && decide (x0_8 < (c.shop.heads.length : Int))) (.need (decide (0 ≤ x1_9) && decide (x1_9 < ((c2.shows.length) : Int))) (.br (((c2.shows).getD (x1_9).toNat tint.zero) == (0 : Int)) (.call 99 [.agg (cC c), iI i, .agg [iI x0_8, iI x1_9]] (.bool c3) true true (.br c3 (.out (.r0 x0_8 x1_9 0)) c1)) (.lit false c1)))) (.need (inR .i64 (x0_8 + (1 : Int))) (.go (.l0 (x0_8 + (1 : Int))))))
noncomputable def g40 (c : Case) (i : Int) : P40 → List Item × St
  | .e => bd Tryz.f40 [.agg (cC c), iI i] 62
  | .l0 x0_8 => (cutOf Tryz.f40 0, ⟨mk 64 [(1, iI i), (2, .ref 0 0 0), (4, .ref 1 0 0), (8, iI x0_8)], [.cells (cC c), .cells [iI 0, iI 0]], []⟩)
  | .l1 x0_8 x1_9 => (cutOf Tryz.f40 1, ⟨mk 64 [(1, iI i), (2, .ref 0 0 0), (4, .ref 1 0 0), (8, iI x0_8), (9, iI x1_9)], [.cells (cC c), .cells [iI 0, iI 0]], []⟩)
noncomputable def n40 : R40 → Exit × St
  | .r0 r0_0 r0_1 r1 => (.ret, ⟨mk 64 [(4, .ref 1 0 0), (5, iI r1)], [.gone, .cells [iI r0_0, iI r0_1]], []⟩)
noncomputable def v40 : R40 → V
  | .r0 r0_0 r0_1 r1 => .tuple [.agg [iI r0_0, iI r0_1], iI r1]
theorem s40 (c : Case) (i : Int) : Sm 0 (g40 c i) (T40 c i) (n40)
  | .e => ⟨400, by kernel_rfl⟩
  | .l0 _ => ⟨400, by kernel_rfl⟩
  | .l1 _ _ => ⟨400, by kernel_rfl⟩
theorem q40 : ∀ r, bodyQ Tryz.prog Tryz.f40 (· = v40 r) (n40 r).1 (n40 r).2
  | .r0 r0_0 r0_1 r1 => bq (.tuple [.agg [iI r0_0, iI r0_1], iI r1]) (by kernel_rfl)
theorem w40 (c : Case) (i : Int) {post : V → Prop} (h : WQ (T40 c i) v40 post .e) : PC 40 [.agg (cC c), iI i] post :=
  PCalls.wq Tryz.func40 (s40 c i) q40 h
theorem c40 (c : Case) (i : Int) : PC 40 [.agg (tCase.cells c), iI i] (· = .tuple [.agg (tEntry.cells (lookR c i).1), iI (lookR c i).2]) := by
  have k22 := c22 c i
  by_cases h2 : (holdsR c i).2 = 0
  · by_cases h1 : (holdsR c i).1 = 0
    · obtain ⟨hok, hi0⟩ := holds_ok h2
      have h5 := hok.five
      have hnh := hok.shop.nh
      have hF := hok.shop.feat
      have hf : lookR c i = match ((List.range c.shop.heads.length).flatMap (entriesOf c.shop.features)).find? (lookP c i) with | some e => (e, 0) | none => (⟨0, 0⟩, 9) := by
        unfold lookR; rw [h2, h1]; exact (if_neg (by simp)).trans (if_neg (by simp))
      rw [h1, h2] at k22
      refine w40 _ _ (WP.step ?_)
      simp only [T40, Go, Ends', v40, Tr.sure, SS, h1, h2]
      repeat' with_reducible first | intro _ | apply And.intro
      all_goals first | exact k22 | skip
      refine WP.count (fun h => .l0 (h : Int)) rfl c.shop.heads.length (fun h => ((List.range h).flatMap (entriesOf c.shop.features)).find? (lookP c i) = none) rfl (fun h hh hI => ?_) fun hI => ?_
      · have hh' : (h : Int) < c.shop.heads.length := by omega
        have hr0 : inR .i64 ((h : Int) + 1) = true := inR64 (by omega) (by omega)
        have hm : c.shop.heads.getD h zHead ∈ c.shop.heads := getD_mem zHead _ _ hh
        have hsl := (hok.shop.head _ hm).1
        have hfind := fun l => flat_find (l := l) hh hI
        have hnext := fun z => flat_none (f := entriesOf c.shop.features) hI z
        have main : ∀ φ, WP Tryz.prog ⟨none, 0⟩ (T40 c i) φ (.l1 (h : Int) 0) → WP Tryz.prog ⟨none, 0⟩ (T40 c i) φ (.l0 (h : Int)) := fun φ z => by
          refine WP.step ?_
          simp only [T40, Go, Ends', v40, Tr.sure, SS, hh']
          repeat' with_reducible first | intro _ | apply And.intro
          all_goals exact z
        have hEl : (entriesOf c.shop.features h).length = c.shop.features.toNat := by simp [entriesOf]
        have hEg : ∀ f, f < c.shop.features.toNat → (entriesOf c.shop.features h).getD f ⟨0, 0⟩ = ⟨(h : Int), (f : Int)⟩ := fun f hf => by
          simp [entriesOf, List.getD_eq_getElem?_getD, hf]
        refine main _ (WP.findI (fun f => .l1 (h : Int) (f : Int)) rfl (entriesOf c.shop.features h) ⟨0, 0⟩ (lookP c i) (fun f hf0 => ?_) fun hJ => ?_)
        · rw [hEl] at hf0
          have hr : inR .i64 ((f : Int) + 1) = true := inR64 (by omega) (by omega)
          have hf' : (f : Int) < c.shop.features := by omega
          have hf2 : (f : Int) < (c.shop.heads.getD h zHead).shows.length := by omega
          have hg := hEg f hf0
          have hres : firstI (lookP c i) 0 (entriesOf c.shop.features h) = some f → lookR c i = (⟨(h : Int), (f : Int)⟩, 0) := fun z => by
            obtain ⟨q, z1, z2⟩ := find_firstI _ ⟨0, 0⟩ _ 0 f z
            obtain rfl : f = q := by omega
            rw [hf, hfind _ z2, hg]
          have k99 := c99 c i ⟨(h : Int), (f : Int)⟩ hok (by omega) ⟨by simp, hh'⟩ ⟨by simp, hf'⟩
          have hP : lookP c i ⟨(h : Int), (f : Int)⟩ = ((c.shop.heads.getD h zHead).shows.getD f 0 == 0 && looked c i ⟨(h : Int), (f : Int)⟩) := by simp only [lookP, unreadP, Int.toNat_natCast]
          rw [hg, hP]
          clear hfind hnext hI
          refine WP.once ?_
          simp only [T40, Tr.sure, SS, hh', hf', hf2, z1, z3]
          repeat' with_reducible first | intro _ | apply And.intro
          all_goals first | exact k99 | (simp [hr, hres, Go, Ends', v40, -List.getD_eq_getElem?_getD, *]; done) | skip
          all_goals (rename_i q1 q2; refine .inr ⟨by first | exact ⟨q1, q2⟩ | simp only [q1, q2, beq_self_eq_true, Bool.and_self, and_self], fun z => .inr ?_⟩; exact lookV (hres z))
        · rw [hEl]
          have hge : ¬ ((c.shop.features.toNat : Nat) : Int) < c.shop.features := by omega
          refine WP.once ?_
          simp only [T40, Tr.sure, SS, hge]
          repeat' with_reducible first | intro _ | apply And.intro
          all_goals simp [hr0, hnext (find_none _ _ hJ), Go, Ends', v40, -List.getD_eq_getElem?_getD, *]
      · have hf3 : lookR c i = (⟨0, 0⟩, 9) := by rw [hf, hI]
        refine WP.step ?_
        simp only [T40, Go, Ends', v40, Tr.sure, SS, Int.lt_irrefl]
        repeat' with_reducible first | intro _ | apply And.intro
        all_goals exact (lookV hf3)
    · have hf : lookR c i = (⟨0, 0⟩, 2) := by unfold lookR; rw [h2]; simp [h1]
      rw [h2] at k22
      refine w40 _ _ (WP.step ?_)
      simp only [T40, Go, Ends', v40, Tr.sure, SS, h1, h2]
      repeat' with_reducible first | intro _ | apply And.intro
      all_goals first | exact k22 | exact (lookV hf) | (simp_all [hf, Go, Ends', v40, -List.getD_eq_getElem?_getD]; done)
  · have hf : lookR c i = (⟨0, 0⟩, (holdsR c i).2) := by unfold lookR; rw [if_pos h2]
    refine w40 _ _ (WP.step ?_)
    simp only [T40, Go, Ends', v40, Tr.sure, SS, h2]
    repeat' with_reducible first | intro _ | apply And.intro
    all_goals first | exact k22 | exact (lookV hf)
end
noncomputable section
inductive P6
  | e
inductive R6
  | r0 (r0 : Bool)
noncomputable def T6 (x : Case) (n : Nat → Int) : P6 → Tr P6 R6
  | .e => let c1 := lookR x (n (((1 : Int)).toNat)); let c2 := olderR x (n (((0 : Int)).toNat)); let c3 : V := .tuple [.agg [iI (c1.1.head), iI (c1.1.feature)], iI (c1.2)]; let c4 := decide (0 ≤ (1 : Int)) && decide ((1 : Int) < (2 : Int)); let c5 := decide (0 ≤ (0 : Int)) && decide ((0 : Int) < (2 : Int)); let c6 := decide (((1 : Int)).toNat < 2) && decide (0 < 1); let c7 := decide (((0 : Int)).toNat < 2) && decide (0 < 1); let c8 : Tr P6 R6 := .out (.r0 false); let c9 : List V := [.agg (cC x), iI (n (((1 : Int)).toNat))]; let c10 : List V := [.agg (cC x), iI (n (((0 : Int)).toNat))]; let c11 : V := .tuple [iI (c2.1), iI (c2.2)]; (.need c5 (.need c7 (.call 37 c10 c11 true true (.need c5 (.need c7 (.call 38 c10 c11 true true (.br (c2.1 != c2.1) (.lit true c8) (.br (c2.2 != c2.2) c8 (.need c4 (.need c6 (.call 39 c9 c3 true true (.need c4 (.need c6 (.call 40 c9 c3 true true (.br ((c1.1.head == c1.1.head) && ((c1.1.feature == c1.1.feature) && true)) (.br (c1.2 == c1.2) (.call 23 [] (.bool true) true true (.out (.r0 true))) c8) (.lit false c8))))))))))))))))
noncomputable def g6 (x : Case) (n : Nat → Int) : P6 → List Item × St
  | .e => bd Tryz.f6 [.agg (cC x), .arr 1 2 (rowsFn tint n)] 56
noncomputable def n6 : R6 → Exit × St
  | .r0 r0 => (.ret, ⟨mk 58 [(4, .bool r0)], [], []⟩)
noncomputable def v6 : R6 → V
  | .r0 r0 => .bool r0
theorem s6 (x : Case) (n : Nat → Int) : Sm 0 (g6 x n) (T6 x n) (n6)
  | .e => ⟨400, by kernel_rfl⟩
theorem q6 : ∀ r, bodyQ Tryz.prog Tryz.f6 (· = v6 r) (n6 r).1 (n6 r).2
  | .r0 r0 => bq (.bool r0) (by kernel_rfl)
theorem w6 (x : Case) (n : Nat → Int) {post : V → Prop} (h : WQ (T6 x n) v6 post .e) : PC 6 [.agg (cC x), .arr 1 2 (rowsFn tint n)] post :=
  PCalls.wq Tryz.func6 (s6 x n) q6 h
theorem c6 (x : Case) (n : Nat → Int) : PC 6 [.agg (tCase.cells x), .arr 1 2 (rowsFn tint n)] (· = .bool true) := by
  refine w6 x n (WP.step ?_)
  simp only [T6, Go, Ends', v6, Tr.sure, SS]
  repeat' with_reducible first | intro _ | apply And.intro
  all_goals first | exact (c37 x _) | exact (c38 x _) | exact (c39 x _) | exact (c40 x _) | exact c23 | (simp [Go, Ends', v6, -List.getD_eq_getElem?_getD, *]; done) | (simp_all [Go, Ends', v6, -List.getD_eq_getElem?_getD]; done)
end
end Go.Proofs.YtdamoemndifpmaaGreat
