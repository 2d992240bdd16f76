/-
  Part of the proof of ClaimSets. Conditions: those that stand in each theorem.
-/
import Derived.Test.YtdamoemndifpmaaGreatK301
set_option linter.unusedSimpArgs false
set_option linter.unusedVariables false
set_option maxRecDepth 100000
namespace Go.Proofs.YtdamoemndifpmaaGreat
open Ab Go
noncomputable section
theorem tel_rep {τ : Type} (E : Ty τ) (x : τ) {n : Nat} {cs : List V} (hc : cs = E.cells x) {r j : Nat} (hr : r < n) : VLe (cs.getD j uU) (rowsOf E (List.replicate n x) r j) := by
  subst hc
  have : (List.replicate n x).getD r E.zero = x := by simp [List.getD_eq_getElem?_getD, hr]
  simp only [rowsOf, this]; exact VLe.refl _
theorem set_one (b x : Int) : ([b] : List Int).set 0 x = [x] := rfl
theorem underL_bool (b : Bool) : underL 0 [.bool b] = true := rfl
inductive P183
  | e
  | l0 (x0_6 : Int) (a0_1 : List Int)
  | l1 (x1_5 : List Int) (x1_7 : Int)
  | l2 (x1_7 : Int) (x2_5 : List Int) (x2_8 : Int)
  | l3 (x1_7 : Int) (x2_5 : List Int) (x2_8 : Int) (x3_11 : Int) (a3_2 : List Int)
  | l4 (x1_7 : Int) (x2_5 : List Int) (x2_8 : Int) (x3_11 : Int) (x4_13 : Int) (a4_2 : List Int)
inductive R183
  | r0 (r0 : List Int)
noncomputable def T183 (p0 : Case) (p1 : List Cast) : P183 → Tr P183 R183
  | .e => (.wait 6 (.telb 1 1 1 (litC 1 1 [iI 0]) (rowsOf tint ([0] : List Int)) (.go (.l0 0 ([0] : List Int)))))
  | .l0 x0_6 a0_1 => let c1 := p0.claims.getD (x0_6).toNat tClaim.zero; let c2 := (a0_1.getD ((0 : Int)).toNat tint.zero) + (bitZ x0_6); let c3 := x0_6 + (1 : Int); let c4 := (decide (0 ≤ (0 : Int)) && decide ((0 : Int) < (1 : Int))) && decide (1 ≤ 1); let c5 := x0_6 < (p0.claims.length : Int); let c6 := ([iI c2] : List V); let c7 : Tr P183 R183 := .need (inR .i64 c3) (.go (.l0 c3 a0_1)); let c8 := a0_1.set (((0 : Int)).toNat) c2; let c9 := decide (0 ≤ x0_6) && decide c5; (.br (decide c5) (.need c9 (.call 130 [iI (c1.kind)] (.bool (lasting (c1.kind))) true true (.br (!(lasting (c1.kind))) (.need c9 (.call 44 [.agg [iI (c1.own), iI (c1.kind), iI (c1.a), iI (c1.b), iI (c1.mould), iI (c1.feature), iI (c1.number), iI (c1.worth)], tCast.lst p1, iI 0] (.bool (so c1 p1 0)) true true (.br (so c1 p1 0) (.front [(5, 182, [iI x0_6], iI (bitZ x0_6))] [] ((c4 && ((decide (((0 : Int)).toNat < 1) && decide (0 < 1)) && ((inR .i64 c2) && true))) && true) true (.need c4 (.need ((decide (((0 : Int)).toNat < 1) && decide (0 + c6.length ≤ 1)) && underL 0 c6) (.telb 1 1 1 (fun r' j => if r' = ((0 : Int)).toNat ∧ 0 ≤ j ∧ j < 0 + c6.length then c6.getD (j - 0) uU else (rowsOf tint a0_1) r' j) (rowsOf tint c8) (.need (inR .i64 c3) (.go (.l0 c3 c8))))))) c7))) (.lit false c7)))) (.wait 5 (.frz 1 ((decide (1 ≤ 1)) && true) (.vle 5 (.list 1 1 (rowsOf tint a0_1)) (tint.lst a0_1) (.go (.l1 a0_1 0))))))
  | .l1 x1_5 x1_7 => (.br (decide (x1_7 < (p0.shop.moulds.length : Int))) (.go (.l2 x1_7 x1_5 0)) (.out (.r0 x1_5)))
  | .l2 x1_7 x2_5 x2_8 => let c1 := lastOf p0.shop p1 x1_7 x2_8; (.br (decide (x2_8 < p0.shop.features)) (.call 185 [.agg [iI p0.shop.features, tMould.lst p0.shop.moulds, tHead.lst p0.shop.heads], tCast.lst p1, iI x1_7, iI x2_8] (.agg [iI (c1.lo), iI (c1.hi)]) true true (.wait 2 (.own 10 3 1 (.go (.l3 x1_7 x2_5 x2_8 (c1.lo) ([])))))) (.need (inR .i64 (x1_7 + (1 : Int))) (.go (.l1 x2_5 (x1_7 + (1 : Int))))))
  | .l3 x1_7 x2_5 x2_8 x3_11 a3_2 => let c1 : V := .list 1 a3_2.length (rowsRev tint a3_2); let c2 := decide (a3_2.length ≤ a3_2.length); let c3 := tint.lst a3_2.reverse; (.br (decide (x3_11 ≤ (lastOf p0.shop p1 x1_7 x2_8).hi)) (.call 205 [.agg (cC p0), tCast.lst p1, iI x1_7, iI x2_8, iI x3_11] (iI (aboutR p0 p1 x1_7 x2_8 x3_11)) true true (.go (.l4 x1_7 x2_5 x2_8 x3_11 0 a3_2))) (.need (inR .i64 (x2_8 + (1 : Int))) (.frz 2 (c2 && (c2 && (c2 && true))) (.vle 5 c1 c3 (.vle 10 c1 c3 (.vle 106 c1 c3 (.go (.l2 x1_7 a3_2.reverse (x2_8 + (1 : Int))))))))))
  | .l4 x1_7 x2_5 x2_8 x3_11 x4_13 a4_2 => let c1 := (x2_5.getD (x4_13).toNat tint.zero) + (aboutR p0 p1 x1_7 x2_8 x3_11); let c2 := decide (0 ≤ x4_13) && decide (x4_13 < (x2_5.length : Int)); let c3 := x4_13 + (1 : Int); (.br (decide (x4_13 < (x2_5.length : Int))) (.need c2 (.need (inR .i64 c1) (.call 45 [.list 1 a4_2.length (rowsRev tint a4_2), iI c1] (.bool (hasN a4_2.reverse c1)) ((decide (a4_2.length ≤ a4_2.length)) && true) true (.br (!(hasN a4_2.reverse c1)) (.need c2 (.need (inR .i64 c1) (.need ((decide (a4_2.length = a4_2.length) && decide (a4_2.length + 1 ≤ 4294967296)) && decide (1 ≤ 1)) (.scal (fun _ => true) (.need (inR .i64 c3) (.go (.l4 x1_7 x2_5 x2_8 x3_11 c3 (c1 :: a4_2)))))))) (.need (inR .i64 c3) (.go (.l4 x1_7 x2_5 x2_8 x3_11 c3 a4_2))))))) (.need (inR .i64 (x3_11 + (1 : Int))) (.go (.l3 x1_7 x2_5 x2_8 (x3_11 + (1 : Int)) a4_2))))
noncomputable def g183 (p0 : Case) (p1 : List Cast) : P183 → List Item × St
  | .e => bd Tryz.f183 [.agg (cC p0), tCast.lst p1] 106
  | .l0 x0_6 a0_1 => (cutOf Tryz.f183 0, ⟨mk 108 [(1, tCast.lst p1), (2, .ref 0 0 0), (4, .nils), (5, .row 1 1), (6, iI x0_6)], [.cells (cC p0), .rows 3 1 1 (rowsOf tint a0_1)], []⟩)
  | .l1 x1_5 x1_7 => (cutOf Tryz.f183 1, ⟨mk 108 [(1, tCast.lst p1), (2, .ref 0 0 0), (4, .nils), (5, tint.lst x1_5), (7, iI x1_7)], [.cells (cC p0)], []⟩)
  | .l2 x1_7 x2_5 x2_8 => (cutOf Tryz.f183 2, ⟨mk 108 [(1, tCast.lst p1), (2, .ref 0 0 0), (4, .nils), (5, tint.lst x2_5), (7, iI x1_7), (8, iI x2_8), (47, iI x1_7), (48, .ref 0 0 0), (49, .ref 0 0 1), (50, tMould.lst p0.shop.moulds), (51, iI (p0.shop.moulds.length : Int)), (52, .bool (decide (x1_7 < (p0.shop.moulds.length : Int))))], [.cells (cC p0)], []⟩)
  | .l3 x1_7 x2_5 x2_8 x3_11 a3_2 => (cutOf Tryz.f183 3, ⟨mk 108 [(1, tCast.lst p1), (2, .ref 0 0 0), (4, .nils), (5, tint.lst x2_5), (7, iI x1_7), (8, iI x2_8), (9, .ref 1 0 0), (10, .row 2 a3_2.length), (11, iI x3_11), (47, iI x1_7), (48, .ref 0 0 0), (49, .ref 0 0 1), (50, tMould.lst p0.shop.moulds), (51, iI (p0.shop.moulds.length : Int)), (52, .bool (decide (x1_7 < (p0.shop.moulds.length : Int)))), (55, iI x2_8), (56, .ref 0 0 0), (57, .ref 0 0 0), (58, iI p0.shop.features), (59, .bool (decide (x2_8 < p0.shop.features))), (62, .ref 0 0 0), (63, .agg [iI p0.shop.features, tMould.lst p0.shop.moulds, tHead.lst p0.shop.heads]), (64, tCast.lst p1), (65, iI x1_7), (66, iI x2_8), (67, .agg [iI ((lastOf p0.shop p1 x1_7 x2_8).lo), iI ((lastOf p0.shop p1 x1_7 x2_8).hi)]), (68, .ref 1 0 0), (69, iI ((lastOf p0.shop p1 x1_7 x2_8).lo))], [.cells (cC p0), .cells [iI ((lastOf p0.shop p1 x1_7 x2_8).lo), iI ((lastOf p0.shop p1 x1_7 x2_8).hi)], .rows 3 1 a3_2.length (rowsRev tint a3_2)], []⟩)
  | .l4 x1_7 x2_5 x2_8 x3_11 x4_13 a4_2 => (cutOf Tryz.f183 4, ⟨mk 108 [(1, tCast.lst p1), (2, .ref 0 0 0), (4, .nils), (5, tint.lst x2_5), (7, iI x1_7), (8, iI x2_8), (9, .ref 1 0 0), (10, .row 2 a4_2.length), (11, iI x3_11), (12, iI (aboutR p0 p1 x1_7 x2_8 x3_11)), (13, iI x4_13), (47, iI x1_7), (48, .ref 0 0 0), (49, .ref 0 0 1), (50, tMould.lst p0.shop.moulds), (51, iI (p0.shop.moulds.length : Int)), (52, .bool (decide (x1_7 < (p0.shop.moulds.length : Int)))), (55, iI x2_8), (56, .ref 0 0 0), (57, .ref 0 0 0), (58, iI p0.shop.features), (59, .bool (decide (x2_8 < p0.shop.features))), (62, .ref 0 0 0), (63, .agg [iI p0.shop.features, tMould.lst p0.shop.moulds, tHead.lst p0.shop.heads]), (64, tCast.lst p1), (65, iI x1_7), (66, iI x2_8), (67, .agg [iI ((lastOf p0.shop p1 x1_7 x2_8).lo), iI ((lastOf p0.shop p1 x1_7 x2_8).hi)]), (68, .ref 1 0 0), (69, iI ((lastOf p0.shop p1 x1_7 x2_8).lo)), (70, iI x3_11), (71, .ref 1 0 1), (72, iI ((lastOf p0.shop p1 x1_7 x2_8).hi)), (73, .bool (decide (x3_11 ≤ (lastOf p0.shop p1 x1_7 x2_8).hi))), (76, .agg (cC p0)), (77, tCast.lst p1), (78, iI x1_7), (79, iI x2_8), (80, iI x3_11), (81, iI (aboutR p0 p1 x1_7 x2_8 x3_11))], [.cells (cC p0), .cells [iI ((lastOf p0.shop p1 x1_7 x2_8).lo), iI ((lastOf p0.shop p1 x1_7 x2_8).hi)], .rows 3 1 a4_2.length (rowsRev tint a4_2)], []⟩)
noncomputable def n183 : R183 → Exit × St
  | .r0 r0 => (.ret, ⟨mk 108 [(4, tint.lst r0)], [], []⟩)
noncomputable def v183 : R183 → V
  | .r0 r0 => tint.lst r0
theorem s183 (p0 : Case) (p1 : List Cast) : Sm 0 (g183 p0 p1) (T183 p0 p1) (n183)
  | .e => ⟨400, by kernel_rfl⟩
  | .l0 _ _ => ⟨400, by kernel_rfl⟩
  | .l1 _ _ => ⟨400, by kernel_rfl⟩
  | .l2 _ _ _ => ⟨400, by kernel_rfl⟩
  | .l3 _ _ _ _ _ => ⟨400, by kernel_rfl⟩
  | .l4 _ _ _ _ _ _ => ⟨400, by kernel_rfl⟩
theorem q183 : ∀ r, bodyQ Tryz.prog Tryz.f183 (· = v183 r) (n183 r).1 (n183 r).2
  | .r0 r0 => bq (tint.lst r0) (by kernel_rfl)
theorem w183 (p0 : Case) (p1 : List Cast) {post : V → Prop} (h : WQ (T183 p0 p1) v183 post .e) : PC 183 [.agg (cC p0), tCast.lst p1] post :=
  PCalls.wq Tryz.func183 (s183 p0 p1) q183 h
theorem c183 (c : Case) (l : List Cast) (h : OkCase c) (hl : l.length = c.shop.heads.length) (hc : ∀ x ∈ l, CastOk c.shop x) : PC 183 [.agg (tCase.cells c), tCast.lst l] (· = tint.lst (casesR c l)) := by
  have h5 := h.five
  have hm := h.shop.nm
  have hf := h.shop.feat
  refine w183 _ _ (WP.step ?_)
  simp only [T183, Go, Ends', v183, Tr.sure, SS]
  repeat' with_reducible first | intro _ | apply And.intro
  all_goals first | exact tel_lit tint [0] rfl rfl (fun _ => rfl) rfl (by assumption) (by assumption) | skip
  refine WP.run (fun i => .l0 i [castTo c l i]) rfl c.claims.length (fun i hi => ?_) ?_
  · have hr : inR .i64 ((i : Int) + 1) = true := inR64 (by omega) (by omega)
    have hk := h.cl hi
    have hs : castTo c l (i + 1) = if castP c l i = true then castTo c l i + bitZ i else castTo c l i := mask_succ _ _
    have hm0 := mask_lt (p := castP c l) (n := i) (by omega)
    have hb : inR .i64 (castTo c l i + bitZ i) = true := by
      have : bitZ (i : Int) ≤ 32 := by
        rcases show i = 0 ∨ i = 1 ∨ i = 2 ∨ i = 3 ∨ i = 4 by omega with e | e | e | e | e <;> subst e <;> decide
      have := bitZ_pos (i : Int)
      unfold castTo; exact inR64 (by omega) (by omega)
    have hcl : c.claims.getD i zClaim = cl c i := rfl
    have hcall := c44 (cl c i) l 0 hk.kind (fun e => by have := hk.cast e; omega) (fun e => by have := hk.pair e; omega)
    have hg0 : ([castTo c l i] : List Int).getD 0 0 = castTo c l i := rfl
    refine WP.once ?_
    simp only [T183, Tr.sure, SS, hi, z8, z1, hcl, hg0, Int.toNat_zero]
    repeat' with_reducible first | intro _ | apply And.intro
    all_goals first | exact c130 _ | exact hcall | exact c182 _ (by omega) | exact (tel_set tint _ _ _ _ rfl rfl rfl _ _ (by assumption) (by assumption)) | (simp [hr, hb, hs, castP, set_one, underL_int, Go, Ends', v183, -List.getD_eq_getElem?_getD, *]; done)
  · refine WP.step ?_
    simp only [T183, Go, Ends', v183, Tr.sure, SS, Int.lt_irrefl]
    repeat' with_reducible first | intro _ | apply And.intro
    all_goals first | exact tel_one tint _ rfl | (simp [Go, Ends', v183, -List.getD_eq_getElem?_getD, *]; done) | skip
    refine WP.run (fun m => .l1 (mouldR c l m) m) rfl c.shop.moulds.length (fun m hmi => ?_) ?_
    · have hr : inR .i64 ((m : Int) + 1) = true := inR64 (by omega) (by omega)
      have hml := mouldR_le h.shop l m (by omega)
      have hml' : (mouldR c l m).length ≤ 5764801 := Nat.le_trans hml (by
        rcases show m = 0 ∨ m = 1 ∨ m = 2 by omega with e | e | e <;> subst e <;> decide)
      refine WP.step ?_
      simp only [T183, Go, Ends', v183, Tr.sure, SS, hmi]
      repeat' with_reducible first | intro _ | apply And.intro
      obtain ⟨F, hF⟩ : ∃ F : Nat, c.shop.features.toNat = F := ⟨_, rfl⟩
      refine WP.run (fun f => .l2 m (featR c l m (mouldR c l m) f) f) rfl F (fun f hfi => ?_) ?_
      · have hr' : inR .i64 ((f : Int) + 1) = true := inR64 (by omega) (by omega)
        have hfl : (f : Int) < c.shop.features := by omega
        have hcall := c185 c.shop l m f h.shop (by omega) hc (by omega) (by omega)
        have hout : ∀ o ∈ featR c l m (mouldR c l m) f, 0 ≤ o ∧ o < 32 := fun o ho => featR_in h5 hmi (by omega) ho
        have hlen := featR_le h.shop l (m := (m : Int)) (by omega) (mouldR c l m) f (by omega)
        have h7 := pow7 (F := f) (by omega)
        have hlen' : (featR c l m (mouldR c l m) f).length ≤ 20000000 := by
          by_cases hm0 : m = 0
          · subst hm0
            have : (mouldR c l 0).length = 1 := rfl
            rw [this] at hlen; omega
          · have hm1 : m = 1 := by omega
            subst hm1
            have := Nat.mul_le_mul h7 hml
            simp only [Nat.pow_one] at this
            omega
        have hnext : featR c l m (mouldR c l m) (f + 1) = stepR c l m f (featR c l m (mouldR c l m) f) := rfl
        have hwd := wide_le h.shop l (m := (m : Int)) (f := (f : Int)) (by omega) (by omega)
        have hin := lastOf_in h.shop l (m := (m : Int)) (f := (f : Int)) (by omega) (by omega)
        generalize featR c l m (mouldR c l m) f = out at *
        refine WP.step ?_
        simp only [T183, Go, Ends', v183, Tr.sure, SS, hfl]
        repeat' with_reducible first | intro _ | apply And.intro
        all_goals first | exact hcall | skip
        refine WP.run (fun n => .l3 m out f ((lastOf c.shop l m f).lo + (n : Int)) (lastsN c l m f out n).reverse) (by simp [lastsN, natF]) (Go.Proofs.YtdamoemndifpmaaGreat.wide (lastOf c.shop l m f)) (fun n hn => ?_) ?_
        · have hle : (lastOf c.shop l m f).lo + (n : Int) ≤ (lastOf c.shop l m f).hi := by unfold Go.Proofs.YtdamoemndifpmaaGreat.wide at hn; omega
          have hcall2 := c205 c l m f ((lastOf c.shop l m f).lo + (n : Int)) h
          have hown := mask_lt (p := aboutP c l m f ((lastOf c.shop l m f).lo + (n : Int))) h5
          have hr3 : inR .i64 ((lastOf c.shop l m f).lo + (n : Int) + 1) = true := inR64 (by omega) (by omega)
          have hla := lastsN_le c l m f out n
          have hlb : (lastsN c l m f out n).length ≤ 140000000 := Nat.le_trans hla (Nat.le_trans (Nat.mul_le_mul (show n ≤ 7 by omega) hlen') (by decide))
          have hx : (lastOf c.shop l m f).lo + ((n + 1 : Nat) : Int) = (lastOf c.shop l m f).lo + (n : Int) + 1 := by omega
          have hln : lastsN c l m f out (n + 1) = innerN out (aboutR c l m f ((lastOf c.shop l m f).lo + (n : Int))) (lastsN c l m f out n) out.length := rfl
          refine WP.step ?_
          simp only [T183, Go, Ends', v183, Tr.sure, SS, hle]
          repeat' with_reducible first | intro _ | apply And.intro
          all_goals first | exact hcall2 | skip
          refine WP.run (fun k => .l4 m out f ((lastOf c.shop l m f).lo + (n : Int)) k (innerN out (aboutR c l m f ((lastOf c.shop l m f).lo + (n : Int))) (lastsN c l m f out n) k).reverse) rfl out.length (fun k hk => ?_) ?_
          · have hr4 : inR .i64 ((k : Int) + 1) = true := inR64 (by omega) (by omega)
            have ho := hout _ (getD_mem 0 out k hk)
            have hsum : inR .i64 (out.getD k 0 + aboutR c l m f ((lastOf c.shop l m f).lo + (n : Int))) = true := by
              unfold aboutR aboutTo; exact inR64 (by omega) (by omega)
            have hli := innerN_le out (aboutR c l m f ((lastOf c.shop l m f).lo + (n : Int))) (lastsN c l m f out n) k
            have hnx : innerN out (aboutR c l m f ((lastOf c.shop l m f).lo + (n : Int))) (lastsN c l m f out n) (k + 1) = addNew (innerN out (aboutR c l m f ((lastOf c.shop l m f).lo + (n : Int))) (lastsN c l m f out n) k) (out.getD k 0 + aboutR c l m f ((lastOf c.shop l m f).lo + (n : Int))) := rfl
            generalize innerN out (aboutR c l m f ((lastOf c.shop l m f).lo + (n : Int))) (lastsN c l m f out n) k = nx at *
            have hb : nx.length + 1 ≤ 4294967296 := by omega
            have hcall3 := c45r nx.reverse (out.getD k 0 + aboutR c l m f ((lastOf c.shop l m f).lo + (n : Int)))
            refine WP.once ?_
            simp only [T183, Tr.sure, SS, hk, z1]
            repeat' with_reducible first | intro _ | apply And.intro
            all_goals first | exact hcall3 | (simp [hr4, hsum, hb, hnx, addNew, Go, Ends', v183, -List.getD_eq_getElem?_getD, *]; done) | (simp_all [hr4, hsum, hb, hnx, addNew, Go, Ends', v183, -List.getD_eq_getElem?_getD]; done)
          · refine WP.once ?_
            simp only [T183, Tr.sure, SS, Int.lt_irrefl]
            repeat' with_reducible first | intro _ | apply And.intro
            all_goals first | (simp [hr3, hx, hln, Go, Ends', v183, -List.getD_eq_getElem?_getD, *]; done) | (simp_all [hr3, hx, hln, Go, Ends', v183, -List.getD_eq_getElem?_getD]; done)
        · have hle : ¬ (lastOf c.shop l m f).lo + (Go.Proofs.YtdamoemndifpmaaGreat.wide (lastOf c.shop l m f) : Int) ≤ (lastOf c.shop l m f).hi := by unfold Go.Proofs.YtdamoemndifpmaaGreat.wide; omega
          have he : (lastsN c l m f out (Go.Proofs.YtdamoemndifpmaaGreat.wide (lastOf c.shop l m f))).reverse.reverse = stepR c l m f out := by rw [List.reverse_reverse]; rfl
          refine WP.once ?_
          simp only [T183, Tr.sure, SS, hle]
          repeat' with_reducible first | intro _ | apply And.intro
          all_goals first | exact VLe.rev tint _ | (simp [hr', he, hnext, Go, Ends', v183, -List.getD_eq_getElem?_getD, *]; done)
      · have hle : ¬ (F : Int) < c.shop.features := by omega
        have he : mouldR c l (m + 1) = featR c l m (mouldR c l m) F := by rw [← hF]; rfl
        refine WP.once ?_
        simp only [T183, Tr.sure, SS, hle]
        repeat' with_reducible first | intro _ | apply And.intro
        all_goals simp [hr, he, Go, Ends', v183, -List.getD_eq_getElem?_getD, *]
    · refine WP.step ?_
      simp only [T183, Go, Ends', v183, Tr.sure, SS, Int.lt_irrefl]
      repeat' with_reducible first | intro _ | apply And.intro
      all_goals simp [casesR, Go, Ends', v183, -List.getD_eq_getElem?_getD, *]
theorem bit5 : bitZ 5 = 32 := by decide
theorem tel_repB {n r j : Nat} (hr : r < n) : VLe (([.bool false] : List V).getD j uU) (rowsOf tbool (List.replicate n false) r j) := tel_rep tbool false rfl hr
inductive P131
  | e
  | l0 (x0_5 : Int) (a0_1 : List Bool)
  | l1 (x0_5 : Int) (x1_7 : Int) (a1_1 : List Bool)
  | l2 (a0_1 : List Bool) (x2_9 : Int) (a2_2 : List Int)
inductive R131
  | r0 (r0 : List Int)
noncomputable def T131 (p0 : Case) : P131 → Tr P131 R131
  | .e => let c1 := List.replicate (((bitZ 5)).toNat) false; (.call 95 [.agg [iI p0.shop.features, tMould.lst p0.shop.moulds, tHead.lst p0.shop.heads]] ((tlist tCast).lst (truths p0.shop)) true true (.call 182 [iI 5] (iI (bitZ 5)) true true (.need ((decide (0 ≤ (bitZ 5)) && decide ((bitZ 5) = (bitZ 5))) && decide ((bitZ 5) ≤ 4294967296)) (.telb 1 1 (((bitZ 5)).toNat) (fun _ j => ([.bool false] : List V).getD j uU) (rowsOf tbool c1) (.go (.l0 0 c1))))))
  | .l0 x0_5 a0_1 => let c1 := (truths p0.shop).getD (x0_5).toNat (tlist tCast).zero; let c2 := x0_5 < (((truths p0.shop).length) : Int); (.br (decide c2) (.front [] [] (((decide (0 ≤ x0_5) && decide c2) && true) && true) true (.call 183 [.agg (cC p0), tCast.lst c1] (tint.lst (casesR p0 c1)) true true (.go (.l1 x0_5 0 a0_1)))) (.wait 3 (.own 8 3 1 (.go (.l2 a0_1 0 ([]))))))
  | .l1 x0_5 x1_7 a1_1 => let c1 := (casesR p0 ((truths p0.shop).getD (x0_5).toNat (tlist tCast).zero)).getD (x1_7).toNat tint.zero; let c2 := x1_7 < (((casesR p0 ((truths p0.shop).getD (x0_5).toNat (tlist tCast).zero)).length) : Int); let c3 := ([.bool true] : List V); let c4 := a1_1.set ((c1).toNat) true; (.br (decide c2) (.need (decide (0 ≤ x1_7) && decide c2) (.need ((decide (0 ≤ c1) && decide (c1 < ((((bitZ 5)).toNat) : Int))) && decide (((bitZ 5)).toNat ≤ ((bitZ 5)).toNat)) (.need ((decide ((c1).toNat < ((bitZ 5)).toNat) && decide (0 + c3.length ≤ 1)) && underL 0 c3) (.telb 1 1 (((bitZ 5)).toNat) (fun r' j => if r' = (c1).toNat ∧ 0 ≤ j ∧ j < 0 + c3.length then c3.getD (j - 0) uU else (rowsOf tbool a1_1) r' j) (rowsOf tbool c4) (.need (inR .i64 (x1_7 + (1 : Int))) (.go (.l1 x0_5 (x1_7 + (1 : Int)) c4))))))) (.need (inR .i64 (x0_5 + (1 : Int))) (.go (.l0 (x0_5 + (1 : Int)) a1_1))))
  | .l2 a0_1 x2_9 a2_2 => let c1 := x2_9 + (1 : Int); let c2 := x2_9 < ((((bitZ 5)).toNat) : Int); (.br (decide c2) (.need ((decide (0 ≤ x2_9) && decide c2) && decide (((bitZ 5)).toNat ≤ ((bitZ 5)).toNat)) (.need (decide ((x2_9).toNat < ((bitZ 5)).toNat) && decide (0 < 1)) (.br (a0_1.getD (x2_9).toNat tbool.zero) (.need ((decide (a2_2.length = a2_2.length) && decide (a2_2.length + 1 ≤ 4294967296)) && decide (1 ≤ 1)) (.scal (fun _ => true) (.need (inR .i64 c1) (.go (.l2 a0_1 c1 (x2_9 :: a2_2)))))) (.need (inR .i64 c1) (.go (.l2 a0_1 c1 a2_2)))))) (.out (.r0 a2_2)))
noncomputable def g131 (p0 : Case) : P131 → List Item × St
  | .e => bd Tryz.f131 [.agg (cC p0)] 53
  | .l0 x0_5 a0_1 => (cutOf Tryz.f131 0, ⟨mk 54 [(1, .ref 0 0 0), (2, .nils), (3, (tlist tCast).lst (truths p0.shop)), (4, .row 1 (((bitZ 5)).toNat)), (5, iI x0_5)], [.cells (cC p0), .rows 4 1 (((bitZ 5)).toNat) (rowsOf tbool a0_1)], []⟩)
  | .l1 x0_5 x1_7 a1_1 => (cutOf Tryz.f131 1, ⟨mk 54 [(1, .ref 0 0 0), (2, .nils), (3, (tlist tCast).lst (truths p0.shop)), (4, .row 1 (((bitZ 5)).toNat)), (5, iI x0_5), (6, tint.lst (casesR p0 ((truths p0.shop).getD (x0_5).toNat (tlist tCast).zero))), (7, iI x1_7), (15, iI x0_5), (16, (tlist tCast).lst (truths p0.shop)), (17, iI (((truths p0.shop).length) : Int)), (18, .bool (decide (x0_5 < (((truths p0.shop).length) : Int)))), (21, .agg (cC p0)), (22, (tlist tCast).lst (truths p0.shop)), (23, iI x0_5), (24, rR (tCast.lst ((truths p0.shop).getD (x0_5).toNat (tlist tCast).zero))), (25, tCast.lst ((truths p0.shop).getD (x0_5).toNat (tlist tCast).zero)), (26, tint.lst (casesR p0 ((truths p0.shop).getD (x0_5).toNat (tlist tCast).zero)))], [.cells (cC p0), .rows 4 1 (((bitZ 5)).toNat) (rowsOf tbool a1_1)], []⟩)
  | .l2 a0_1 x2_9 a2_2 => (cutOf Tryz.f131 2, ⟨mk 54 [(2, .nils), (4, .row 1 (((bitZ 5)).toNat)), (8, .row 2 a2_2.length), (9, iI x2_9)], [.gone, .rows 4 1 (((bitZ 5)).toNat) (rowsOf tbool a0_1), .rows 3 1 a2_2.length (rowsRev tint a2_2)], []⟩)
noncomputable def n131 : R131 → Exit × St
  | .r0 r0 => (.ret, ⟨mk 54 [(2, .row 2 r0.length)], [.gone, .gone, .rows 3 1 r0.length (rowsRev tint r0)], []⟩)
noncomputable def v131 : R131 → V
  | .r0 r0 => tint.lst r0.reverse
theorem s131 (p0 : Case) : Sm 0 (g131 p0) (T131 p0) (n131)
  | .e => ⟨400, by kernel_rfl⟩
  | .l0 _ _ => ⟨400, by kernel_rfl⟩
  | .l1 _ _ _ => ⟨400, by kernel_rfl⟩
  | .l2 _ _ _ => ⟨400, by kernel_rfl⟩
theorem q131 : ∀ r, bodyQ Tryz.prog Tryz.f131 (· = v131 r) (n131 r).1 (n131 r).2
  | .r0 r0 => ⟨.inr rfl, by simp [n131], (.row 2 r0.length), (tint.lst r0.reverse), by kernel_rfl, (.weak (.row rfl (Nat.le_refl _)) (VLe.rev tint r0)), rfl⟩
theorem w131 (p0 : Case) {post : V → Prop} (h : WQ (T131 p0) v131 post .e) : PC 131 [.agg (cC p0)] post :=
  PCalls.wq Tryz.func131 (s131 p0) q131 h
theorem c131 (c : Case) (h : OkCase c) : PC 131 [.agg (tCase.cells c)] (· = tint.lst (caseSets c)) := by
  have h5 := h.five
  have hts := grow_small h.shop (n := c.shop.heads.length) h.shop.nh
  have htl : (truths c.shop).length ≤ 4096 := hts
  refine w131 _ (WP.step ?_)
  simp only [T131, Go, Ends', v131, Tr.sure, SS]
  repeat' with_reducible first | intro _ | apply And.intro
  all_goals first | exact c95 _ h.shop | exact c182 _ (by omega) | exact tel_repB (by assumption) | (simp [bit5, Go, Ends', v131, -List.getD_eq_getElem?_getD, *]; done) | skip
  rw [bit5]
  refine WP.run (fun i => .l0 i (metTo c i)) rfl (truths c.shop).length (fun i hi => ?_) ?_
  · have hr : inR .i64 ((i : Int) + 1) = true := inR64 (by omega) (by omega)
    obtain ⟨g1, g2⟩ := grow_mem (getD_mem [] (truths c.shop) i hi)
    have hcall := c183 c ((truths c.shop).getD i []) h g1 g2
    have hin : ∀ x ∈ casesR c ((truths c.shop).getD i []), 0 ≤ x ∧ x < 32 := fun x hx => casesR_lt h5 hx
    have hn : metTo c (i + 1) = markTo (casesR c ((truths c.shop).getD i [])) (metTo c i) (casesR c ((truths c.shop).getD i [])).length := rfl
    have hml := metTo_len c i
    have hcl : (casesR c ((truths c.shop).getD i [])).length ≤ 5764801 := Nat.le_trans (mouldR_le h.shop _ _ (Nat.le_refl _)) (by
      have := h.shop.nm
      rcases show c.shop.moulds.length = 0 ∨ c.shop.moulds.length = 1 ∨ c.shop.moulds.length = 2 by omega with e | e | e <;> rw [e] <;> decide)
    refine WP.step ?_
    simp only [T131, Go, Ends', v131, Tr.sure, SS, hi, z6]
    repeat' with_reducible first | intro _ | apply And.intro
    all_goals first | exact hcall | skip
    generalize hL : casesR c ((truths c.shop).getD i []) = L at *
    refine WP.run (fun k => .l1 i k (markTo L (metTo c i) k)) rfl L.length (fun k hk => ?_) ?_
    · have hr' : inR .i64 ((k : Int) + 1) = true := inR64 (by omega) (by omega)
      have hx := hin _ (getD_mem 0 L k hk)
      have hx' : (L.getD k 0).toNat < 32 := by omega
      have hln : markTo L (metTo c i) (k + 1) = (markTo L (metTo c i) k).set (L.getD k 0).toNat true := rfl
      have hml' := (markTo_len L (metTo c i) k).trans hml
      refine WP.once ?_
      simp only [T131, Tr.sure, SS, hk, z6, z1, bit5, hL, hx, hx']
      repeat' with_reducible first | intro _ | apply And.intro
      all_goals first | exact (tel_set tbool _ _ _ _ rfl rfl hml'.symm _ _ (by assumption) (by assumption)) | (simp [hr', hx, hx', hln, underL_bool, bit5, Go, Ends', v131, -List.getD_eq_getElem?_getD, *]; done)
    · refine WP.once ?_
      simp only [T131, Tr.sure, SS, Int.lt_irrefl, z6, hL]
      repeat' with_reducible first | intro _ | apply And.intro
      all_goals simp [hr, hn, Go, Ends', v131, -List.getD_eq_getElem?_getD, *]
  · refine WP.step ?_
    simp only [T131, Go, Ends', v131, Tr.sure, SS, Int.lt_irrefl]
    repeat' with_reducible first | intro _ | apply And.intro
    refine WP.run (fun n => .l2 (metTo c (truths c.shop).length) n ((((List.range n).filter fun s => (metTo c (truths c.shop).length).getD s false).map fun (s : Nat) => (s : Int)).reverse)) rfl 32 (fun n hn => ?_) ?_
    · have hr : inR .i64 ((n : Int) + 1) = true := inR64 (by omega) (by omega)
      have hn' : (n : Int) < 32 := by omega
      have hl := List.length_filter_le (fun s => (metTo c (truths c.shop).length).getD s false) (List.range n)
      rw [List.length_range] at hl
      have hb : ((((List.range n).filter fun s => (metTo c (truths c.shop).length).getD s false).map fun (s : Nat) => (s : Int)).reverse).length + 1 ≤ 4294967296 := by rw [List.length_reverse, List.length_map]; omega
      refine WP.once ?_
      simp only [T131, Tr.sure, SS, hn, hn', z9, bit5]
      repeat' with_reducible first | intro _ | apply And.intro
      all_goals first | (simp [hr, hb, List.range_succ, hn, hn', Go, Ends', v131, -List.getD_eq_getElem?_getD, *]; done) | (simp_all [hr, hb, List.range_succ, hn, hn', Go, Ends', v131, -List.getD_eq_getElem?_getD]; done)
    · refine WP.step ?_
      simp only [T131, Go, Ends', v131, Tr.sure, SS, bit5]
      repeat' with_reducible first | intro _ | apply And.intro
      all_goals first | (simp [caseSets_met h5, Go, Ends', v131, -List.getD_eq_getElem?_getD, *]; done) | (simp_all [caseSets_met h5, Go, Ends', v131, -List.getD_eq_getElem?_getD]; done)
end
noncomputable section
inductive P65
  | e
inductive R65
  | r0 (r1 : Int)
  | r1 (r0 : List Int) (r1 : Int)
noncomputable def T65 (p0 : Case) (p1 : Int) : P65 → Tr P65 R65
  | .e => let c1 : Tr P65 R65 := .call 131 [.agg (cC p0)] (tint.lst (caseSets p0)) true true (.br ((((caseSets p0).length) : Int) == (0 : Int)) (.out (.r0 8)) (.out (.r1 (caseSets p0) 0))); let c2 := caseCheck p0; (.call 17 [.agg (cC p0)] (.tuple [iI (c2.1), iI (c2.2.1), iI (c2.2.2)]) true true (.br (c2.2.2 == (0 : Int)) (.br (p1 != (0 : Int)) (.out (.r0 p1)) c1) (.br (c2.2.2 != (0 : Int)) (.out (.r0 (c2.2.2))) c1)))
noncomputable def g65 (p0 : Case) (p1 : Int) : P65 → List Item × St
  | .e => bd Tryz.f65 [.agg (cC p0), iI p1] 26
noncomputable def n65 : R65 → Exit × St
  | .r0 r1 => (.ret, ⟨mk 28 [(4, .nils), (5, iI r1)], [], []⟩)
  | .r1 r0 r1 => (.ret, ⟨mk 28 [(4, tint.lst r0), (5, iI r1)], [], []⟩)
noncomputable def v65 : R65 → V
  | .r0 r1 => .tuple [tint.lst ([] : List Int), iI r1]
  | .r1 r0 r1 => .tuple [tint.lst r0, iI r1]
theorem s65 (p0 : Case) (p1 : Int) : Sm 0 (g65 p0 p1) (T65 p0 p1) (n65)
  | .e => ⟨400, by kernel_rfl⟩
theorem q65 : ∀ r, bodyQ Tryz.prog Tryz.f65 (· = v65 r) (n65 r).1 (n65 r).2
  | .r0 r1 => ⟨.inr rfl, by simp [n65], (.tuple [.nils, iI r1]), (.tuple [tint.lst ([] : List Int), iI r1]), by kernel_rfl, (.tuple rfl fun j hj => match j, hj with | 0, _ => .weak (.imm rfl) VLe.nils | 1, _ => .imm rfl), rfl⟩
  | .r1 r0 r1 => bq (.tuple [tint.lst r0, iI r1]) (by kernel_rfl)
theorem w65 (p0 : Case) (p1 : Int) {post : V → Prop} (h : WQ (T65 p0 p1) v65 post .e) : PC 65 [.agg (cC p0), iI p1] post :=
  PCalls.wq Tryz.func65 (s65 p0 p1) q65 h
theorem c65 (c : Case) (other : Int) : PC 65 [.agg (tCase.cells c), iI other] (· = .tuple [tint.lst (truthsE c other).1, iI (truthsE c other).2]) := by
  refine w65 _ _ (WP.step ?_)
  simp only [T65, Go, Ends', v65, Tr.sure, SS]
  repeat' with_reducible first | intro _ | apply And.intro
  all_goals first | exact c17 _ | exact (c131 c (okCase (by with_reducible assumption))) | (simp [truthsE, Go, Ends', v65, -List.getD_eq_getElem?_getD, *]; done) | (simp_all [truthsE, Go, Ends', v65, -List.getD_eq_getElem?_getD]; done)
  all_goals simp_all [truthsE]
inductive P68
  | e
inductive R68
  | r0 (r0 : Int)
noncomputable def T68 (p0 : Int) (p1 : Int) : P68 → Tr P68 R68
  | .e => let c1 := p1 - (1 : Int); (.need (inR .i64 c1) (.call 61 [iI p0, iI 0, iI c1] (.bool (within p0 0 c1)) true true (.br (!(within p0 0 c1)) (.out (.r0 4)) (.out (.r0 0)))))
noncomputable def g68 (p0 : Int) (p1 : Int) : P68 → List Item × St
  | .e => bd Tryz.f68 [iI p0, iI p1] 8
noncomputable def n68 : R68 → Exit × St
  | .r0 r0 => (.ret, ⟨mk 10 [(4, iI r0)], [], []⟩)
noncomputable def v68 : R68 → V
  | .r0 r0 => iI r0
theorem s68 (p0 : Int) (p1 : Int) : Sm 0 (g68 p0 p1) (T68 p0 p1) (n68)
  | .e => ⟨400, by kernel_rfl⟩
theorem q68 : ∀ r, bodyQ Tryz.prog Tryz.f68 (· = v68 r) (n68 r).1 (n68 r).2
  | .r0 r0 => bq (iI r0) (by kernel_rfl)
theorem w68 (p0 : Int) (p1 : Int) {post : V → Prop} (h : WQ (T68 p0 p1) v68 post .e) : PC 68 [iI p0, iI p1] post :=
  PCalls.wq Tryz.func68 (s68 p0 p1) q68 h
theorem c68 (n : Int) (many : Nat) (hm : many ≤ maxn) : PC 68 [iI n, iI (many : Int)] (· = iI (indexErr n many)) := by
  have hr : inR .i64 ((many : Int) - 1) = true := by unfold maxn at hm; exact inR64 (by omega) (by omega)
  refine w68 _ _ (WP.step ?_)
  simp only [T68, Go, Ends', v68, Tr.sure, SS]
  repeat' with_reducible first | intro _ | apply And.intro
  all_goals first | exact c61 _ _ _ | (simp [indexErr, hr, Go, Ends', v68, -List.getD_eq_getElem?_getD, *]; done)
inductive P69
  | e
  | l0 (x0_5 : Int) (x0_6 : Int)
inductive R69
  | r0 (r0 : Int)
noncomputable def T69 (p0 : List Int) (p1 : Int) : P69 → Tr P69 R69
  | .e => (.go (.l0 0 0))
  | .l0 x0_5 x0_6 => let c1 := p0.getD (x0_6).toNat tint.zero; let c2 := x0_6 + (1 : Int); let c3 := (p0.length : Int); (.br (decide (x0_6 < c3)) (.need (decide (0 ≤ x0_6) && decide (x0_6 < c3)) (.call 133 [iI c1, iI p1] (.bool (hasZ c1 p1)) true true (.br (hasZ c1 p1) (.need (inR .i64 (x0_5 + (1 : Int))) (.need (inR .i64 c2) (.go (.l0 (x0_5 + (1 : Int)) c2)))) (.need (inR .i64 c2) (.go (.l0 x0_5 c2)))))) (.br (x0_5 == c3) (.out (.r0 1)) (.br (x0_5 == (0 : Int)) (.out (.r0 2)) (.out (.r0 0)))))
noncomputable def g69 (p0 : List Int) (p1 : Int) : P69 → List Item × St
  | .e => bd Tryz.f69 [tint.lst p0, iI p1] 26
  | .l0 x0_5 x0_6 => (cutOf Tryz.f69 0, ⟨mk 28 [(0, tint.lst p0), (1, iI p1), (5, iI x0_5), (6, iI x0_6)], [], []⟩)
noncomputable def n69 : R69 → Exit × St
  | .r0 r0 => (.ret, ⟨mk 28 [(4, iI r0)], [], []⟩)
noncomputable def v69 : R69 → V
  | .r0 r0 => iI r0
theorem s69 (p0 : List Int) (p1 : Int) : Sm 0 (g69 p0 p1) (T69 p0 p1) (n69)
  | .e => ⟨400, by kernel_rfl⟩
  | .l0 _ _ => ⟨400, by kernel_rfl⟩
theorem q69 : ∀ r, bodyQ Tryz.prog Tryz.f69 (· = v69 r) (n69 r).1 (n69 r).2
  | .r0 r0 => bq (iI r0) (by kernel_rfl)
theorem w69 (p0 : List Int) (p1 : Int) {post : V → Prop} (h : WQ (T69 p0 p1) v69 post .e) : PC 69 [tint.lst p0, iI p1] post :=
  PCalls.wq Tryz.func69 (s69 p0 p1) q69 h
theorem e69 : ∀ xs w, (callFunc 69 xs).run Tryz.prog w = .ok (.enter 69 xs) w := PCalls.enters Tryz.func69 (c := Tryz.f69.body.getD .skip) (by kernel_rfl) (by kernel_rfl)
theorem c69 (l : List Int) (n : Int) (hs : ∀ s ∈ l, 0 ≤ s ∧ s < 32) (hn : 0 ≤ n ∧ n ≤ 5) : PC 69 [tint.lst l, iI n] (· = iI (settled l n)) := by
  refine PCalls.assume e69 0 (by simp) .list fun hl => ?_
  refine w69 _ _ (WP.step ?_)
  simp only [T69, Go, Ends', v69, Tr.sure, SS]
  repeat' with_reducible first | intro _ | apply And.intro
  refine WP.run (fun i => .l0 (((l.take i).countP fun s => hasZ s n : Nat) : Int) i) rfl l.length (fun i hi => ?_) ?_
  · have hr := inRi hi hl
    have hc := c133 (l.getD i 0) n hn (hs _ (getD_mem 0 l i hi))
    have ht := countP_take (fun s => hasZ s n) l 0 hi
    have hle : (l.take i).countP (fun s => hasZ s n) ≤ i := Nat.le_trans List.countP_le_length (by simp; omega)
    have hr2 : inR .i64 ((((l.take i).countP fun s => hasZ s n : Nat) : Int) + 1) = true := by unfold maxn at hl; exact inR64 (by omega) (by omega)
    refine WP.once ?_
    simp only [T69, Tr.sure, SS, hi, z1]
    repeat' with_reducible first | intro _ | apply And.intro
    all_goals first | exact hc | (simp [hr, hr2, ht, Go, Ends', v69, -List.getD_eq_getElem?_getD, *]; done)
  · rw [List.take_length]
    generalize hk : (l.countP fun s => hasZ s n) = k
    have hset : settled l n = if (k : Int) = (l.length : Int) then 1 else if (k : Int) = 0 then 2 else 0 := by
      subst hk; unfold settled; simp only [Int.natCast_inj, Int.natCast_eq_zero]
    refine WP.step ?_
    simp only [T69, Go, Ends', v69, Tr.sure, SS, Int.lt_irrefl]
    repeat' with_reducible first | intro _ | apply And.intro
    all_goals first | (simp [hset, Go, Ends', v69, -List.getD_eq_getElem?_getD, *]; done) | (simp_all [hset, Go, Ends', v69, -List.getD_eq_getElem?_getD]; done)
end
noncomputable section
inductive P19
  | e
inductive R19
  | r0 (r0 : List Int) (r1 : Int)
noncomputable def T19 (p0 : Case) : P19 → Tr P19 R19
  | .e => let c1 := truthsE p0 0; (.call 65 [.agg (cC p0), iI 0] (.tuple [tint.lst (c1.1), iI (c1.2)]) true true (.out (.r0 (c1.1) (c1.2))))
noncomputable def g19 (p0 : Case) : P19 → List Item × St
  | .e => bd Tryz.f19 [.agg (cC p0)] 7
noncomputable def n19 : R19 → Exit × St
  | .r0 r0 r1 => (.ret, ⟨mk 8 [(2, tint.lst r0), (3, iI r1)], [], []⟩)
noncomputable def v19 : R19 → V
  | .r0 r0 r1 => .tuple [tint.lst r0, iI r1]
theorem s19 (p0 : Case) : Sm 0 (g19 p0) (T19 p0) (n19)
  | .e => ⟨400, by kernel_rfl⟩
theorem q19 : ∀ r, bodyQ Tryz.prog Tryz.f19 (· = v19 r) (n19 r).1 (n19 r).2
  | .r0 r0 r1 => bq (.tuple [tint.lst r0, iI r1]) (by kernel_rfl)
theorem w19 (p0 : Case) {post : V → Prop} (h : WQ (T19 p0) v19 post .e) : PC 19 [.agg (cC p0)] post :=
  PCalls.wq Tryz.func19 (s19 p0) q19 h
theorem c19 (c : Case) : PC 19 [.agg (tCase.cells c)] (· = .tuple [tint.lst (truthsE c 0).1, iI (truthsE c 0).2]) := by
  refine w19 _ (WP.step ?_)
  simp only [T19, Go, Ends', v19, Tr.sure, SS]
  repeat' with_reducible first | intro _ | apply And.intro
  all_goals exact (c65 _ _)
theorem truths_ok {c : Case} {o : Int} (h : (truthsE c o).2 = 0) : OkCase c ∧ o = 0 ∧ (truthsE c o).1 = caseSets c := by
  unfold truthsE at h ⊢
  split at h
  · rename_i h1; exact absurd h h1
  · rename_i h1
    split at h
    · rename_i h2; exact absurd h h2
    · rename_i h2
      split at h
      · cases h
      · rename_i h3
        rw [if_neg h1, if_neg h2, if_neg h3]
        exact ⟨okCase (Decidable.not_not.1 h1), Decidable.not_not.1 h2, rfl⟩
theorem index_ok {n : Int} {many : Nat} (h : indexErr n many = 0) : 0 ≤ n ∧ n < many := by
  unfold indexErr at h
  split at h
  · rename_i h1; rw [within_iff] at h1; omega
  · cases h
theorem e22 : ∀ xs w, (callFunc 22 xs).run Tryz.prog w = .ok (.enter 22 xs) w := PCalls.enters Tryz.func22 (c := Tryz.f22.body.getD .skip) (by kernel_rfl) (by kernel_rfl)
inductive P22
  | e
inductive R22
  | r0 (r0 : Int) (r1 : Int)
noncomputable def T22 (p0 : Case) (p1 : Int) : P22 → Tr P22 R22
  | .e => let c2 := (p0.claims.length : Int); let c1 := truthsE p0 (indexErr p1 c2); (.front [(5, 68, [iI p1, iI c2], iI (indexErr p1 c2)), (6, 65, [.agg (cC p0), iI (indexErr p1 c2)], .tuple [tint.lst (c1.1), iI (c1.2)])] [] true true (.br (c1.2 != (0 : Int)) (.out (.r0 0 (c1.2))) (.call 69 [tint.lst (c1.1), iI p1] (iI (settled (c1.1) p1)) true true (.out (.r0 (settled (c1.1) p1) 0)))))
noncomputable def g22 (p0 : Case) (p1 : Int) : P22 → List Item × St
  | .e => bd Tryz.f22 [.agg (cC p0), iI p1] 22
noncomputable def n22 : R22 → Exit × St
  | .r0 r0 r1 => (.ret, ⟨mk 24 [(4, iI r0), (5, iI r1)], [], []⟩)
noncomputable def v22 : R22 → V
  | .r0 r0 r1 => .tuple [iI r0, iI r1]
theorem s22 (p0 : Case) (p1 : Int) : Sm 0 (g22 p0 p1) (T22 p0 p1) (n22)
  | .e => ⟨400, by kernel_rfl⟩
theorem q22 : ∀ r, bodyQ Tryz.prog Tryz.f22 (· = v22 r) (n22 r).1 (n22 r).2
  | .r0 r0 r1 => bq (.tuple [iI r0, iI r1]) (by kernel_rfl)
theorem w22 (p0 : Case) (p1 : Int) {post : V → Prop} (h : WQ (T22 p0 p1) v22 post .e) : PC 22 [.agg (cC p0), iI p1] post :=
  PCalls.wq Tryz.func22 (s22 p0 p1) q22 h
theorem c22 (c : Case) (i : Int) : PC 22 [.agg (tCase.cells c), iI i] (· = .tuple [iI (holdsR c i).1, iI (holdsR c i).2]) := by
  refine PCalls.assume e22 0 (by simp) (.agg 4 .list (by simp [tCase])) fun hcl => ?_
  have key : (truthsE c (indexErr i c.claims.length)).2 = 0 → PC 69 [tint.lst (truthsE c (indexErr i c.claims.length)).1, iI i] (· = iI (settled (truthsE c (indexErr i c.claims.length)).1 i)) := fun h => by
    obtain ⟨h1, h2, h3⟩ := truths_ok h
    have h4 := index_ok h2
    have := h1.five
    rw [h3]
    exact c69 _ _ (fun s hs => caseSets_in hs) (by omega)
  have e3 : (truthsE c (indexErr i c.claims.length)).2 = 0 → (truthsE c (indexErr i c.claims.length)).1 = caseSets c := fun h => (truths_ok h).2.2
  refine w22 _ _ (WP.step ?_)
  simp only [T22, Go, Ends', v22, Tr.sure, SS]
  repeat' with_reducible first | intro _ | apply And.intro
  all_goals first | exact (c68 _ _ hcl) | exact (c65 _ _) | exact (key (by with_reducible assumption)) | (simp [holdsR, e3, Go, Ends', v22, -List.getD_eq_getElem?_getD, *]; done)
end
noncomputable section
theorem sets_eq (x : Case) : (if (truthsE x 0).2 ≠ 0 then [] else caseSets x) = (truthsE x 0).1 := by
  unfold truthsE
  by_cases h : (caseCheck x).2.2 = 0
  · by_cases h2 : (caseSets x).length = 0
    · simp [h, h2]
    · simp [h, h2]
  · simp [h]
theorem c18s (x : Case) : PC 18 [.agg (tCase.cells x)] (· = .tuple [tint.lst (truthsE x 0).1, iI (truthsE x 0).2]) := by
  rw [← sets_eq]; exact c18 x
inductive P3
  | e
inductive R3
  | r0 (r0 : Bool)
noncomputable def T3 (x : Case) (n : Int) : P3 → Tr P3 R3
  | .e => let c1 := truthsE x 0; let c2 := caseCheck x; let c3 : Tr P3 R3 := .out (.r0 false); let c4 := holdsR x n; let c5 : V := .tuple [iI (c2.1), iI (c2.2.1), iI (c2.2.2)]; let c6 : V := .tuple [tint.lst (c1.1), iI (c1.2)]; let c7 : List V := [.agg (cC x)]; let c8 : V := .tuple [iI (c4.1), iI (c4.2)]; (.call 16 c7 c5 true true (.call 17 c7 c5 true true (.br (c2.1 != c2.1) (.lit true (.lit true c3)) (.br (c2.2.1 != c2.2.1) (.lit true c3) (.br (c2.2.2 != c2.2.2) c3 (.call 18 c7 c6 true true (.call 19 c7 c6 true true (.call 20 [tint.lst (c1.1), tint.lst (c1.1)] (.bool (sameI (c1.1) (c1.1))) true true (.br (!(sameI (c1.1) (c1.1))) (.lit true c3) (.br (c1.2 != c1.2) c3 (.call 21 [.agg (cC x), iI n] c8 true true (.call 22 [.agg (cC x), iI n] c8 true true (.br (c4.1 == c4.1) (.br (c4.2 == c4.2) (.call 23 [] (.bool true) true true (.out (.r0 true))) c3) (.lit false c3))))))))))))))
noncomputable def g3 (x : Case) (n : Int) : P3 → List Item × St
  | .e => bd Tryz.f3 [.agg (cC x), iI n] 78
noncomputable def n3 : R3 → Exit × St
  | .r0 r0 => (.ret, ⟨mk 80 [(4, .bool r0)], [], []⟩)
noncomputable def v3 : R3 → V
  | .r0 r0 => .bool r0
theorem s3 (x : Case) (n : Int) : Sm 0 (g3 x n) (T3 x n) (n3)
  | .e => ⟨400, by kernel_rfl⟩
theorem q3 : ∀ r, bodyQ Tryz.prog Tryz.f3 (· = v3 r) (n3 r).1 (n3 r).2
  | .r0 r0 => bq (.bool r0) (by kernel_rfl)
theorem w3 (x : Case) (n : Int) {post : V → Prop} (h : WQ (T3 x n) v3 post .e) : PC 3 [.agg (cC x), iI n] post :=
  PCalls.wq Tryz.func3 (s3 x n) q3 h
theorem sameI_self (l : List Int) : sameI l l = true := by simp [sameI]
theorem c3 (x : Case) (n : Int) : PC 3 [.agg (tCase.cells x), iI n] (· = .bool true) := by
  refine w3 x n (WP.step ?_)
  simp only [T3, Go, Ends', v3, Tr.sure, SS]
  repeat' with_reducible first | intro _ | apply And.intro
  all_goals first | exact (c16 x) | exact (c17 x) | exact (c18s x) | exact (c19 x) | exact (c20 _ _) | exact (c21 x n) | exact (c22 x n) | exact c23 | (simp_all [sameI_self, Go, Ends', v3, -List.getD_eq_getElem?_getD]; done)
end
end Go.Proofs.YtdamoemndifpmaaGreat
